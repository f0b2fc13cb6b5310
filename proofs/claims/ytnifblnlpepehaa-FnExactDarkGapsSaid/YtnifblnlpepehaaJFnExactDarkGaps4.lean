import Derived.Test.YtnifblnlpepehaaJFnExactDarkGaps3
import Derived.Below
import Derived.Deep.Draws
import Derived.Deep.AppendLies
import Derived.Maps.AppendAt
import Derived.OwnWalk
import Derived.Laws.BytesArg
import Derived.Laws.MakeOwn
import Derived.Laws.OwnMore
import Derived.Tactics
import Derived.Lib.ConvBytes
import Derived.Laws.Slices
import Derived.WalkKit
import Derived.KernelRfl
import Derived.RowKit3
import Derived.Deep.LoopGhost
import Derived.Deep.QuietTactic
import Derived.BigQuiet
import Derived.WideLaws
import Derived.Deep.DeepCutAuto
import Derived.Deep.CutBlock
import Derived.Deep.RegionHeld3
import Derived.Lib.AppendStr
import Derived.ArgAppend
import Derived.Laws.IdiomCopy
import Derived.RowKit
import Derived.OrdersHeld
import Derived.Laws.BitsLemmas
import Derived.Laws.StructEq
import Derived.Test.YtnifblnlpepehaaProg
import Derived.ChangeSlices
import Derived.OpenShut
import Derived.Laws.Cover1
namespace Go.Proofs.Ytnifblnlpepehaa.F
open Go.RowKit Go.Proofs.YtnifblnlpepehaaW.PrintWords Go.Proofs.YtnifblnlpepehaaW.PrintLast Go.Proofs.YtnifblnlpepehaaW.PrintMore
attribute [local go_sem] max2_int min2_int max_two min_two max_three min_three max_four min_four
set_option linter.unusedVariables false
set_option linter.unusedSimpArgs false
def laws_szShow.f (k : Nat) (l0_0 : List (S89)) (l0_1 : List (S74)) (l0_2 : List (S77)) (a1 : Int) : Option (Int) := (laws_szBarS.f l0_0 a1).bind fun t857 => (if t857 < 0 then (some (-1)) else ((laws_szArticleS.f k l0_1 t857).bind fun t858 => (if t858 < 0 then (some (-1)) else ((laws_szCueS.f k l0_2 t858).bind fun t859 => (if t859 < 0 then (some (-1)) else (some t859))))))
set_option maxHeartbeats 8000000 in
set_option maxRecDepth 100000 in
theorem laws_szShow.calls (k : Nat) (A0_0 : Option Addr) (c0_0 : Nat) (l0_0 : List (S89)) (A0_1 : Option Addr) (c0_1 : Nat) (l0_1 : List (S74)) (A0_2 : Option Addr) (c0_2 : Nat) (l0_2 : List (S77)) (a1 : Int) (r : Int) (w : World) (hr0_0 : Kd.C k89 w A0_0 l0_0.length l0_0) (hc0_0 : l0_0.length ≤ c0_0) (hr0_1 : Kd.C k74 w A0_1 l0_1.length l0_1) (hc0_1 : l0_1.length ≤ c0_1) (hr0_2 : Kd.C k77 w A0_2 l0_2.length l0_2) (hc0_2 : l0_2.length ≤ c0_2) (h : laws_szShow.f k l0_0 l0_1 l0_2 a1 = some r) :
  Calls Try.prog 5 #[.agg #[.slice A0_0 l0_0.length c0_0, .slice A0_1 l0_1.length c0_1, .slice A0_2 l0_2.length c0_2], .int .i64 a1] w fun e w' => e = .returned (.int .i64 r) ∧ Below w.heap.size w w' := by
 have hu26 := Try.underlying26; have HR0_0 := am_ hr0_0; have HC0_0 := am_ hc0_0; clear hr0_0 hc0_0; have HR0_1 := am_ hr0_1; have HC0_1 := am_ hc0_1; clear hr0_1 hc0_1; have HR0_2 := am_ hr0_2; have HC0_2 := am_ hc0_2; clear hr0_2 hc0_2; have HB := am_ (Below.refl w.heap.size w); have H : ((laws_szBarS.f l0_0 a1).bind fun t857 => (if t857 < 0 then (some (-1)) else ((laws_szArticleS.f k l0_1 t857).bind fun t858 => (if t858 < 0 then (some (-1)) else ((laws_szCueS.f k l0_2 t858).bind fun t859 => (if t859 < 0 then (some (-1)) else (some t859))))))) = some r := h; clear h; replace H := Option.bind_eq_some_iff.mp H; obtain ⟨t857, A30, H⟩ := H; have A3 := am_ A30; clear A30
 by_cases c4 : t857 < 0
 ·rw [if_pos c4] at H
  have c4b0 := decide_eq_true c4; clear c4; obtain rfl := Option.some.inj H
  go_enter Try.func5, Try.ntmps5
  go_wp2_with (first | ((with_reducible refine gate_dst (N := 2) rfl ?_); refine boxZ 2 #[.slice A0_0 l0_0.length c0_0, .slice A0_1 l0_1.length c0_1, .slice A0_2 l0_2.length c0_2] 26 ?_; intro gb856 hg w5 hbox hb; replace BK856 := am_ (hbox); replace GW856 := am_ ((Zc : w.heap.size ≤ gb856)); replace GE856 := GW856; replace HB := (bsZ Zd hb); clear hb hbox hg; refine ci3 BK856 ?_; intros) | ((with_reducible refine gate_callee (f := 20) rfl ?_); refine gZ 8 Try.func20 #[.slice A0_0 l0_0.length c0_0, .int .i64 a1] ?_; (with_reducible refine (laws_szBarS.calls _ _ l0_0 a1 t857 _ ?_ ?_ A3.out).mono ?_); exact (Zz HR0_0); exact HC0_0.out; rintro e w' ⟨rfl, ⟨nd, rfl⟩⟩; refine ⟨_, rfl, ?_⟩))
  go_ret
  exact ⟨Zj, (Zf GE856)⟩
 ·rw [if_neg c4] at H
  have c4b0 := decide_eq_false c4; clear c4; replace H := Option.bind_eq_some_iff.mp H; obtain ⟨t858, A70, H⟩ := H; have A7 := am_ A70; clear A70
  by_cases c8 : t858 < 0
  ·rw [if_pos c8] at H
   have c8b0 := decide_eq_true c8; clear c8; obtain rfl := Option.some.inj H
   go_enter Try.func5, Try.ntmps5
   go_wp2_with (first | ((with_reducible refine gate_dst (N := 2) rfl ?_); refine boxZ 2 #[.slice A0_0 l0_0.length c0_0, .slice A0_1 l0_1.length c0_1, .slice A0_2 l0_2.length c0_2] 26 ?_; intro gb856 hg w9 hbox hb; replace BK856 := am_ (hbox); replace GW856 := am_ ((Zc : w.heap.size ≤ gb856)); replace GE856 := GW856; replace HB := (bsZ Zd hb); clear hb hbox hg; refine ci3 BK856 ?_; intros) | ((with_reducible refine gate_callee (f := 20) rfl ?_); refine gZ 8 Try.func20 #[.slice A0_0 l0_0.length c0_0, .int .i64 a1] ?_; (with_reducible refine (laws_szBarS.calls _ _ l0_0 a1 t857 _ ?_ ?_ A3.out).mono ?_); exact (Zz HR0_0); exact HC0_0.out; rintro e w' ⟨rfl, ⟨nd, rfl⟩⟩; refine ⟨_, rfl, ?_⟩) | ((with_reducible refine gate_callee (f := 21) rfl ?_); refine gZ 14 Try.func21 #[.slice A0_1 l0_1.length c0_1, .int .i64 t857] ?_; (with_reducible refine (laws_szArticleS.calls k _ _ l0_1 t857 t858 _ ?_ ?_ A7.out).mono ?_); exact (Zaa HR0_1 GE856); exact HC0_1.out; rintro e w11 ⟨rfl, hb⟩; refine ⟨_, rfl, ?_⟩; replace BK856 := (bkZ BK856 hb); replace HB := (bsZ (Zf GE856) hb); clear hb))
   go_ret
   exact ⟨Zj, (Zf GE856)⟩
  ·rw [if_neg c8] at H
   have c8b0 := decide_eq_false c8; clear c8; replace H := Option.bind_eq_some_iff.mp H; obtain ⟨t859, A120, H⟩ := H; have A12 := am_ A120; clear A120
   by_cases c13 : t859 < 0
   ·rw [if_pos c13] at H
    have c13b0 := decide_eq_true c13; clear c13; obtain rfl := Option.some.inj H
    go_enter Try.func5, Try.ntmps5
    go_wp2_with (first | ((with_reducible refine gate_dst (N := 2) rfl ?_); refine boxZ 2 #[.slice A0_0 l0_0.length c0_0, .slice A0_1 l0_1.length c0_1, .slice A0_2 l0_2.length c0_2] 26 ?_; intro gb856 hg w14 hbox hb; replace BK856 := am_ (hbox); replace GW856 := am_ ((Zc : w.heap.size ≤ gb856)); replace GE856 := GW856; replace HB := (bsZ Zd hb); clear hb hbox hg; refine ci3 BK856 ?_; intros) | ((with_reducible refine gate_callee (f := 20) rfl ?_); refine gZ 8 Try.func20 #[.slice A0_0 l0_0.length c0_0, .int .i64 a1] ?_; (with_reducible refine (laws_szBarS.calls _ _ l0_0 a1 t857 _ ?_ ?_ A3.out).mono ?_); exact (Zz HR0_0); exact HC0_0.out; rintro e w' ⟨rfl, ⟨nd, rfl⟩⟩; refine ⟨_, rfl, ?_⟩) | ((with_reducible refine gate_callee (f := 21) rfl ?_); refine gZ 14 Try.func21 #[.slice A0_1 l0_1.length c0_1, .int .i64 t857] ?_; (with_reducible refine (laws_szArticleS.calls k _ _ l0_1 t857 t858 _ ?_ ?_ A7.out).mono ?_); exact (Zaa HR0_1 GE856); exact HC0_1.out; rintro e w16 ⟨rfl, hb⟩; refine ⟨_, rfl, ?_⟩; replace BK856 := (bkZ BK856 hb); replace HB := (bsZ (Zf GE856) hb); clear hb; refine ci3 BK856 ?_; intros) | ((with_reducible refine gate_callee (f := 22) rfl ?_); refine gZ 20 Try.func22 #[.slice A0_2 l0_2.length c0_2, .int .i64 t858] ?_; (with_reducible refine (laws_szCueS.calls k _ _ l0_2 t858 t859 _ ?_ ?_ A12.out).mono ?_); exact (Zz HR0_2); exact HC0_2.out; rintro e w18 ⟨rfl, hb⟩; refine ⟨_, rfl, ?_⟩; replace BK856 := (bkZ BK856 hb); replace HB := (bsZ (Zf GE856) hb); clear hb))
    go_ret
    exact ⟨Zj, (Zf GE856)⟩
   ·rw [if_neg c13] at H
    have c13b0 := decide_eq_false c13; clear c13; obtain rfl := Option.some.inj H
    go_enter Try.func5, Try.ntmps5
    go_wp2_with (first | ((with_reducible refine gate_dst (N := 2) rfl ?_); refine boxZ 2 #[.slice A0_0 l0_0.length c0_0, .slice A0_1 l0_1.length c0_1, .slice A0_2 l0_2.length c0_2] 26 ?_; intro gb856 hg w19 hbox hb; replace BK856 := am_ (hbox); replace GW856 := am_ ((Zc : w.heap.size ≤ gb856)); replace GE856 := GW856; replace HB := (bsZ Zd hb); clear hb hbox hg; refine ci3 BK856 ?_; intros) | ((with_reducible refine gate_callee (f := 20) rfl ?_); refine gZ 8 Try.func20 #[.slice A0_0 l0_0.length c0_0, .int .i64 a1] ?_; (with_reducible refine (laws_szBarS.calls _ _ l0_0 a1 t857 _ ?_ ?_ A3.out).mono ?_); exact (Zz HR0_0); exact HC0_0.out; rintro e w' ⟨rfl, ⟨nd, rfl⟩⟩; refine ⟨_, rfl, ?_⟩) | ((with_reducible refine gate_callee (f := 21) rfl ?_); refine gZ 14 Try.func21 #[.slice A0_1 l0_1.length c0_1, .int .i64 t857] ?_; (with_reducible refine (laws_szArticleS.calls k _ _ l0_1 t857 t858 _ ?_ ?_ A7.out).mono ?_); exact (Zaa HR0_1 GE856); exact HC0_1.out; rintro e w21 ⟨rfl, hb⟩; refine ⟨_, rfl, ?_⟩; replace BK856 := (bkZ BK856 hb); replace HB := (bsZ (Zf GE856) hb); clear hb; refine ci3 BK856 ?_; intros) | ((with_reducible refine gate_callee (f := 22) rfl ?_); refine gZ 20 Try.func22 #[.slice A0_2 l0_2.length c0_2, .int .i64 t858] ?_; (with_reducible refine (laws_szCueS.calls k _ _ l0_2 t858 t859 _ ?_ ?_ A12.out).mono ?_); exact (Zz HR0_2); exact HC0_2.out; rintro e w23 ⟨rfl, hb⟩; refine ⟨_, rfl, ?_⟩; replace BK856 := (bkZ BK856 hb); replace HB := (bsZ (Zf GE856) hb); clear hb))
    go_ret
    exact ⟨Zj, (Zf GE856)⟩
 /-! ### laws_toShow: function 7 -/
def laws_toShow.f (k : Nat) (l0_0 : List (S89)) (l0_1 : List (S74)) (l0_2 : List (S77)) (a1 : Bool) : Option ((List (S87)) × (List (S91)) × (List (S80))) := (laws_toBarS.f k l0_0 a1).bind fun t935 => ((laws_toArticleS.f k l0_1 a1).bind fun t938 => ((laws_toCueS.f k l0_2 a1).bind fun t941 => (some (t935, t938, t941))))
set_option maxHeartbeats 8000000 in
set_option maxRecDepth 100000 in
theorem laws_toShow.calls (k : Nat) (A0_0 : Option Addr) (c0_0 : Nat) (l0_0 : List (S89)) (A0_1 : Option Addr) (c0_1 : Nat) (l0_1 : List (S74)) (A0_2 : Option Addr) (c0_2 : Nat) (l0_2 : List (S77)) (a1 : Bool) (r1 : List (S87)) (r2 : List (S91)) (r3 : List (S80)) (w : World) (hr0_0 : Kd.C k89 w A0_0 l0_0.length l0_0) (hc0_0 : l0_0.length ≤ c0_0) (hr0_1 : Kd.C k74 w A0_1 l0_1.length l0_1) (hc0_1 : l0_1.length ≤ c0_1) (hr0_2 : Kd.C k77 w A0_2 l0_2.length l0_2) (hc0_2 : l0_2.length ≤ c0_2) (h : laws_toShow.f k l0_0 l0_1 l0_2 a1 = some (r1, r2, r3)) :
  Calls Try.prog 7 #[.agg #[.slice A0_0 l0_0.length c0_0, .slice A0_1 l0_1.length c0_1, .slice A0_2 l0_2.length c0_2], .bool a1] w fun e w' => ∃ v0_ v1_ v2_ : Value, e = .returned (.agg #[v0_, v1_, v2_]) ∧ Kd.R k87 87 w' w.heap.size (fun _ => True) v0_ r1 ∧ Kd.R k91 91 w' w.heap.size (fun _ => True) v1_ r2 ∧ Kd.R k80 80 w' w.heap.size (fun _ => True) v2_ r3 ∧ Below w.heap.size w w' := by
 have hu26 := Try.underlying26; have hu35 := Try.underlying35; have HR0_0 := am_ hr0_0; have HC0_0 := am_ hc0_0; clear hr0_0 hc0_0; have HR0_1 := am_ hr0_1; have HC0_1 := am_ hc0_1; clear hr0_1 hc0_1; have HR0_2 := am_ hr0_2; have HC0_2 := am_ hc0_2; clear hr0_2 hc0_2; have HB := am_ (Below.refl w.heap.size w); have H : ((laws_toBarS.f k l0_0 a1).bind fun t935 => ((laws_toArticleS.f k l0_1 a1).bind fun t938 => ((laws_toCueS.f k l0_2 a1).bind fun t941 => (some (t935, t938, t941))))) = some (r1, r2, r3) := h; clear h; replace H := Option.bind_eq_some_iff.mp H; obtain ⟨t935, A30, H⟩ := H; have A3 := am_ A30; clear A30; replace H := Option.bind_eq_some_iff.mp H; obtain ⟨t938, A40, H⟩ := H; have A4 := am_ A40; clear A40; replace H := Option.bind_eq_some_iff.mp H; obtain ⟨t941, A50, H⟩ := H; have A5 := am_ A50; clear A50; simp only [Option.some.injEq, Prod.mk.injEq] at H; obtain ⟨rfl, rfl, rfl⟩ := H
 go_enter Try.func7, Try.ntmps7
 go_wp2_with (first | ((with_reducible refine gate_dst (N := 2) rfl ?_); refine boxZ 2 #[.slice A0_0 l0_0.length c0_0, .slice A0_1 l0_1.length c0_1, .slice A0_2 l0_2.length c0_2] 26 ?_; intro gb932 hg w6 hbox hb; replace BK932 := am_ (hbox); replace GW932 := am_ ((Zc : w.heap.size ≤ gb932)); replace GE932 := GW932; replace HB := (bsZ Zd hb); clear hb hbox hg) | ((with_reducible refine gate_dst (N := 4) rfl ?_); refine boxZ 4 #[.slice none 0 0, .slice none 0 0, .slice none 0 0] 35 ?_; intro gb933 hg w7 hbox hb; replace BK933 := am_ (hbox); replace GW933 := am_ (((Ze GE932) : w.heap.size ≤ gb933)); replace GE933 := GW933; replace HB := (bsZ (Zf GE932) hb); replace NB932_933 := am_ ((by rw [hg]; exact Nat.ne_of_lt (blk_lt (g := gb932) (b0Z BK932)) : gb932 ≠ gb933)); replace NB933_932 := am_ ((by rw [hg]; exact Nat.ne_of_gt (blk_lt (g := gb932) (b0Z BK932)) : gb933 ≠ gb932)); replace BK932 := (bkZ BK932 hb); clear hb hbox hg) | ((with_reducible refine gate_dst (N := 5) rfl ?_); refine boxZ 5 #[.slice none 0 0, .slice none 0 0, .slice none 0 0] 35 ?_; intro gb934 hg w8 hbox hb; replace BK934 := am_ (hbox); replace GW934 := am_ (((Zg GE932 GE933) : w.heap.size ≤ gb934)); replace GE934 := GW934; replace HB := (bsZ (Zh GE932 GE933) hb); replace NB932_934 := am_ ((by rw [hg]; exact Nat.ne_of_lt (blk_lt (g := gb932) (b0Z BK932)) : gb932 ≠ gb934)); replace NB934_932 := am_ ((by rw [hg]; exact Nat.ne_of_gt (blk_lt (g := gb932) (b0Z BK932)) : gb934 ≠ gb932)); replace BK932 := (bkZ BK932 hb); replace NB933_934 := am_ ((by rw [hg]; exact Nat.ne_of_lt (blk_lt (g := gb933) (b0Z BK933)) : gb933 ≠ gb934)); replace NB934_933 := am_ ((by rw [hg]; exact Nat.ne_of_gt (blk_lt (g := gb933) (b0Z BK933)) : gb934 ≠ gb933)); replace BK933 := (bkZ BK933 hb); clear hb hbox hg; have hnb9 := NB932_933.out; have hnc9 := NB933_932.out; have hnb10 := NB932_934.out; have hnc10 := NB934_932.out; refine ci3 BK932 ?_; intros) | ((with_reducible refine gate_callee (f := 27) rfl ?_); refine gZ 9 Try.func27 #[.slice A0_0 l0_0.length c0_0, .bool a1] ?_; (with_reducible refine (laws_toBarS.calls k _ _ l0_0 a1 t935 _ ?_ ?_ A3.out).mono ?_); exact (Zz HR0_0); exact HC0_0.out; rintro e w12 ⟨v936, rfl, ho0, hb⟩; refine ⟨_, rfl, ?_⟩; replace HO937 := am_ (Kd.R_lower ho0 (below_size (Zk GE932 GE933 GE934))); replace BK932 := (bkZ BK932 hb); replace BK933 := (bkZ BK933 hb); replace BK934 := (bkZ BK934 hb); replace HB := (bsZ (Zk GE932 GE933 GE934) hb); clear hb ho0; obtain ⟨Ao13, co13, eo13⟩ := Kd.R_slice HO937.out; subst eo13; have hnb14 := NB934_933.out; have hnc14 := NB933_934.out; refine ci3 BK934 ?_; intros; refine ci3 BK932 ?_; intros) | ((with_reducible refine gate_callee (f := 28) rfl ?_); refine gZ 14 Try.func28 #[.slice A0_1 l0_1.length c0_1, .bool a1] ?_; (with_reducible refine (laws_toArticleS.calls k _ _ l0_1 a1 t938 _ ?_ ?_ A4.out).mono ?_); exact Kd.C_below HR0_1.out (Zk GE932 GE933 GE934); exact HC0_1.out; rintro e w17 ⟨v939, rfl, ho0, hb⟩; refine ⟨_, rfl, ?_⟩; replace HO937 := am_ (Kd.R_below (Zab HO937 BK934) hb); replace HO940 := am_ (Kd.R_lower ho0 (below_size (Zk GE932 GE933 GE934))); replace BK932 := am_ (blk_below (g := gb932) (bfZ BK932 NB932_934) hb); replace BK933 := am_ (blk_below (g := gb933) (bfZ BK933 NB933_934) hb); replace BK934 := am_ (blk_below (g := gb934) (o := .cells #[.slice Ao13 t935.length co13, .slice none 0 0, .slice none 0 0] 35 (0, 0)) (bpZ BK934) hb); replace HB := (bsZ (Zk GE932 GE933 GE934) hb); clear hb ho0; obtain ⟨Ao18, co18, eo18⟩ := Kd.R_slice HO940.out; subst eo18; refine ci3 BK934 ?_; intros; refine ci3 BK932 ?_; intros) | ((with_reducible refine gate_callee (f := 29) rfl ?_); refine gZ 19 Try.func29 #[.slice A0_2 l0_2.length c0_2, .bool a1] ?_; (with_reducible refine (laws_toCueS.calls k _ _ l0_2 a1 t941 _ ?_ ?_ A5.out).mono ?_); exact Kd.C_below HR0_2.out (Zk GE932 GE933 GE934); exact HC0_2.out; rintro e w21 ⟨v942, rfl, ho0, hb⟩; refine ⟨_, rfl, ?_⟩; replace HO937 := am_ (Kd.R_below (Zab HO937 BK934) hb); replace HO940 := am_ (Kd.R_below (Zab HO940 BK934) hb); replace HO943 := am_ (Kd.R_lower ho0 (below_size (Zk GE932 GE933 GE934))); replace BK932 := am_ (blk_below (g := gb932) (bfZ BK932 NB932_934) hb); replace BK933 := am_ (blk_below (g := gb933) (bfZ BK933 NB933_934) hb); replace BK934 := am_ (blk_below (g := gb934) (o := .cells #[.slice Ao13 t935.length co13, .slice Ao18 t938.length co18, .slice none 0 0] 35 (0, 0)) (bpZ BK934) hb); replace HB := (bsZ (Zk GE932 GE933 GE934) hb); clear hb ho0; obtain ⟨Ao22, co22, eo22⟩ := Kd.R_slice HO943.out; subst eo22; refine ci3 BK934 ?_; intros; refine ci3 BK933 ?_; intros))
 refine bodyPost_ret (results_cell_row rfl _ _ gb933 35 #[.slice Ao13 t935.length co13, .slice Ao18 t938.length co18, .slice Ao22 t941.length co22] (0, 0) _ rfl (bmZ BK933 NB933_934) Try.underlying35 rfl Zi) rfl ?_; exact ⟨_, _, _, Zj, (Zac HO937 BK934 BK933), (Zac HO940 BK934 BK933), (Zac HO943 BK934 BK933), (Zk GE932 GE933 GE934)⟩
 /-! ### laws_markShow: function 11 -/
def laws_markShow.f (k : Nat) (l0_0 : List (S87)) (l0_1 : List (S91)) (l0_2 : List (S80)) (a1 : Int) : Option (Int × (List (S87)) × (List (S91)) × (List (S80))) := (laws_markBarS.f k l0_0 a1).bind fun bt1020 => ((laws_markArticleS.f k l0_1 bt1020.1).bind fun bt1022 => ((laws_markCueS.f k l0_2 bt1022.1).bind fun bt1024 => (some (bt1024.1, bt1020.2, bt1022.2, bt1024.2))))
set_option maxHeartbeats 8000000 in
set_option maxRecDepth 100000 in
theorem laws_markShow.calls (k : Nat) (P0_0_ : Nat → Prop) (u9000_ : Value) (l0_0 : List (S87)) (P0_1_ : Nat → Prop) (u9001_ : Value) (l0_1 : List (S91)) (P0_2_ : Nat → Prop) (u9002_ : Value) (l0_2 : List (S80)) (a1 : Int) (r1 : Int) (r2 : List (S87)) (r3 : List (S91)) (r4 : List (S80)) (w0 w : World) (hB : Below w0.heap.size w0 w) (ho0_0 : Kd.R k87 87 w w0.heap.size P0_0_ u9000_ l0_0) (ho0_1 : Kd.R k91 91 w w0.heap.size P0_1_ u9001_ l0_1) (ho0_2 : Kd.R k80 80 w w0.heap.size P0_2_ u9002_ l0_2) (h : laws_markShow.f k l0_0 l0_1 l0_2 a1 = some (r1, r2, r3, r4)) :
  Calls Try.prog 11 #[.agg #[u9000_, u9001_, u9002_], .int .i64 a1] w fun e w' => e = .returned (.int .i64 r1) ∧ Kd.R k87 87 w' w0.heap.size (fun k_ => ((P0_0_ k_ ∨ P0_1_ k_ ∨ P0_2_ k_) ∨ w.heap.size ≤ k_)) u9000_ r2 ∧ Kd.R k91 91 w' w0.heap.size (fun k_ => ((P0_0_ k_ ∨ P0_1_ k_ ∨ P0_2_ k_) ∨ w.heap.size ≤ k_)) u9001_ r3 ∧ Kd.R k80 80 w' w0.heap.size (fun k_ => ((P0_0_ k_ ∨ P0_1_ k_ ∨ P0_2_ k_) ∨ w.heap.size ≤ k_)) u9002_ r4 ∧ Below w0.heap.size w0 w' ∧ Kept w w' (fun k_ => P0_0_ k_ ∨ P0_1_ k_ ∨ P0_2_ k_) := by
 have hu35 := Try.underlying35; have HO0_0 := am_ (show Kd.R k87 87 w w0.heap.size (fun k_ => ((P0_0_ k_ ∨ P0_1_ k_ ∨ P0_2_ k_) ∨ w.heap.size ≤ k_)) u9000_ l0_0 from Kd.R_mono ho0_0 (fun k_ hk => (.inl (.inl hk)))); have HO0_1 := am_ (show Kd.R k91 91 w w0.heap.size (fun k_ => ((P0_0_ k_ ∨ P0_1_ k_ ∨ P0_2_ k_) ∨ w.heap.size ≤ k_)) u9001_ l0_1 from Kd.R_mono ho0_1 (fun k_ hk => (.inl (.inr (.inl hk))))); have HO0_2 := am_ (show Kd.R k80 80 w w0.heap.size (fun k_ => ((P0_0_ k_ ∨ P0_1_ k_ ∨ P0_2_ k_) ∨ w.heap.size ≤ k_)) u9002_ l0_2 from Kd.R_mono ho0_2 (fun k_ hk => (.inl (.inr (.inr hk))))); have HK := am_ (Kept.refl w (fun k_ => P0_0_ k_ ∨ P0_1_ k_ ∨ P0_2_ k_)); have HW0 := am_ hB.size; have HB := am_ hB; clear hB; have H : ((laws_markBarS.f k l0_0 a1).bind fun bt1020 => ((laws_markArticleS.f k l0_1 bt1020.1).bind fun bt1022 => ((laws_markCueS.f k l0_2 bt1022.1).bind fun bt1024 => (some (bt1024.1, bt1020.2, bt1022.2, bt1024.2))))) = some (r1, r2, r3, r4) := h; clear h; replace H := Option.bind_eq_some_iff.mp H; obtain ⟨⟨t1020, t1021⟩, A30, H⟩ := H
 dsimp only at H
 have A3 := am_ A30; clear A30; replace H := Option.bind_eq_some_iff.mp H; obtain ⟨⟨t1022, t1023⟩, A40, H⟩ := H
 dsimp only at H
 have A4 := am_ A40; clear A40; replace H := Option.bind_eq_some_iff.mp H; obtain ⟨⟨t1024, t1025⟩, A50, H⟩ := H
 dsimp only at H
 have A5 := am_ A50; clear A50; simp only [Option.some.injEq, Prod.mk.injEq] at H; obtain ⟨rfl, rfl, rfl, rfl⟩ := H; obtain ⟨Ao6, co6, eo6⟩ := Kd.R_slice HO0_0.out; subst eo6; obtain ⟨Ao7, co7, eo7⟩ := Kd.R_slice HO0_1.out; subst eo7; obtain ⟨Ao8, co8, eo8⟩ := Kd.R_slice HO0_2.out; subst eo8
 go_enter Try.func11, Try.ntmps11
 go_wp2_with (first | ((with_reducible refine gate_dst (N := 2) rfl ?_); refine boxZ 2 #[.slice Ao6 l0_0.length co6, .slice Ao7 l0_1.length co7, .slice Ao8 l0_2.length co8] 35 ?_; intro gb1019 hg w9 hbox hb; replace HO0_0 := (hbZ HO0_0 hb); replace HO0_1 := (hbZ HO0_1 hb); replace HO0_2 := (hbZ HO0_2 hb); replace BK1019 := am_ (hbox); replace GW1019 := am_ ((by rw [hg]; exact (by first | exact HK.out.1 | exact (show Kept w _ (fun k_ => P0_0_ k_ ∨ P0_1_ k_ ∨ P0_2_ k_) from Zt).1) : w.heap.size ≤ gb1019)); replace HK := am_ (Kept.below (S := (fun k_ => P0_0_ k_ ∨ P0_1_ k_ ∨ P0_2_ k_)) Zt hb); replace GE1019 := am_ ((Zc : w0.heap.size ≤ gb1019)); replace HB := (bsZ Zd hb); clear hb hbox hg; refine ci3 BK1019 ?_; intros) | ((with_reducible refine gate_callee (f := 37) rfl ?_); refine gZ 8 Try.func37 #[.slice Ao6 l0_0.length co6, .int .i64 a1] ?_; (with_reducible refine (laws_markBarS.calls k (fun k_ => some k_ = (.slice Ao6 l0_0.length co6 : Value).ownBlock) (.slice Ao6 l0_0.length co6) l0_0 a1 t1020 t1021 w0 _ ?_ ?_ A3.out).mono ?_); exact (Zf GE1019); exact Kd.R_tight rfl HO0_0.out; rintro e w11 ⟨rfl, hy0, hb, hkp⟩; refine ⟨_, rfl, ?_⟩; replace HO0_1 := am_ (Kd.R_mono (ok' := fun k_ => ((P0_0_ k_ ∨ P0_1_ k_ ∨ P0_2_ k_) ∨ w.heap.size ≤ k_)) (Kd.R_keptB ((Kd.R_apart' HO0_1.out (Kd.R_typed HO0_0.out) (by decide))) hkp (fun k_ hk_ hs_ => (hk_.2) hs_)) (fun k_ hk_ => hk_.1.1)); replace HO0_2 := am_ (Kd.R_mono (ok' := fun k_ => ((P0_0_ k_ ∨ P0_1_ k_ ∨ P0_2_ k_) ∨ w.heap.size ≤ k_)) (Kd.R_keptB ((Kd.R_apart' HO0_2.out (Kd.R_typed HO0_0.out) (by decide))) hkp (fun k_ hk_ hs_ => (hk_.2) hs_)) (fun k_ hk_ => hk_.1.1)); replace BK1019 := am_ (blk_kept (b0Z BK1019) hkp (fun hs_ => (fun e_ => (Kd.R_ne HO0_0.out BK1019.out (by decide)) e_) hs_)); replace HK := am_ (Kept.then_ (S := (fun k_ => P0_0_ k_ ∨ P0_1_ k_ ∨ P0_2_ k_)) (Zad GW1019) hkp (fun k_ hs_ => (fun e_ => (HO0_0.out.1 k_ e_.symm)) hs_)); replace HO0_0 := am_ (Kd.R_reok rfl hy0 (fun k_ e_ => HO0_0.out.1 k_ e_)); replace HB := am_ (hb); clear hb hkp hy0; refine ci3 BK1019 ?_; intros) | ((with_reducible refine gate_callee (f := 38) rfl ?_); refine gZ 12 Try.func38 #[.slice Ao7 l0_1.length co7, .int .i64 t1020] ?_; (with_reducible refine (laws_markArticleS.calls k (fun k_ => some k_ = (.slice Ao7 l0_1.length co7 : Value).ownBlock) (.slice Ao7 l0_1.length co7) l0_1 t1020 t1022 t1023 w0 _ ?_ ?_ A4.out).mono ?_); exact (Zf GE1019); exact Kd.R_tight rfl HO0_1.out; rintro e w13 ⟨rfl, hy0, hb, hkp⟩; refine ⟨_, rfl, ?_⟩; replace HO0_0 := am_ (Kd.R_mono (ok' := fun k_ => ((P0_0_ k_ ∨ P0_1_ k_ ∨ P0_2_ k_) ∨ w.heap.size ≤ k_)) (Kd.R_keptB ((Kd.R_apart' HO0_0.out (Kd.R_typed HO0_1.out) (by decide))) hkp (fun k_ hk_ hs_ => (hk_.2) hs_)) (fun k_ hk_ => hk_.1.1)); replace HO0_2 := am_ (Kd.R_mono (ok' := fun k_ => ((P0_0_ k_ ∨ P0_1_ k_ ∨ P0_2_ k_) ∨ w.heap.size ≤ k_)) (Kd.R_keptB ((Kd.R_apart' HO0_2.out (Kd.R_typed HO0_1.out) (by decide))) hkp (fun k_ hk_ hs_ => (hk_.2) hs_)) (fun k_ hk_ => hk_.1.1)); replace BK1019 := am_ (blk_kept (b0Z BK1019) hkp (fun hs_ => (fun e_ => (Kd.R_ne HO0_1.out BK1019.out (by decide)) e_) hs_)); replace HK := am_ (Kept.then_ (S := (fun k_ => P0_0_ k_ ∨ P0_1_ k_ ∨ P0_2_ k_)) (Zad GW1019) hkp (fun k_ hs_ => (fun e_ => (HO0_1.out.1 k_ e_.symm)) hs_)); replace HO0_1 := am_ (Kd.R_reok rfl hy0 (fun k_ e_ => HO0_1.out.1 k_ e_)); replace HB := am_ (hb); clear hb hkp hy0; refine ci3 BK1019 ?_; intros) | ((with_reducible refine gate_callee (f := 39) rfl ?_); refine gZ 16 Try.func39 #[.slice Ao8 l0_2.length co8, .int .i64 t1022] ?_; (with_reducible refine (laws_markCueS.calls k (fun k_ => some k_ = (.slice Ao8 l0_2.length co8 : Value).ownBlock) (.slice Ao8 l0_2.length co8) l0_2 t1022 t1024 t1025 w0 _ ?_ ?_ A5.out).mono ?_); exact (Zf GE1019); exact Kd.R_tight rfl HO0_2.out; rintro e w15 ⟨rfl, hy0, hb, hkp⟩; refine ⟨_, rfl, ?_⟩; replace HO0_0 := am_ (Kd.R_mono (ok' := fun k_ => ((P0_0_ k_ ∨ P0_1_ k_ ∨ P0_2_ k_) ∨ w.heap.size ≤ k_)) (Kd.R_keptB ((Kd.R_apart' HO0_0.out (Kd.R_typed HO0_2.out) (by decide))) hkp (fun k_ hk_ hs_ => (hk_.2) hs_)) (fun k_ hk_ => hk_.1.1)); replace HO0_1 := am_ (Kd.R_mono (ok' := fun k_ => ((P0_0_ k_ ∨ P0_1_ k_ ∨ P0_2_ k_) ∨ w.heap.size ≤ k_)) (Kd.R_keptB ((Kd.R_apart' HO0_1.out (Kd.R_typed HO0_2.out) (by decide))) hkp (fun k_ hk_ hs_ => (hk_.2) hs_)) (fun k_ hk_ => hk_.1.1)); replace BK1019 := am_ (blk_kept (b0Z BK1019) hkp (fun hs_ => (fun e_ => (Kd.R_ne HO0_2.out BK1019.out (by decide)) e_) hs_)); replace HK := am_ (Kept.then_ (S := (fun k_ => P0_0_ k_ ∨ P0_1_ k_ ∨ P0_2_ k_)) (Zad GW1019) hkp (fun k_ hs_ => (fun e_ => (HO0_2.out.1 k_ e_.symm)) hs_)); replace HO0_2 := am_ (Kd.R_reok rfl hy0 (fun k_ e_ => HO0_2.out.1 k_ e_)); replace HB := am_ (hb); clear hb hkp hy0))
 go_ret
 exact ⟨Zj, by (with_reducible repeat (first | apply Kd.R_alloc | apply Kd.R_drewN | apply Kd.R_drew)); exact HO0_0.out, by (with_reducible repeat (first | apply Kd.R_alloc | apply Kd.R_drewN | apply Kd.R_drew)); exact HO0_1.out, by (with_reducible repeat (first | apply Kd.R_alloc | apply Kd.R_drewN | apply Kd.R_drew)); exact HO0_2.out, (Zf GE1019), (Zad GW1019)⟩
end Go.Proofs.Ytnifblnlpepehaa.F
namespace Go.Proofs.Ytnifblnlpepehaa.F
open Go.RowKit Go.Proofs.YtnifblnlpepehaaW.PrintWords Go.Proofs.YtnifblnlpepehaaW.PrintLast Go.Proofs.YtnifblnlpepehaaW.PrintMore
set_option linter.unusedVariables false
set_option linter.unusedSimpArgs false
attribute [local go_sem] max2_int min2_int max_two min_two max_three min_three max_four min_four
def full_toShow.f (k : Nat) (l0_0 : List (S89)) (l0_1 : List (S74)) (l0_2 : List (S77)) (a1 : Bool) : Option ((List (S87)) × (List (S91)) × (List (S80))) := (full_toBarS.f k l0_0 a1).bind fun t935 => ((full_toArticleS.f k l0_1 a1).bind fun t938 => ((full_toCueS.f k l0_2 a1).bind fun t941 => (some (t935, t938, t941))))
set_option maxHeartbeats 8000000 in
set_option maxRecDepth 100000 in
theorem full_toShow.calls (k : Nat) (A0_0 : Option Addr) (c0_0 : Nat) (l0_0 : List (S89)) (A0_1 : Option Addr) (c0_1 : Nat) (l0_1 : List (S74)) (A0_2 : Option Addr) (c0_2 : Nat) (l0_2 : List (S77)) (a1 : Bool) (r1 : List (S87)) (r2 : List (S91)) (r3 : List (S80)) (w : World) (hr0_0 : Kd.C k89 w A0_0 l0_0.length l0_0) (hc0_0 : l0_0.length ≤ c0_0) (hr0_1 : Kd.C k74 w A0_1 l0_1.length l0_1) (hc0_1 : l0_1.length ≤ c0_1) (hr0_2 : Kd.C k77 w A0_2 l0_2.length l0_2) (hc0_2 : l0_2.length ≤ c0_2) (h : full_toShow.f k l0_0 l0_1 l0_2 a1 = some (r1, r2, r3)) (n0 : r1 ≠ []) (n1 : r2 ≠ []) (n2 : r3 ≠ []) :
  Calls Try.prog 7 #[.agg #[.slice A0_0 l0_0.length c0_0, .slice A0_1 l0_1.length c0_1, .slice A0_2 l0_2.length c0_2], .bool a1] w fun e w' => ∃ (B0_ : Option Addr) (d0_ : Nat) (B1_ : Option Addr) (d1_ : Nat) (B2_ : Option Addr) (d2_ : Nat), e = .returned (.agg #[.slice B0_ l0_0.length d0_, .slice B1_ l0_1.length d1_, .slice B2_ l0_2.length d2_]) ∧ Kd.R k87 87 w' w.heap.size (fun _ => True) (.slice B0_ r1.length d0_) r1 ∧ Kd.R k91 91 w' w.heap.size (fun _ => True) (.slice B1_ r2.length d1_) r2 ∧ Kd.R k80 80 w' w.heap.size (fun _ => True) (.slice B2_ r3.length d2_) r3 ∧ Below w.heap.size w w' := by
 have hu26 := Try.underlying26; have hu35 := Try.underlying35; have HR0_0 := am_ hr0_0; have HC0_0 := am_ hc0_0; clear hr0_0 hc0_0; have HR0_1 := am_ hr0_1; have HC0_1 := am_ hc0_1; clear hr0_1 hc0_1; have HR0_2 := am_ hr0_2; have HC0_2 := am_ hc0_2; clear hr0_2 hc0_2; have HB := am_ (Below.refl w.heap.size w); have N0 := am_ n0; have N1 := am_ n1; have N2 := am_ n2; clear n0 n1 n2; have H : ((full_toBarS.f k l0_0 a1).bind fun t935 => ((full_toArticleS.f k l0_1 a1).bind fun t938 => ((full_toCueS.f k l0_2 a1).bind fun t941 => (some (t935, t938, t941))))) = some (r1, r2, r3) := h; clear h; replace H := Option.bind_eq_some_iff.mp H; obtain ⟨t935, A30, H⟩ := H; have A3 := am_ A30; clear A30; replace H := Option.bind_eq_some_iff.mp H; obtain ⟨t938, A40, H⟩ := H; have A4 := am_ A40; clear A40; replace H := Option.bind_eq_some_iff.mp H; obtain ⟨t941, A50, H⟩ := H; have A5 := am_ A50; clear A50; simp only [Option.some.injEq, Prod.mk.injEq] at H; obtain ⟨rfl, rfl, rfl⟩ := H
 go_enter Try.func7, Try.ntmps7
 go_wp2_with (first | ((with_reducible refine gate_dst (N := 2) rfl ?_); refine boxZ 2 #[.slice A0_0 l0_0.length c0_0, .slice A0_1 l0_1.length c0_1, .slice A0_2 l0_2.length c0_2] 26 ?_; intro gb932 hg w6 hbox hb; replace BK932 := am_ (hbox); replace GW932 := am_ ((Zc : w.heap.size ≤ gb932)); replace GE932 := GW932; replace HB := (bsZ Zd hb); clear hb hbox hg) | ((with_reducible refine gate_dst (N := 4) rfl ?_); refine boxZ 4 #[.slice none 0 0, .slice none 0 0, .slice none 0 0] 35 ?_; intro gb933 hg w7 hbox hb; replace BK933 := am_ (hbox); replace GW933 := am_ (((Ze GE932) : w.heap.size ≤ gb933)); replace GE933 := GW933; replace HB := (bsZ (Zf GE932) hb); replace NB932_933 := am_ ((by rw [hg]; exact Nat.ne_of_lt (blk_lt (g := gb932) (b0Z BK932)) : gb932 ≠ gb933)); replace NB933_932 := am_ ((by rw [hg]; exact Nat.ne_of_gt (blk_lt (g := gb932) (b0Z BK932)) : gb933 ≠ gb932)); replace BK932 := (bkZ BK932 hb); clear hb hbox hg) | ((with_reducible refine gate_dst (N := 5) rfl ?_); refine boxZ 5 #[.slice none 0 0, .slice none 0 0, .slice none 0 0] 35 ?_; intro gb934 hg w8 hbox hb; replace BK934 := am_ (hbox); replace GW934 := am_ (((Zg GE932 GE933) : w.heap.size ≤ gb934)); replace GE934 := GW934; replace HB := (bsZ (Zh GE932 GE933) hb); replace NB932_934 := am_ ((by rw [hg]; exact Nat.ne_of_lt (blk_lt (g := gb932) (b0Z BK932)) : gb932 ≠ gb934)); replace NB934_932 := am_ ((by rw [hg]; exact Nat.ne_of_gt (blk_lt (g := gb932) (b0Z BK932)) : gb934 ≠ gb932)); replace BK932 := (bkZ BK932 hb); replace NB933_934 := am_ ((by rw [hg]; exact Nat.ne_of_lt (blk_lt (g := gb933) (b0Z BK933)) : gb933 ≠ gb934)); replace NB934_933 := am_ ((by rw [hg]; exact Nat.ne_of_gt (blk_lt (g := gb933) (b0Z BK933)) : gb934 ≠ gb933)); replace BK933 := (bkZ BK933 hb); clear hb hbox hg; have hnb9 := NB932_933.out; have hnc9 := NB933_932.out; have hnb10 := NB932_934.out; have hnc10 := NB934_932.out; refine ci3 BK932 ?_; intros) | ((with_reducible refine gate_callee (f := 27) rfl ?_); refine gZ 9 Try.func27 #[.slice A0_0 l0_0.length c0_0, .bool a1] ?_; (with_reducible refine (full_toBarS.calls k _ _ l0_0 a1 t935 _ ?_ ?_ A3.out).mono ?_); exact (Zz HR0_0); exact HC0_0.out; rintro e w12 ⟨v936, rfl, hof, hb⟩; obtain ⟨Ao13, co13, eo13, hle_, ho0⟩ := hof N0.out; subst eo13; clear hof hle_; refine ⟨_, rfl, ?_⟩; replace HO937 := am_ (Kd.R_lower ho0 (below_size (Zk GE932 GE933 GE934))); replace BK932 := (bkZ BK932 hb); replace BK933 := (bkZ BK933 hb); replace BK934 := (bkZ BK934 hb); replace HB := (bsZ (Zk GE932 GE933 GE934) hb); clear hb; have hnb14 := NB934_933.out; have hnc14 := NB933_934.out; refine ci3 BK934 ?_; intros; refine ci3 BK932 ?_; intros) | ((with_reducible refine gate_callee (f := 28) rfl ?_); refine gZ 14 Try.func28 #[.slice A0_1 l0_1.length c0_1, .bool a1] ?_; (with_reducible refine (full_toArticleS.calls k _ _ l0_1 a1 t938 _ ?_ ?_ A4.out).mono ?_); exact Kd.C_below HR0_1.out (Zk GE932 GE933 GE934); exact HC0_1.out; rintro e w17 ⟨v939, rfl, hof, hb⟩; obtain ⟨Ao18, co18, eo18, hle_, ho0⟩ := hof N1.out; subst eo18; clear hof hle_; refine ⟨_, rfl, ?_⟩; replace HO937 := am_ (Kd.R_below (Zab HO937 BK934) hb); replace HO940 := am_ (Kd.R_lower ho0 (below_size (Zk GE932 GE933 GE934))); replace BK932 := am_ (blk_below (g := gb932) (bfZ BK932 NB932_934) hb); replace BK933 := am_ (blk_below (g := gb933) (bfZ BK933 NB933_934) hb); replace BK934 := am_ (blk_below (g := gb934) (o := .cells #[.slice Ao13 l0_0.length co13, .slice none 0 0, .slice none 0 0] 35 (0, 0)) (bpZ BK934) hb); replace HB := (bsZ (Zk GE932 GE933 GE934) hb); clear hb; refine ci3 BK934 ?_; intros; refine ci3 BK932 ?_; intros) | ((with_reducible refine gate_callee (f := 29) rfl ?_); refine gZ 19 Try.func29 #[.slice A0_2 l0_2.length c0_2, .bool a1] ?_; (with_reducible refine (full_toCueS.calls k _ _ l0_2 a1 t941 _ ?_ ?_ A5.out).mono ?_); exact Kd.C_below HR0_2.out (Zk GE932 GE933 GE934); exact HC0_2.out; rintro e w21 ⟨v942, rfl, hof, hb⟩; obtain ⟨Ao22, co22, eo22, hle_, ho0⟩ := hof N2.out; subst eo22; clear hof hle_; refine ⟨_, rfl, ?_⟩; replace HO937 := am_ (Kd.R_below (Zab HO937 BK934) hb); replace HO940 := am_ (Kd.R_below (Zab HO940 BK934) hb); replace HO943 := am_ (Kd.R_lower ho0 (below_size (Zk GE932 GE933 GE934))); replace BK932 := am_ (blk_below (g := gb932) (bfZ BK932 NB932_934) hb); replace BK933 := am_ (blk_below (g := gb933) (bfZ BK933 NB933_934) hb); replace BK934 := am_ (blk_below (g := gb934) (o := .cells #[.slice Ao13 l0_0.length co13, .slice Ao18 l0_1.length co18, .slice none 0 0] 35 (0, 0)) (bpZ BK934) hb); replace HB := (bsZ (Zk GE932 GE933 GE934) hb); clear hb; refine ci3 BK934 ?_; intros; refine ci3 BK933 ?_; intros))
 refine bodyPost_ret (results_cell_row rfl _ _ gb933 35 #[.slice Ao13 l0_0.length co13, .slice Ao18 l0_1.length co18, .slice Ao22 l0_2.length co22] (0, 0) _ rfl (bmZ BK933 NB933_934) Try.underlying35 rfl Zi) rfl ?_; exact ⟨_, _, _, _, _, _, Zj, (Zae HO937 BK934 BK933), (Zae HO940 BK934 BK933), (Zae HO943 BK934 BK933), (Zk GE932 GE933 GE934)⟩
 
set_option maxHeartbeats 8000000 in
set_option maxRecDepth 100000 in
theorem same_intactShow (k n0 n1 n2 : Nat) (A0_0 : Option Addr) (c0_0 : Nat) (A0_1 : Option Addr) (c0_1 : Nat) (A0_2 : Option Addr) (c0_2 : Nat) (A1_0 : Option Addr) (c1_0 : Nat) (A1_1 : Option Addr) (c1_1 : Nat) (A1_2 : Option Addr) (c1_2 : Nat) (L0 : List S87) (L1 : List S91) (L2 : List S80) (t0 t1 t2 : Int) (w : World) (hr0_0 : Kd.C k87 w A0_0 L0.length L0) (hc0_0 : L0.length ≤ c0_0) (hr1_0 : Kd.C k87 w A1_0 L0.length L0) (hc1_0 : L0.length ≤ c1_0) (ht_0 : laws_roomBehind.f (n0 : Int) = some t0) (hj_0 : wrap64 ((n0 : Int) + t0) = (L0.length : Int)) (he_0 : laws_eqBarS.f k L0 L0 = some true) (hr0_1 : Kd.C k91 w A0_1 L1.length L1) (hc0_1 : L1.length ≤ c0_1) (hr1_1 : Kd.C k91 w A1_1 L1.length L1) (hc1_1 : L1.length ≤ c1_1) (ht_1 : laws_roomBehind.f (n1 : Int) = some t1) (hj_1 : wrap64 ((n1 : Int) + t1) = (L1.length : Int)) (he_1 : laws_eqArticleS.f k L1 L1 = some true) (hr0_2 : Kd.C k80 w A0_2 L2.length L2) (hc0_2 : L2.length ≤ c0_2) (hr1_2 : Kd.C k80 w A1_2 L2.length L2) (hc1_2 : L2.length ≤ c1_2) (ht_2 : laws_roomBehind.f (n2 : Int) = some t2) (hj_2 : wrap64 ((n2 : Int) + t2) = (L2.length : Int)) (he_2 : laws_eqCueS.f k L2 L2 = some true) :
    Calls Try.prog 10 #[.agg #[.slice A0_0 n0 c0_0, .slice A0_1 n1 c0_1, .slice A0_2 n2 c0_2], .agg #[.slice A1_0 n0 c1_0, .slice A1_1 n1 c1_1, .slice A1_2 n2 c1_2]] w fun e w' => e = .returned (.bool true) ∧ Below w.heap.size w w' := by
  have HR0_0 := am_ hr0_0; have HC0_0 := am_ hc0_0; have HR1_0 := am_ hr1_0; have HC1_0 := am_ hc1_0; have HT_0 := am_ ht_0; have HJ_0 := am_ hj_0; have HE_0 := am_ he_0; have HR0_1 := am_ hr0_1; have HC0_1 := am_ hc0_1; have HR1_1 := am_ hr1_1; have HC1_1 := am_ hc1_1; have HT_1 := am_ ht_1; have HJ_1 := am_ hj_1; have HE_1 := am_ he_1; have HR0_2 := am_ hr0_2; have HC0_2 := am_ hc0_2; have HR1_2 := am_ hr1_2; have HC1_2 := am_ hc1_2; have HT_2 := am_ ht_2; have HJ_2 := am_ hj_2; have HE_2 := am_ he_2; clear hr0_0 hc0_0 hr1_0 hc1_0 ht_0 hj_0 he_0 hr0_1 hc0_1 hr1_1 hc1_1 ht_1 hj_1 he_1 hr0_2 hc0_2 hr1_2 hc1_2 ht_2 hj_2 he_2; have HB := am_ (Below.refl w.heap.size w)
  go_enter Try.func10, Try.ntmps10
  go_wp2_with (first | ((with_reducible refine gate_dst (N := 2) rfl ?_); refine boxZ 2 #[.slice A0_0 n0 c0_0, .slice A0_1 n1 c0_1, .slice A0_2 n2 c0_2] 35 ?_; intro g_0 hg w1 hbox hb; have nk_ := am_ hbox; have ne_ := am_ (Zc : w.heap.size ≤ g_0); have OB0 := am_ (Zaf : w.heap.size ≤ g_0); clear hbox hg; replace HB := (bsZ Zd hb); clear hb; have BK0 := nk_; have GE0 := ne_; clear nk_ ne_; refine ci3 BK0 ?_; intros) | ((with_reducible refine gate_dst (N := 3) rfl ?_); refine boxZ 3 #[.slice A1_0 n0 c1_0, .slice A1_1 n1 c1_1, .slice A1_2 n2 c1_2] 35 ?_; intro g_1 hg w1 hbox hb; have nk_ := am_ hbox; have ne_ := am_ (Zc : w.heap.size ≤ g_1); have OB1 := am_ (by rw [hg]; exact (Nat.succ_le_of_lt (blk_lt (b0Z BK0))) : g_0 + 1 ≤ g_1); clear hbox hg; replace HB := (bsZ Zd hb); replace BK0 := am_ (blk_below (g := g_0) (b0Z BK0) hb); clear hb; refine ci3 BK0 ?_; intros; have BK1 := nk_; have GE1 := ne_; clear nk_ ne_; refine ci3 BK1 ?_; intros) | ((with_reducible refine gate_callee (f := 34) rfl ?_); refine gZ 9 Try.func34 #[.slice A0_0 n0 c0_0, .slice A1_0 n0 c1_0] ?_; (with_reducible refine (same_intactBarS k n0 _ _ _ _ L0 t0 _ (Kd.C_below HR0_0.out Zd) HC0_0.out (Kd.C_below HR1_0.out Zd) HC1_0.out HT_0.out HJ_0.out HE_0.out).mono ?_); rintro e w1 ⟨rfl, hb⟩; refine ⟨_, rfl, ?_⟩; replace HB := (bsZ Zd hb); replace BK0 := am_ (blk_below (g := g_0) (b0Z BK0) hb); replace BK1 := am_ (blk_below (g := g_1) (b0Z BK1) hb); clear hb; refine ci3 BK0 ?_; intros; refine ci3 BK1 ?_; intros) | ((with_reducible refine gate_callee (f := 35) rfl ?_); refine gZ 15 Try.func35 #[.slice A0_1 n1 c0_1, .slice A1_1 n1 c1_1] ?_; (with_reducible refine (same_intactArticleS k n1 _ _ _ _ L1 t1 _ (Kd.C_below HR0_1.out Zd) HC0_1.out (Kd.C_below HR1_1.out Zd) HC1_1.out HT_1.out HJ_1.out HE_1.out).mono ?_); rintro e w1 ⟨rfl, hb⟩; refine ⟨_, rfl, ?_⟩; replace HB := (bsZ Zd hb); replace BK0 := am_ (blk_below (g := g_0) (b0Z BK0) hb); replace BK1 := am_ (blk_below (g := g_1) (b0Z BK1) hb); clear hb; refine ci3 BK0 ?_; intros; refine ci3 BK1 ?_; intros) | ((with_reducible refine gate_callee (f := 36) rfl ?_); refine gZ 21 Try.func36 #[.slice A0_2 n2 c0_2, .slice A1_2 n2 c1_2] ?_; (with_reducible refine (same_intactCueS k n2 _ _ _ _ L2 t2 _ (Kd.C_below HR0_2.out Zd) HC0_2.out (Kd.C_below HR1_2.out Zd) HC1_2.out HT_2.out HJ_2.out HE_2.out).mono ?_); rintro e w1 ⟨rfl, hb⟩; refine ⟨_, rfl, ?_⟩; replace HB := (bsZ Zd hb); replace BK0 := am_ (blk_below (g := g_0) (b0Z BK0) hb); replace BK1 := am_ (blk_below (g := g_1) (b0Z BK1) hb); clear hb; refine ci3 BK0 ?_; intros; refine ci3 BK1 ?_; intros))
  go_ret
  exact ⟨rfl, Zd⟩
theorem size26 : Try.prog.cellsOf 26 = 3 := by kernel_rfl
theorem ones22 : Try.prog.cellsOf 22 = 1 := by kernel_rfl
theorem ones23 : Try.prog.cellsOf 23 = 1 := by kernel_rfl
theorem ones24 : Try.prog.cellsOf 24 = 1 := by kernel_rfl
theorem open_V26 {H : Type} {enc : TypeId × Value → H} {W : World} {base : Nat} {sp : Nat → Bool} {held : Bool} {fuel : Nat} {cs : List Value} {y : DataW H × List MemPlace} (h : DataW.trod enc Try.prog W base sp held fuel 26 cs = some y) : ∃ (A0 : Option Addr) (c0 : Nat) (l0 : List S89) (A1 : Option Addr) (c1 : Nat) (l1 : List S74) (A2 : Option Addr) (c2 : Nat) (l2 : List S77), cs = [.slice A0 l0.length c0, .slice A1 l1.length c1, .slice A2 l2.length c2] ∧ (l0.length ≤ c0 ∧ c0 ≤ maxLen ∧ Kd.C k89 W A0 l0.length l0 ∧ ∀ x ∈ l0, Pr89 x) ∧ (l1.length ≤ c1 ∧ c1 ≤ maxLen ∧ Kd.C k74 W A1 l1.length l1 ∧ ∀ x ∈ l1, Pr74 x) ∧ (l2.length ≤ c2 ∧ c2 ≤ maxLen ∧ Kd.C k77 W A2 l2.length l2 ∧ ∀ x ∈ l2, Pr77 x) := by
  obtain ⟨xs, n, _, rfl, hl, hlen, hf⟩ := DataW.trod_struct Try.underlying26 h; rw [size26] at hl; obtain ⟨A0, c0, l0, e0, p0, q0, r0, s0⟩ := open_rows k89 (Pr := Pr89) Try.underlying22 Zi (fun f_ c_ y_ hy_ => open_S89 hy_ W) ((hf 0 _ rfl).trans (List.getElem?_eq_getElem Zw)); have g0 : cs[0]? = some (.slice A0 l0.length c0) := one_cell (by have z : List.take (Try.prog.cellsOf 22) (List.drop 0 cs) = [.slice A0 l0.length c0] := e0; rw [ones22] at z; exact z); obtain ⟨A1, c1, l1, e1, p1, q1, r1, s1⟩ := open_rows k74 (Pr := Pr74) Try.underlying23 Zi (fun f_ c_ y_ hy_ => open_S74 hy_ W) ((hf 1 _ rfl).trans (List.getElem?_eq_getElem Zw)); have g1 : cs[1]? = some (.slice A1 l1.length c1) := one_cell (by have z : List.take (Try.prog.cellsOf 23) (List.drop 1 cs) = [.slice A1 l1.length c1] := e1; rw [ones23] at z; exact z); obtain ⟨A2, c2, l2, e2, p2, q2, r2, s2⟩ := open_rows k77 (Pr := Pr77) Try.underlying24 Zi (fun f_ c_ y_ hy_ => open_S77 hy_ W) ((hf 2 _ rfl).trans (List.getElem?_eq_getElem Zw)); have g2 : cs[2]? = some (.slice A2 l2.length c2) := one_cell (by have z : List.take (Try.prog.cellsOf 24) (List.drop 2 cs) = [.slice A2 l2.length c2] := e2; rw [ones24] at z; exact z)
  have hcs : cs = [.slice A0 l0.length c0, .slice A1 l1.length c1, .slice A2 l2.length c2] := by
    apply List.ext_getElem?
    intro i
    match i with
    | 0 => exact g0
    | 1 => exact g1
    | 2 => exact g2
    | i + 3 => rw [List.getElem?_eq_none (by omega)]; rfl
  exact ⟨A0, c0, l0, A1, c1, l1, A2, c2, l2, hcs, ⟨p0, q0, r0, s0⟩, ⟨p1, q1, r1, s1⟩, ⟨p2, q2, r2, s2⟩⟩
end Go.Proofs.Ytnifblnlpepehaa.F
namespace Go.Proofs.Ytnifblnlpepehaa.F
open Go.RowKit Go.Proofs.YtnifblnlpepehaaW.PrintWords Go.Proofs.YtnifblnlpepehaaW.PrintLast Go.Proofs.YtnifblnlpepehaaW.PrintMore
set_option linter.unusedVariables false
set_option linter.unusedSimpArgs false
def ObN {α : Type} (d : Kd α) (t : Nat) (w : World) (base lo hi : Nat) (v : Value) (xs : List α) : Prop := Kd.N d t w base (fun k => lo ≤ k ∧ k < hi) v xs ∧ base ≤ lo ∧ hi ≤ w.heap.size
section
variable {α : Type} {d : Kd α} {t : Nat} {w w0 w1 : World} {base lo hi : Nat} {v : Value} {xs : List α}
theorem ObN_new (h : Kd.N d t w1 w0.heap.size (fun k_ => w0.heap.size ≤ k_) v xs) (hb : base ≤ w0.heap.size) : ObN d t w1 base w0.heap.size w1.heap.size v xs :=
 ⟨Kd.N_lower (Kd.N_mono (Kd.N_bound h) (fun k hk => hk)) hb, hb, Nat.le_refl _⟩
theorem ObN_below (h : ObN d t w base lo hi v xs) (hb : Below w.heap.size w w1) : ObN d t w1 base lo hi v xs := ⟨Kd.N_below h.1 hb, h.2.1, Nat.le_trans h.2.2 hb.size⟩
theorem ObN_alloc (h : ObN d t w base lo hi v xs) (o : Obj) : ObN d t (w.alloc o) base lo hi v xs := ObN_below h (below_alloc (Below.refl _ _) o)
theorem ObN_drew (h : ObN d t w base lo hi v xs) : ObN d t w.drew base lo hi v xs := ObN_below h (below_drew (Below.refl _ _))
theorem ObN_drewN (h : ObN d t w base lo hi v xs) (m : Nat) : ObN d t (w.drewN m) base lo hi v xs := ObN_below h (pw_below_drewN (Below.refl _ _) m)
theorem ObN_kept {lo' hi' : Nat} (h : ObN d t w base lo hi v xs) (hk : Kept w w1 (fun k => lo' ≤ k ∧ k < hi')) (ha : hi' ≤ lo ∨ hi ≤ lo') : ObN d t w1 base lo hi v xs :=
 ⟨Kd.N_step h.1 (fun k hk1 hk2 => hk.2 k hk2 (by omega)), h.2.1, Nat.le_trans h.2.2 hk.1⟩
theorem ObN_slice (h : ObN d t w base lo hi v xs) : ∃ A c, v = .slice A xs.length c := Kd.N_slice h.1
theorem ObN_C {A : Option Addr} {n c : Nat} (h : ObN d t w base lo hi (.slice A n c) xs) : n = xs.length ∧ xs.length ≤ c ∧ d.C w A xs.length xs := by
 have h2 := Kd.N_reads' h.1; exact ⟨h2.1, by have := h2.2.1; have := h2.1; omega, h2.2.2⟩
theorem ObN_mk {last : Nat} (h : Kd.N d t w1 w0.heap.size (fun k_ => w0.heap.size ≤ k_) v xs) (hb : Below w0.heap.size w0 w1) (hB : base ≤ w0.heap.size) (hl : last ≤ w0.heap.size) :
  ∃ lo hi, ObN d t w1 base lo hi v xs ∧ last ≤ lo ∧ lo ≤ hi ∧ hi ≤ w1.heap.size := ⟨_, _, ObN_new h hB, hl, hb.size, Nat.le_refl _⟩
theorem ObN_hi (h : ObN d t w base lo hi v xs) : hi ≤ w.heap.size := h.2.2
theorem ObN_set (h : ObN d t w base lo hi v xs) {g j : Nat} (hg : g < lo ∨ hi ≤ g) (u : Value) : ObN d t (w.setCell ⟨g, j, none⟩ u) base lo hi v xs :=
 ⟨Kd.N_far (p := ⟨g, j, none⟩) h.1 (fun k hk => by show k ≠ g; omega) u, h.2.1, Nat.le_trans h.2.2 (Nat.le_of_eq (World.size_setCell _ _ _).symm)⟩
end
def ObS {α : Type} (d : Kd α) (t : Nat) (w : World) (base lo hi : Nat) (v : Value) (xs : List α) : Prop := Kd.S d t w base (fun k => lo ≤ k ∧ k < hi) v xs ∧ base ≤ lo ∧ hi ≤ w.heap.size
section
variable {α : Type} {d : Kd α} {t : Nat} {w w0 w1 : World} {base lo hi : Nat} {v : Value} {xs : List α}
theorem ObS_new (h : Kd.S d t w1 w0.heap.size (fun _ => True) v xs) (hb : base ≤ w0.heap.size) : ObS d t w1 base w0.heap.size w1.heap.size v xs :=
 ⟨Kd.S_lower (Kd.S_mono (Kd.S_bound h) (fun k hk => ⟨hk.2.1, hk.2.2.1⟩)) hb, hb, Nat.le_refl _⟩
theorem ObS_below (h : ObS d t w base lo hi v xs) (hb : Below w.heap.size w w1) : ObS d t w1 base lo hi v xs := ⟨Kd.S_below h.1 hb, h.2.1, Nat.le_trans h.2.2 hb.size⟩
theorem ObS_alloc (h : ObS d t w base lo hi v xs) (o : Obj) : ObS d t (w.alloc o) base lo hi v xs := ObS_below h (below_alloc (Below.refl _ _) o)
theorem ObS_drew (h : ObS d t w base lo hi v xs) : ObS d t w.drew base lo hi v xs := ObS_below h (below_drew (Below.refl _ _))
theorem ObS_drewN (h : ObS d t w base lo hi v xs) (m : Nat) : ObS d t (w.drewN m) base lo hi v xs := ObS_below h (pw_below_drewN (Below.refl _ _) m)
theorem ObS_kept {lo' hi' : Nat} (h : ObS d t w base lo hi v xs) (hk : Kept w w1 (fun k => lo' ≤ k ∧ k < hi')) (ha : hi' ≤ lo ∨ hi ≤ lo') : ObS d t w1 base lo hi v xs :=
 ⟨Kd.S_step h.1 (fun k hk1 hk2 => hk.2 k hk2 (by omega)), h.2.1, Nat.le_trans h.2.2 hk.1⟩
theorem ObS_slice (h : ObS d t w base lo hi v xs) : ∃ A c, v = .slice A xs.length c := Kd.S_slice h.1
theorem ObS_C {A : Option Addr} {n c : Nat} (h : ObS d t w base lo hi (.slice A n c) xs) : n = xs.length ∧ xs.length ≤ c ∧ d.C w A xs.length xs := by
 have h2 := Kd.S_reads' h.1; exact ⟨h2.1, by have := h2.2.1; have := h2.1; omega, h2.2.2⟩
theorem ObS_mk {last : Nat} (h : Kd.S d t w1 w0.heap.size (fun _ => True) v xs) (hb : Below w0.heap.size w0 w1) (hB : base ≤ w0.heap.size) (hl : last ≤ w0.heap.size) :
  ∃ lo hi, ObS d t w1 base lo hi v xs ∧ last ≤ lo ∧ lo ≤ hi ∧ hi ≤ w1.heap.size := ⟨_, _, ObS_new h hB, hl, hb.size, Nat.le_refl _⟩
theorem ObS_hi (h : ObS d t w base lo hi v xs) : hi ≤ w.heap.size := h.2.2
theorem ObS_R (h : ObS d t w base lo hi v xs) : Kd.S d t w base (fun k => lo ≤ k ∧ k < hi) v xs := h.1
end
end Go.Proofs.Ytnifblnlpepehaa.F
namespace Go.Proofs.Ytnifblnlpepehaa.F
open Go.RowKit Go.Proofs.YtnifblnlpepehaaW.PrintWords Go.Proofs.YtnifblnlpepehaaW.PrintLast Go.Proofs.YtnifblnlpepehaaW.PrintMore
attribute [local go_sem] max2_int min2_int max_two min_two max_three min_three max_four min_four
set_option linter.unusedVariables false
set_option linter.unusedSimpArgs false
def laws_eqInt64S.l0 : Nat → List Int → List Int → Int → Option (Bool)
 | 0, _, _, _ => none
 | k + 1, x0, x1, x5 => if x5 < (x0.length : Int) then (if 0 ≤ x5 then (if x5 < (x1.length : Int) then (if (rd x0 x5) = (rd x1 x5) then (laws_eqInt64S.l0 k x0 x1 (wrap64 (x5 + 1))) else (some false)) else (none)) else (none)) else (some true)
def laws_eqInt64S.f (k : Nat) (l0 : List Int) (l1 : List Int) : Option (Bool) := if (l0.length : Int) = (l1.length : Int) then (laws_eqInt64S.l0 k l0 l1 0) else (some false)
set_option maxHeartbeats 8000000 in
set_option maxRecDepth 100000 in
theorem laws_eqInt64S.calls (k : Nat) (A0 : Option Addr) (c0 : Nat) (l0 : List Int) (A1 : Option Addr) (c1 : Nat) (l1 : List Int) (r : Bool) (w : World) (hr0 : Kd.C (Kd.int .i64) w A0 l0.length l0) (hc0 : l0.length ≤ c0) (hr1 : Kd.C (Kd.int .i64) w A1 l1.length l1) (hc1 : l1.length ≤ c1) (h : laws_eqInt64S.f k l0 l1 = some r) :
  Calls Try.prog 33 #[.slice A0 l0.length c0, .slice A1 l1.length c1] w fun e w' => e = .returned (.bool r) ∧ Drawn0 w w' := by
 have HR0 := am_ hr0; have HC0 := am_ hc0; clear hr0 hc0; have HR1 := am_ hr1; have HC1 := am_ hc1; clear hr1 hc1; have H : (if (l0.length : Int) = (l1.length : Int) then (laws_eqInt64S.l0 k l0 l1 0) else (some false)) = some r := h; clear h
 by_cases c3 : (l0.length : Int) = (l1.length : Int)
 ·rw [if_pos c3] at H
  have c3b0 := beq_iff_eq.mpr c3; have c3b1 := bne_eq_false_iff_eq.mpr c3
  have c3b2 : (l0.length == l1.length) = true := by first | simpa using c3 | (simp at c3 ⊢; omega)
  clear c3; have H' := am_ H; clear H
  go_enter Try.func33, Try.ntmps33
  go_wp2
  repeat (go_quiet (fail); try go_wp2)
  go_loopg [5] k (fun kq v5 w' => ∃ (x5_1 : Int), v5 = .int .i64 x5_1 ∧ Aside0 (laws_eqInt64S.l0 kq l0 l1 x5_1 = some r) ∧ Aside0 (kq ≤ k) ∧ Drawn0 w w')
  case atStart => exact ⟨(0), Za, H', ⟨Nat.le_refl _⟩, Zb⟩
  case round =>
   clear H'
   try clear c1
   try clear p2
   try clear c3
   try clear c3b0
   try clear c3b1
   try clear c3b2
   obtain ⟨x5_1, rfl, HA, HK1, ⟨m1, rfl⟩⟩ := hrel
   cases gk with
   | zero => exact absurd HA.out (by simp [laws_eqInt64S.l0])
   | succ k1 =>
    have H := HA.out; clear HA; simp only [laws_eqInt64S.l0] at H
    by_cases c4 : x5_1 < (l0.length : Int)
    ·rw [if_pos c4] at H
     have c4b0 := decide_eq_true c4; clear c4
     by_cases c5 : 0 ≤ x5_1
     ·rw [if_pos c5] at H
      have c5b0 := decide_eq_true c5; clear c5
      by_cases c6 : x5_1 < (l1.length : Int)
      ·rw [if_pos c6] at H
       have c6b0 := decide_eq_true c6; clear c6
       by_cases c7 : (rd l0 x5_1) = (rd l1 x5_1)
       ·rw [if_pos c7] at H
        have c7b0 := beq_iff_eq.mpr c7; have c7b1 := bne_eq_false_iff_eq.mpr c7; clear c7; have H' := am_ H; clear H; have p944 : 0 ≤ (x5_1 : Int) := of_decide_eq_true Zn; have q944 : x5_1 < (l0.length : Int) := of_decide_eq_true Zn; obtain ⟨ad944, e944, hx944_0⟩ := Kd.at_int HR0.out x5_1 p944 q944
        cases e944
        replace p944 := eq_true p944; replace q944 := eq_true q944; have p945 : 0 ≤ (x5_1 : Int) := of_decide_eq_true Zn; have q945 : x5_1 < (l1.length : Int) := of_decide_eq_true Zn; obtain ⟨ad945, e945, hx945_0⟩ := Kd.at_int HR1.out x5_1 p945 q945
        cases e945
        replace p945 := eq_true p945; replace q945 := eq_true q945
        go_wp2
        repeat (go_quiet (fail); try go_wp2)
        go_roundg k1
        case measure => have := HK1.out; omega
        case rel => exact ⟨(wrap64 (x5_1 + 1)), Za, H', ⟨Zs⟩, Zb⟩
       ·rw [if_neg c7] at H
        have c7b0 := beq_eq_false_iff_ne.mpr c7; have c7b1 := bne_iff_ne.mpr c7; obtain rfl := Option.some.inj H; have p944 : 0 ≤ (x5_1 : Int) := of_decide_eq_true Zn; have q944 : x5_1 < (l0.length : Int) := of_decide_eq_true Zn; obtain ⟨ad944, e944, hx944_0⟩ := Kd.at_int HR0.out x5_1 p944 q944
        cases e944
        replace p944 := eq_true p944; replace q944 := eq_true q944; have p945 : 0 ≤ (x5_1 : Int) := of_decide_eq_true Zn; have q945 : x5_1 < (l1.length : Int) := of_decide_eq_true Zn; obtain ⟨ad945, e945, hx945_0⟩ := Kd.at_int HR1.out x5_1 p945 q945
        cases e945
        replace p945 := eq_true p945; replace q945 := eq_true q945
        go_wp2
        repeat (go_quiet (fail); try go_wp2)
        go_ret
        exact ⟨Za, Zb⟩
      ·rw [if_neg c6] at H
       exact absurd H (by simp)
     ·rw [if_neg c5] at H
      exact absurd H (by simp)
    ·rw [if_neg c4] at H
     have c4b0 := decide_eq_false c4; clear c4; obtain rfl := Option.some.inj H
     go_wp2
     repeat (go_quiet (fail); try go_wp2)
     go_ret
     exact ⟨Za, Zb⟩
 ·rw [if_neg c3] at H
  have c3b0 := beq_eq_false_iff_ne.mpr c3; have c3b1 := bne_iff_ne.mpr c3
  have c3b2 : (l0.length == l1.length) = false := by first | simpa using c3 | (simp at c3 ⊢; omega)
  obtain rfl := Option.some.inj H
  go_enter Try.func33, Try.ntmps33
  go_wp2
  repeat (go_quiet (fail); try go_wp2)
  go_ret
  exact ⟨Za, Zb⟩
 /-! ### laws_markInt64S: function 40 -/
def laws_markInt64S.l0 : Nat → List Int → Int → Int → Option (Int × List Int)
 | 0, _, _, _ => none
 | k + 1, x0, x1, x5 => if x5 < (x0.length : Int) then (if 0 ≤ x5 then (laws_markInt64S.l0 k (x0.set (x5 : Int).toNat x1) (wrap64 (x1 + 1)) (wrap64 (x5 + 1))) else (none)) else (some (x1, x0))
def laws_markInt64S.f (k : Nat) (l0 : List Int) (a1 : Int) : Option (Int × List Int) := laws_markInt64S.l0 k l0 a1 0
set_option maxHeartbeats 8000000 in
set_option maxRecDepth 100000 in
theorem laws_markInt64S.calls (k : Nat) (P0_ : Nat → Prop) (u9000_ : Value) (l0 : List Int) (a1 : Int) (r1 : Int) (r2 : List Int) (w0 w : World) (hB : Below w0.heap.size w0 w) (ho0 : Kd.R (Kd.int .i64) 2 w w0.heap.size P0_ u9000_ l0) (h : laws_markInt64S.f k l0 a1 = some (r1, r2)) :
  Calls Try.prog 40 #[u9000_, .int .i64 a1] w fun e w' => e = .returned (.int .i64 r1) ∧ Kd.R (Kd.int .i64) 2 w' w0.heap.size (fun k_ => (P0_ k_ ∨ w.heap.size ≤ k_)) u9000_ r2 ∧ Below w0.heap.size w0 w' ∧ Kept w w' (fun k_ => P0_ k_) := by
 have HO0 := am_ (show Kd.R (Kd.int .i64) 2 w w0.heap.size (fun k_ => (P0_ k_ ∨ w.heap.size ≤ k_)) u9000_ l0 from Kd.R_mono ho0 (fun k_ hk => (.inl hk))); have HK := am_ (Kept.refl w (fun k_ => P0_ k_)); have HW0 := am_ hB.size; have HB := am_ hB; clear hB; have H : (laws_markInt64S.l0 k l0 a1 0) = some (r1, r2) := h; clear h; have H' := am_ H; clear H
 go_enter Try.func40, Try.ntmps40
 go_wp2
 go_loopg [1, 5] k (fun kq v1 v5 w' => ∃ (x0_1 : List Int) (x1_1 : Int) (x5_1 : Int), v1 = .int .i64 x1_1 ∧ v5 = .int .i64 x5_1 ∧ Aside0 (laws_markInt64S.l0 kq x0_1 x1_1 x5_1 = some (r1, r2)) ∧ Aside0 (kq ≤ k) ∧ Aside0 (Kd.R (Kd.int .i64) 2 w' w0.heap.size (fun k_ => (P0_ k_ ∨ w.heap.size ≤ k_)) u9000_ x0_1) ∧ Aside0 (Kept w w' (fun k_ => P0_ k_)) ∧ Aside0 (Below w0.heap.size w0 w'))
 case atStart => exact ⟨(l0), (a1), (0), Za, Za, H', ⟨Nat.le_refl _⟩, ⟨(Zo HO0)⟩, ⟨Zt⟩, ⟨Zd⟩⟩
 case round =>
  clear H'
  try clear p2
  obtain ⟨x0_1, x1_1, x5_1, rfl, rfl, HA, HK1, HO_0, HK, HB⟩ := hrel
  cases gk with
  | zero => exact absurd HA.out (by simp [laws_markInt64S.l0])
  | succ k1 =>
   have H := HA.out; clear HA; simp only [laws_markInt64S.l0] at H
   by_cases c3 : x5_1 < (x0_1.length : Int)
   ·rw [if_pos c3] at H
    have c3b0 := decide_eq_true c3; clear c3
    by_cases c4 : 0 ≤ x5_1
    ·rw [if_pos c4] at H
     have c4b0 := decide_eq_true c4; clear c4; obtain ⟨y1026, hy1026⟩ : ∃ y_ : List Int, y_ = (x0_1.set (x5_1 : Int).toNat x1_1) := ⟨_, rfl⟩
     (first | (rw [← hy1026] at H; with_reducible replace H := bindZ H) | rw [← hy1026] at H | skip)
     have Ny1026 := am_ hy1026; clear hy1026; have H' := am_ H; clear H; obtain ⟨Ao6, co6, eo6⟩ := Kd.R_slice HO_0.out; subst eo6; have p5 : 0 ≤ (x5_1 : Int) := of_decide_eq_true Zn; have q5 : (x5_1 : Int) < ((x0_1.length : Int) : Int) := of_decide_eq_true Zn; obtain ⟨go5, co5, eo5, gb5, gl5, cl5, HG5⟩ := Kd.R_form HO_0.out (by omega)
     (first | cases eo5 | (injection eo5 with ea_ en_ ec_; (first | subst ea_ | (injection ea_ with ea_; subst ea_)); subst ec_; clear en_))
     have GB5 := am_ gb5; have GG5 := am_ HG5; clear gb5 gl5 HG5; have HMgo5 := am_ (show (P0_ go5 ∨ w.heap.size ≤ go5) from (HO_0.out.1 _ rfl)); obtain ⟨hx5_0, hf5_0⟩ := Kd.R_celln 0 HO_0.out (x5_1 : Int) p5 q5; replace p5 := eq_true p5; replace q5 := eq_true q5; have HP7 := Kd.R_putg HO_0.out (x5_1 : Int) x1_1
     go_wp2_with (first | ((with_reducible refine gate_store (t := 2) (p := 15) rfl ?_); refine store_event (t := 2) (p := 15) (v := ?vo_w8) (w1 := (wr.setCell ⟨go5, (x5_1 : Int).toNat, none⟩ (.int .i64 x1_1))) ?hg ?ho ?hn ?hr ?_; (case ho => rfl); (case hg => rfl); (case hn => rfl); (case hr => first | (go_simp; done) | (go_simp; rfl)); intro w8 hw; have hg : wr.grownBy w8 (some go5) := (by rw [hw]; exact HP7.2); have hp_ : Kd.R (Kd.int .i64) 2 w8 w0.heap.size (fun k_ => (P0_ k_ ∨ w.heap.size ≤ k_)) (.slice (some ⟨go5, 0, none⟩) x0_1.length co6) y1026 := (by rw [hw, Ny1026.out]; exact HP7.1); clear HP7; replace HB := am_ (((Zu GB5) : Below w0.heap.size w0 w8)); replace HK := am_ (Kept.of_grown (S := (fun k_ => P0_ k_)) hg Zt (fun k_ e_ => (HO_0.out.1 k_ e_))); replace HO_0 := am_ (hp_); clear hg hw hp_))
     go_roundg k1
     case measure => have := HK1.out; omega
     case rel => exact ⟨(y1026), (wrap64 (x1_1 + 1)), (wrap64 (x5_1 + 1)), Za, Za, H', ⟨Zs⟩, ⟨(Zo HO_0)⟩, ⟨Zt⟩, ⟨Zd⟩⟩
    ·rw [if_neg c4] at H
     exact absurd H (by simp)
   ·rw [if_neg c3] at H
    have c3b0 := decide_eq_false c3; clear c3; simp only [Option.some.injEq, Prod.mk.injEq] at H; obtain ⟨rfl, rfl⟩ := H; obtain ⟨Ao9, co9, eo9⟩ := Kd.R_slice HO_0.out; subst eo9
    go_wp2
    go_ret
    exact ⟨Zj, (Zo HO_0), Zd, Zt⟩
 /-! ### laws_heldInt64S: function 41 -/
def laws_heldInt64S.l0 : Nat → List Int → Int → Int → Option (Int)
 | 0, _, _, _ => none
 | k + 1, x0, x1, x5 => if x5 < (x0.length : Int) then (if 0 ≤ x5 then (if (rd x0 x5) = x1 then (laws_heldInt64S.l0 k x0 (wrap64 (x1 + 1)) (wrap64 (x5 + 1))) else (some (-1))) else (none)) else (some x1)
def laws_heldInt64S.f (k : Nat) (l0 : List Int) (a1 : Int) : Option (Int) := laws_heldInt64S.l0 k l0 a1 0
set_option maxHeartbeats 8000000 in
set_option maxRecDepth 100000 in
theorem laws_heldInt64S.calls (k : Nat) (A0 : Option Addr) (c0 : Nat) (l0 : List Int) (a1 : Int) (r : Int) (w : World) (hr0 : Kd.C (Kd.int .i64) w A0 l0.length l0) (hc0 : l0.length ≤ c0) (h : laws_heldInt64S.f k l0 a1 = some r) :
  Calls Try.prog 41 #[.slice A0 l0.length c0, .int .i64 a1] w fun e w' => e = .returned (.int .i64 r) ∧ Drawn0 w w' := by
 have HR0 := am_ hr0; have HC0 := am_ hc0; clear hr0 hc0; have H : (laws_heldInt64S.l0 k l0 a1 0) = some r := h; clear h; have H' := am_ H; clear H
 go_enter Try.func41, Try.ntmps41
 go_wp2
 go_loopg [1, 5] k (fun kq v1 v5 w' => ∃ (x1_1 : Int) (x5_1 : Int), v1 = .int .i64 x1_1 ∧ v5 = .int .i64 x5_1 ∧ Aside0 (laws_heldInt64S.l0 kq l0 x1_1 x5_1 = some r) ∧ Aside0 (kq ≤ k) ∧ Drawn0 w w')
 case atStart => exact ⟨(a1), (0), Za, Za, H', ⟨Nat.le_refl _⟩, Zb⟩
 case round =>
  clear H'
  try clear p2
  obtain ⟨x1_1, x5_1, rfl, rfl, HA, HK1, ⟨m1, rfl⟩⟩ := hrel
  cases gk with
  | zero => exact absurd HA.out (by simp [laws_heldInt64S.l0])
  | succ k1 =>
   have H := HA.out; clear HA; simp only [laws_heldInt64S.l0] at H
   by_cases c3 : x5_1 < (l0.length : Int)
   ·rw [if_pos c3] at H
    have c3b0 := decide_eq_true c3; clear c3
    by_cases c4 : 0 ≤ x5_1
    ·rw [if_pos c4] at H
     have c4b0 := decide_eq_true c4; clear c4
     by_cases c5 : (rd l0 x5_1) = x1_1
     ·rw [if_pos c5] at H
      have c5b0 := beq_iff_eq.mpr c5; have c5b1 := bne_eq_false_iff_eq.mpr c5; clear c5; have H' := am_ H; clear H; have p1028 : 0 ≤ (x5_1 : Int) := of_decide_eq_true Zn; have q1028 : x5_1 < (l0.length : Int) := of_decide_eq_true Zn; obtain ⟨ad1028, e1028, hx1028_0⟩ := Kd.at_int HR0.out x5_1 p1028 q1028
      cases e1028
      replace p1028 := eq_true p1028; replace q1028 := eq_true q1028
      go_wp2
      go_roundg k1
      case measure => have := HK1.out; omega
      case rel => exact ⟨(wrap64 (x1_1 + 1)), (wrap64 (x5_1 + 1)), Za, Za, H', ⟨Zs⟩, Zb⟩
     ·rw [if_neg c5] at H
      have c5b0 := beq_eq_false_iff_ne.mpr c5; have c5b1 := bne_iff_ne.mpr c5; obtain rfl := Option.some.inj H; have p1028 : 0 ≤ (x5_1 : Int) := of_decide_eq_true Zn; have q1028 : x5_1 < (l0.length : Int) := of_decide_eq_true Zn; obtain ⟨ad1028, e1028, hx1028_0⟩ := Kd.at_int HR0.out x5_1 p1028 q1028
      cases e1028
      replace p1028 := eq_true p1028; replace q1028 := eq_true q1028
      go_wp2
      go_ret
      exact ⟨Za, Zb⟩
    ·rw [if_neg c4] at H
     exact absurd H (by simp)
   ·rw [if_neg c3] at H
    have c3b0 := decide_eq_false c3; clear c3; obtain rfl := Option.some.inj H
    go_wp2
    go_ret
    exact ⟨Za, Zb⟩
def laws_eqInt64SS.l0 : Nat → List (List Int) → List (List Int) → Int → Option (Bool)
 | 0, _, _, _ => none
 | k + 1, x0, x1, x5 => if x5 < (x0.length : Int) then (if 0 ≤ x5 then (if x5 < (x1.length : Int) then ((laws_eqInt64S.f k (rd_L5 x0 x5) (rd_L5 x1 x5)).bind fun t948 => (if t948 = true then (laws_eqInt64SS.l0 k x0 x1 (wrap64 (x5 + 1))) else (some false))) else (none)) else (none)) else (some true)
def laws_eqInt64SS.f (k : Nat) (l0 : List (List Int)) (l1 : List (List Int)) : Option (Bool) := if (l0.length : Int) = (l1.length : Int) then (laws_eqInt64SS.l0 k l0 l1 0) else (some false)
set_option maxHeartbeats 8000000 in
set_option maxRecDepth 100000 in
theorem laws_eqInt64SS.calls (k : Nat) (A0 : Option Addr) (c0 : Nat) (l0 : List (List Int)) (A1 : Option Addr) (c1 : Nat) (l1 : List (List Int)) (r : Bool) (w : World) (hr0 : Kd.C (Kd.slice 2 (Kd.int .i64)) w A0 l0.length l0) (hc0 : l0.length ≤ c0) (hr1 : Kd.C (Kd.slice 2 (Kd.int .i64)) w A1 l1.length l1) (hc1 : l1.length ≤ c1) (h : laws_eqInt64SS.f k l0 l1 = some r) :
  Calls Try.prog 9 #[.slice A0 l0.length c0, .slice A1 l1.length c1] w fun e w' => e = .returned (.bool r) ∧ Drawn0 w w' := by
 have HR0 := am_ hr0; have HC0 := am_ hc0; clear hr0 hc0; have HR1 := am_ hr1; have HC1 := am_ hc1; clear hr1 hc1; have H : (if (l0.length : Int) = (l1.length : Int) then (laws_eqInt64SS.l0 k l0 l1 0) else (some false)) = some r := h; clear h
 by_cases c3 : (l0.length : Int) = (l1.length : Int)
 ·rw [if_pos c3] at H
  have c3b0 := beq_iff_eq.mpr c3; have c3b1 := bne_eq_false_iff_eq.mpr c3
  have c3b2 : (l0.length == l1.length) = true := by first | simpa using c3 | (simp at c3 ⊢; omega)
  clear c3; have H' := am_ H; clear H
  go_enter Try.func9, Try.ntmps9
  go_wp2
  repeat (go_quiet (fail); try go_wp2)
  go_loopg [5] k (fun kq v5 w' => ∃ (x5_1 : Int), v5 = .int .i64 x5_1 ∧ Aside0 (laws_eqInt64SS.l0 kq l0 l1 x5_1 = some r) ∧ Aside0 (kq ≤ k) ∧ Drawn0 w w')
  case atStart => exact ⟨(0), Za, H', ⟨Nat.le_refl _⟩, Zb⟩
  case round =>
   clear H'
   try clear c1
   try clear p2
   try clear c3
   try clear c3b0
   try clear c3b1
   try clear c3b2
   obtain ⟨x5_1, rfl, HA, HK1, ⟨m1, rfl⟩⟩ := hrel
   cases gk with
   | zero => exact absurd HA.out (by simp [laws_eqInt64SS.l0])
   | succ k1 =>
    have H := HA.out; clear HA; simp only [laws_eqInt64SS.l0] at H
    by_cases c4 : x5_1 < (l0.length : Int)
    ·rw [if_pos c4] at H
     have c4b0 := decide_eq_true c4; clear c4
     by_cases c5 : 0 ≤ x5_1
     ·rw [if_pos c5] at H
      have c5b0 := decide_eq_true c5; clear c5
      by_cases c6 : x5_1 < (l1.length : Int)
      ·rw [if_pos c6] at H
       have c6b0 := decide_eq_true c6; clear c6; replace H := Option.bind_eq_some_iff.mp H; obtain ⟨t948, A70, H⟩ := H; have A7 := am_ A70; clear A70
       by_cases c8 : t948 = true
       ·subst c8
        rw [if_pos rfl] at H; have H' := am_ H; clear H; have p946 : 0 ≤ (x5_1 : Int) := of_decide_eq_true Zn; have q946 : x5_1 < (l0.length : Int) := of_decide_eq_true Zn; obtain ⟨ad946, A946_0, c946_0, e946, hx946_0, hl946_0, hi946_0⟩ := at_L5 HR0.out x5_1 p946 q946
        cases e946
        have HR946_0 := am_ hi946_0; have HC946_0 := am_ hl946_0; clear hi946_0 hl946_0; replace p946 := eq_true p946; replace q946 := eq_true q946; have p947 : 0 ≤ (x5_1 : Int) := of_decide_eq_true Zn; have q947 : x5_1 < (l1.length : Int) := of_decide_eq_true Zn; obtain ⟨ad947, A947_0, c947_0, e947, hx947_0, hl947_0, hi947_0⟩ := at_L5 HR1.out x5_1 p947 q947
        cases e947
        have HR947_0 := am_ hi947_0; have HC947_0 := am_ hl947_0; clear hi947_0 hl947_0; replace p947 := eq_true p947; replace q947 := eq_true q947
        go_wp2_with (first | (go_at_call 33; (with_reducible refine (laws_eqInt64S.calls k1 _ _ (rd_L5 l0 x5_1) _ _ (rd_L5 l1 x5_1) true _ ?_ ?_ ?_ ?_ A7.out).mono ?_); exact (Zag HR946_0); exact HC946_0.out; exact (Zag HR947_0); exact HC947_0.out; rintro e w' ⟨rfl, ⟨nd, rfl⟩⟩; (try first | exact ⟨rfl, _, World.drewN_drewN _ _ _⟩ | exact ⟨rfl, _, Eq.trans (World.drewN_drewN _ _ _) (congrArg (World.drewN _) (Nat.add_assoc _ _ _))⟩)))
        repeat (go_quiet (first | (go_at_call 33; (with_reducible refine (laws_eqInt64S.calls k1 _ _ (rd_L5 l0 x5_1) _ _ (rd_L5 l1 x5_1) true _ ?_ ?_ ?_ ?_ A7.out).mono ?_); exact (Zag HR946_0); exact HC946_0.out; exact (Zag HR947_0); exact HC947_0.out; rintro e w' ⟨rfl, ⟨nd, rfl⟩⟩; (try first | exact ⟨rfl, _, World.drewN_drewN _ _ _⟩ | exact ⟨rfl, _, Eq.trans (World.drewN_drewN _ _ _) (congrArg (World.drewN _) (Nat.add_assoc _ _ _))⟩))); try go_wp2_with (first | (go_at_call 33; (with_reducible refine (laws_eqInt64S.calls k1 _ _ (rd_L5 l0 x5_1) _ _ (rd_L5 l1 x5_1) true _ ?_ ?_ ?_ ?_ A7.out).mono ?_); exact (Zag HR946_0); exact HC946_0.out; exact (Zag HR947_0); exact HC947_0.out; rintro e w' ⟨rfl, ⟨nd, rfl⟩⟩; (try first | exact ⟨rfl, _, World.drewN_drewN _ _ _⟩ | exact ⟨rfl, _, Eq.trans (World.drewN_drewN _ _ _) (congrArg (World.drewN _) (Nat.add_assoc _ _ _))⟩))))
        go_roundg k1
        case measure => have := HK1.out; omega
        case rel => exact ⟨(wrap64 (x5_1 + 1)), Za, H', ⟨Zs⟩, Zb⟩
       ·replace c8 := Bool.eq_false_iff.mpr c8
        subst c8; rw [if_neg (show ¬ (false = true) by decide)] at H; obtain rfl := Option.some.inj H; have p946 : 0 ≤ (x5_1 : Int) := of_decide_eq_true Zn; have q946 : x5_1 < (l0.length : Int) := of_decide_eq_true Zn; obtain ⟨ad946, A946_0, c946_0, e946, hx946_0, hl946_0, hi946_0⟩ := at_L5 HR0.out x5_1 p946 q946
        cases e946
        have HR946_0 := am_ hi946_0; have HC946_0 := am_ hl946_0; clear hi946_0 hl946_0; replace p946 := eq_true p946; replace q946 := eq_true q946; have p947 : 0 ≤ (x5_1 : Int) := of_decide_eq_true Zn; have q947 : x5_1 < (l1.length : Int) := of_decide_eq_true Zn; obtain ⟨ad947, A947_0, c947_0, e947, hx947_0, hl947_0, hi947_0⟩ := at_L5 HR1.out x5_1 p947 q947
        cases e947
        have HR947_0 := am_ hi947_0; have HC947_0 := am_ hl947_0; clear hi947_0 hl947_0; replace p947 := eq_true p947; replace q947 := eq_true q947
        go_wp2_with (first | (go_at_call 33; (with_reducible refine (laws_eqInt64S.calls k1 _ _ (rd_L5 l0 x5_1) _ _ (rd_L5 l1 x5_1) false _ ?_ ?_ ?_ ?_ A7.out).mono ?_); exact (Zag HR946_0); exact HC946_0.out; exact (Zag HR947_0); exact HC947_0.out; rintro e w' ⟨rfl, ⟨nd, rfl⟩⟩; (try first | exact ⟨rfl, _, World.drewN_drewN _ _ _⟩ | exact ⟨rfl, _, Eq.trans (World.drewN_drewN _ _ _) (congrArg (World.drewN _) (Nat.add_assoc _ _ _))⟩)))
        repeat (go_quiet (first | (go_at_call 33; (with_reducible refine (laws_eqInt64S.calls k1 _ _ (rd_L5 l0 x5_1) _ _ (rd_L5 l1 x5_1) false _ ?_ ?_ ?_ ?_ A7.out).mono ?_); exact (Zag HR946_0); exact HC946_0.out; exact (Zag HR947_0); exact HC947_0.out; rintro e w' ⟨rfl, ⟨nd, rfl⟩⟩; (try first | exact ⟨rfl, _, World.drewN_drewN _ _ _⟩ | exact ⟨rfl, _, Eq.trans (World.drewN_drewN _ _ _) (congrArg (World.drewN _) (Nat.add_assoc _ _ _))⟩))); try go_wp2_with (first | (go_at_call 33; (with_reducible refine (laws_eqInt64S.calls k1 _ _ (rd_L5 l0 x5_1) _ _ (rd_L5 l1 x5_1) false _ ?_ ?_ ?_ ?_ A7.out).mono ?_); exact (Zag HR946_0); exact HC946_0.out; exact (Zag HR947_0); exact HC947_0.out; rintro e w' ⟨rfl, ⟨nd, rfl⟩⟩; (try first | exact ⟨rfl, _, World.drewN_drewN _ _ _⟩ | exact ⟨rfl, _, Eq.trans (World.drewN_drewN _ _ _) (congrArg (World.drewN _) (Nat.add_assoc _ _ _))⟩))))
        go_ret
        exact ⟨Za, Zb⟩
      ·rw [if_neg c6] at H
       exact absurd H (by simp)
     ·rw [if_neg c5] at H
      exact absurd H (by simp)
    ·rw [if_neg c4] at H
     have c4b0 := decide_eq_false c4; clear c4; obtain rfl := Option.some.inj H
     go_wp2
     repeat (go_quiet (fail); try go_wp2)
     go_ret
     exact ⟨Za, Zb⟩
 ·rw [if_neg c3] at H
  have c3b0 := beq_eq_false_iff_ne.mpr c3; have c3b1 := bne_iff_ne.mpr c3
  have c3b2 : (l0.length == l1.length) = false := by first | simpa using c3 | (simp at c3 ⊢; omega)
  obtain rfl := Option.some.inj H
  go_enter Try.func9, Try.ntmps9
  go_wp2
  repeat (go_quiet (fail); try go_wp2)
  go_ret
  exact ⟨Za, Zb⟩
 /-! ### laws_heldInt64SS: function 13 -/
def laws_heldInt64SS.l0 : Nat → List (List Int) → Int → Int → Option (Int)
 | 0, _, _, _ => none
 | k + 1, x0, x1, x5 => if x5 < (x0.length : Int) then (if 0 ≤ x5 then ((laws_heldInt64S.f k (rd_L5 x0 x5) x1).bind fun t1030 => (if t1030 < 0 then (some (-1)) else (laws_heldInt64SS.l0 k x0 t1030 (wrap64 (x5 + 1))))) else (none)) else (some x1)
def laws_heldInt64SS.f (k : Nat) (l0 : List (List Int)) (a1 : Int) : Option (Int) := laws_heldInt64SS.l0 k l0 a1 0
set_option maxHeartbeats 8000000 in
set_option maxRecDepth 100000 in
theorem laws_heldInt64SS.calls (k : Nat) (A0 : Option Addr) (c0 : Nat) (l0 : List (List Int)) (a1 : Int) (r : Int) (w : World) (hr0 : Kd.C (Kd.slice 2 (Kd.int .i64)) w A0 l0.length l0) (hc0 : l0.length ≤ c0) (h : laws_heldInt64SS.f k l0 a1 = some r) :
  Calls Try.prog 13 #[.slice A0 l0.length c0, .int .i64 a1] w fun e w' => e = .returned (.int .i64 r) ∧ Drawn0 w w' := by
 have HR0 := am_ hr0; have HC0 := am_ hc0; clear hr0 hc0; have H : (laws_heldInt64SS.l0 k l0 a1 0) = some r := h; clear h; have H' := am_ H; clear H
 go_enter Try.func13, Try.ntmps13
 go_wp2
 go_loopg [1, 5] k (fun kq v1 v5 w' => ∃ (x1_1 : Int) (x5_1 : Int), v1 = .int .i64 x1_1 ∧ v5 = .int .i64 x5_1 ∧ Aside0 (laws_heldInt64SS.l0 kq l0 x1_1 x5_1 = some r) ∧ Aside0 (kq ≤ k) ∧ Drawn0 w w')
 case atStart => exact ⟨(a1), (0), Za, Za, H', ⟨Nat.le_refl _⟩, Zb⟩
 case round =>
  clear H'
  try clear c1
  try clear p2
  obtain ⟨x1_1, x5_1, rfl, rfl, HA, HK1, ⟨m1, rfl⟩⟩ := hrel
  cases gk with
  | zero => exact absurd HA.out (by simp [laws_heldInt64SS.l0])
  | succ k1 =>
   have H := HA.out; clear HA; simp only [laws_heldInt64SS.l0] at H
   by_cases c3 : x5_1 < (l0.length : Int)
   ·rw [if_pos c3] at H
    have c3b0 := decide_eq_true c3; clear c3
    by_cases c4 : 0 ≤ x5_1
    ·rw [if_pos c4] at H
     have c4b0 := decide_eq_true c4; clear c4; replace H := Option.bind_eq_some_iff.mp H; obtain ⟨t1030, A50, H⟩ := H; have A5 := am_ A50; clear A50
     by_cases c6 : t1030 < 0
     ·rw [if_pos c6] at H
      have c6b0 := decide_eq_true c6; clear c6; obtain rfl := Option.some.inj H; have p1029 : 0 ≤ (x5_1 : Int) := of_decide_eq_true Zn; have q1029 : x5_1 < (l0.length : Int) := of_decide_eq_true Zn; obtain ⟨ad1029, A1029_0, c1029_0, e1029, hx1029_0, hl1029_0, hi1029_0⟩ := at_L5 HR0.out x5_1 p1029 q1029
      cases e1029
      have HR1029_0 := am_ hi1029_0; have HC1029_0 := am_ hl1029_0; clear hi1029_0 hl1029_0; replace p1029 := eq_true p1029; replace q1029 := eq_true q1029
      go_wp2_with (first | ((with_reducible refine gate_callee (f := 41) rfl ?_); refine gZ 17 Try.func41 #[.slice A1029_0 (rd_L5 l0 x5_1).length c1029_0, .int .i64 x1_1] ?_; (with_reducible refine (laws_heldInt64S.calls k1 _ _ (rd_L5 l0 x5_1) x1_1 t1030 _ ?_ ?_ A5.out).mono ?_); exact (Zag HR1029_0); exact HC1029_0.out; rintro e w' ⟨rfl, ⟨nd, rfl⟩⟩; refine ⟨_, rfl, ?_⟩))
      go_ret
      exact ⟨Za, Zb⟩
     ·rw [if_neg c6] at H
      have c6b0 := decide_eq_false c6; clear c6; have H' := am_ H; clear H; have p1029 : 0 ≤ (x5_1 : Int) := of_decide_eq_true Zn; have q1029 : x5_1 < (l0.length : Int) := of_decide_eq_true Zn; obtain ⟨ad1029, A1029_0, c1029_0, e1029, hx1029_0, hl1029_0, hi1029_0⟩ := at_L5 HR0.out x5_1 p1029 q1029
      cases e1029
      have HR1029_0 := am_ hi1029_0; have HC1029_0 := am_ hl1029_0; clear hi1029_0 hl1029_0; replace p1029 := eq_true p1029; replace q1029 := eq_true q1029
      go_wp2_with (first | ((with_reducible refine gate_callee (f := 41) rfl ?_); refine gZ 17 Try.func41 #[.slice A1029_0 (rd_L5 l0 x5_1).length c1029_0, .int .i64 x1_1] ?_; (with_reducible refine (laws_heldInt64S.calls k1 _ _ (rd_L5 l0 x5_1) x1_1 t1030 _ ?_ ?_ A5.out).mono ?_); exact (Zag HR1029_0); exact HC1029_0.out; rintro e w' ⟨rfl, ⟨nd, rfl⟩⟩; refine ⟨_, rfl, ?_⟩))
      go_roundg k1
      case measure => have := HK1.out; omega
      case rel => exact ⟨(t1030), (wrap64 (x5_1 + 1)), Za, Za, H', ⟨Zs⟩, Zb⟩
    ·rw [if_neg c4] at H
     exact absurd H (by simp)
   ·rw [if_neg c3] at H
    have c3b0 := decide_eq_false c3; clear c3; obtain rfl := Option.some.inj H
    go_wp2
    go_ret
    exact ⟨Za, Zb⟩
end Go.Proofs.Ytnifblnlpepehaa.F
namespace Go.Proofs.Ytnifblnlpepehaa.F
open Go.RowKit Go.Proofs.YtnifblnlpepehaaW.PrintWords Go.Proofs.YtnifblnlpepehaaW.PrintLast Go.Proofs.YtnifblnlpepehaaW.PrintMore
set_option linter.unusedVariables false
set_option linter.unusedSimpArgs false
def laws_markInt64SS.l0 : Nat → List (List Int) → Int → Int → Option (Int × List (List Int))
 | 0, _, _, _ => none
 | k + 1, x0, x1, x5 => if x5 < (x0.length : Int) then (if 0 ≤ x5 then ((laws_markInt64S.f k (rd_L5 x0 x5) x1).bind fun b => (laws_markInt64SS.l0 k (x0.set (x5 : Int).toNat b.2) b.1 (wrap64 (x5 + 1)))) else (none)) else (some (x1, x0))
def laws_markInt64SS.f (k : Nat) (l0 : List (List Int)) (a1 : Int) : Option (Int × List (List Int)) := laws_markInt64SS.l0 k l0 a1 0
set_option maxHeartbeats 8000000 in
set_option maxRecDepth 100000 in
theorem laws_markInt64SS.calls (k : Nat) (P0_ : Nat → Prop) (u9000_ : Value) (l0 : List (List Int)) (a1 : Int) (r1 : Int) (r2 : List (List Int)) (w0 w : World) (hB : Below w0.heap.size w0 w) (ho0 : Kd.S (Kd.slice 2 (Kd.int .i64)) 47 w w0.heap.size P0_ u9000_ l0) (h : laws_markInt64SS.f k l0 a1 = some (r1, r2)) :
 Calls Try.prog 12 #[u9000_, .int .i64 a1] w fun e w' => e = .returned (.int .i64 r1) ∧ Kd.S (Kd.slice 2 (Kd.int .i64)) 47 w' w0.heap.size (fun k_ => (P0_ k_ ∨ w.heap.size ≤ k_)) u9000_ r2 ∧ Below w0.heap.size w0 w' ∧ Kept w w' (fun k_ => P0_ k_) := by
 have HO0 := am_ (show Kd.S (Kd.slice 2 (Kd.int .i64)) 47 w w0.heap.size (fun k_ => (P0_ k_ ∨ w.heap.size ≤ k_)) u9000_ l0 from Kd.S_mono ho0 (fun k_ hk => (.inl hk))); have HK := am_ (Kept.refl w (fun k_ => P0_ k_)); have HB := am_ hB; clear hB; have H : (laws_markInt64SS.l0 k l0 a1 0) = some (r1, r2) := h; clear h; have H' := am_ H; clear H ho0
 go_enter Try.func12, Try.ntmps12
 go_wp2
 go_loopg [1, 5] k (fun kq v1 v5 w' => ∃ (x0_1 : List (List Int)) (x1_1 : Int) (x5_1 : Int), v1 = .int .i64 x1_1 ∧ v5 = .int .i64 x5_1 ∧ Aside0 (laws_markInt64SS.l0 kq x0_1 x1_1 x5_1 = some (r1, r2)) ∧ Aside0 (kq ≤ k) ∧ Aside0 (Kd.S (Kd.slice 2 (Kd.int .i64)) 47 w' w0.heap.size (fun k_ => (P0_ k_ ∨ w.heap.size ≤ k_)) u9000_ x0_1) ∧ Aside0 (Kept w w' (fun k_ => P0_ k_)) ∧ Aside0 (Below w0.heap.size w0 w'))
 case atStart => exact ⟨(l0), (a1), (0), Za, Za, H', ⟨Nat.le_refl _⟩, HO0, HK, HB⟩
 case round =>
  clear H'
  try clear p2
  obtain ⟨x0_1, x1_1, x5_1, rfl, rfl, HA, HK1, HO_0, HK, HB⟩ := hrel
  cases gk with
  | zero => exact absurd HA.out (by simp [laws_markInt64SS.l0])
  | succ k1 =>
   have H := HA.out; clear HA; simp only [laws_markInt64SS.l0] at H
   by_cases c3 : x5_1 < (x0_1.length : Int)
   ·rw [if_pos c3] at H
    have c3b0 := decide_eq_true c3
    by_cases c4 : 0 ≤ x5_1
    ·rw [if_pos c4] at H
     have c4b0 := decide_eq_true c4; replace H := Option.bind_eq_some_iff.mp H; obtain ⟨⟨t1, t2⟩, A50, H⟩ := H
     dsimp only at H
     have A5 := am_ A50; have H' := am_ H; clear A50 H; obtain ⟨Ao6, co6, eo6⟩ := Kd.S_slice HO_0.out; subst eo6; obtain ⟨go5, co5, eo5, gb5, gl5, _⟩ := Kd.S_form HO_0.out (by omega); injection eo5 with ea_ en_ ec_; subst ea_; subst ec_; clear en_; obtain ⟨oki, cc, hcl, hM, hcc, hfr, hoki, hH⟩ := Kd.S_elem HO_0.out ([] : List Int) x5_1 c4 c3; obtain ⟨ve, rfl, hR⟩ := hM; have hx0 := hcc 0 _ rfl; rw [Nat.add_zero, show ((Kd.slice 2 (Kd.int .i64))).sz = 1 from rfl, Nat.mul_one] at hx0; have HR := am_ (show Kd.R (Kd.int .i64) 2 wr w0.heap.size oki ve (rd_L5 x0_1 x5_1) from hR); have HH := am_ (Kd.H_widen hH); have HI := am_ hoki; clear hH hcc hfr hoki hcl hR gb5 gl5; obtain ⟨A7, c7, e7⟩ := Kd.R_slice HR.out; subst e7; replace c3 := eq_true c3; replace c4 := eq_true c4
     go_wp2_with (first | ((with_reducible refine gate_callee (f := 40) rfl ?_); refine gZ 17 Try.func40 #[.slice A7 (rd_L5 x0_1 x5_1).length c7, .int .i64 x1_1] ?_; (with_reducible refine (laws_markInt64S.calls k1 oki _ (rd_L5 x0_1 x5_1) x1_1 t1 t2 w0 _ HB.out HR.out A5.out).mono ?_); rintro e w8 ⟨rfl, hr_, hB_, hk_⟩; refine ⟨_, rfl, ?_⟩; replace HO_0 := am_ (Kd.H_back (x' := t2) (Kd.H_kept HH.out hk_ (fun k_ _ hn hs => hn (.inl hs))) ⟨_, rfl, hr_⟩ (fun k_ hk => hk.elim .inl (fun h2 => .inr ⟨.inr (Nat.le_trans HK.out.1 h2), h2⟩))); replace HK := am_ (Kept.then_ HK.out hk_ (fun k_ hs => (HI.out k_ hs).1)); replace HB := am_ hB_; clear HH HI HR hr_ hB_ hk_))
     go_roundg k1
     case measure => have := HK1.out; omega
     case rel => exact ⟨(x0_1.set (x5_1 : Int).toNat t2), (t1), (wrap64 (x5_1 + 1)), Za, Za, H', ⟨Zs⟩, ⟨by have z := HO_0.out; have el : x0_1.length = (x0_1.set (x5_1 : Int).toNat t2).length := (List.length_set ..).symm; first | exact z | (rw [el]; exact z)⟩, HK, HB⟩
    ·rw [if_neg c4] at H
     exact absurd H (by simp)
   ·rw [if_neg c3] at H
    have c3b0 := decide_eq_false c3; clear c3; simp only [Option.some.injEq, Prod.mk.injEq] at H; obtain ⟨rfl, rfl⟩ := H; obtain ⟨Ao9, co9, eo9⟩ := Kd.S_slice HO_0.out; subst eo9
    go_wp2
    go_ret
    exact ⟨Za, HO_0.out, HB.out, HK.out⟩
end Go.Proofs.Ytnifblnlpepehaa.F
namespace Go.Proofs.Ytnifblnlpepehaa.F
open Go.RowKit Go.Proofs.YtnifblnlpepehaaW.PrintWords Go.Proofs.YtnifblnlpepehaaW.PrintLast Go.Proofs.YtnifblnlpepehaaW.PrintMore
attribute [local go_sem] max2_int min2_int max_two min_two max_three min_three max_four min_four
set_option linter.unusedVariables false
set_option linter.unusedSimpArgs false
def spec_l01In.f (a0 : Int) (a1 : Int) (a2 : Int) : Option (Bool) := if a0 ≥ a1 then (some (decide (a0 ≤ a2))) else (some false)
set_option maxHeartbeats 8000000 in
set_option maxRecDepth 100000 in
theorem spec_l01In.calls (a0 : Int) (a1 : Int) (a2 : Int) (r : Bool) (w : World) (h : spec_l01In.f a0 a1 a2 = some r) :
  Calls Try.prog 24 #[.int .i64 a0, .int .i64 a1, .int .i64 a2] w fun e w' => e = .returned (.bool r) ∧ Drawn0 w w' := by
 have H : (if a0 ≥ a1 then (some (decide (a0 ≤ a2))) else (some false)) = some r := h; clear h
 by_cases c4 : a0 ≥ a1
 ·rw [if_pos c4] at H
  have c4b0 : decide (a1 ≤ a0) = true := decide_eq_true c4; clear c4; obtain rfl := Option.some.inj H
  go_enter Try.func24, Try.ntmps24
  go_wp2
  go_ret
  exact ⟨Za, Zb⟩
 ·rw [if_neg c4] at H
  have c4b0 : decide (a1 ≤ a0) = false := decide_eq_false c4; clear c4; obtain rfl := Option.some.inj H
  go_enter Try.func24, Try.ntmps24
  go_wp2
  go_ret
  exact ⟨Za, Zb⟩
def spec_IsScore.l0 : Nat → List (S87) → Int → Option (Bool)
 | 0, _, _ => none
 | k + 1, x0, x3 => if x3 < (x0.length : Int) then (if 0 ≤ x3 then ((spec_l01In.f ((rd_T87 x0 x3).f0) 1 16).bind fun t103 => (if t103 = true then ((spec_l01In.f ((rd_T87 x0 x3).f1) 100 5000).bind fun t105 => (if t105 = true then (spec_IsScore.l0 k x0 (wrap64 (x3 + 1))) else (some false))) else (some false))) else (none)) else ((spec_l01In.f (x0.length : Int) 1 20).bind fun t101 => (some t101))
def spec_IsScore.f (k : Nat) (l0 : List (S87)) : Option (Bool) := spec_IsScore.l0 k l0 0
set_option maxHeartbeats 8000000 in
set_option maxRecDepth 100000 in
theorem spec_IsScore.calls (k : Nat) (A0 : Option Addr) (c0 : Nat) (l0 : List (S87)) (r : Bool) (w : World) (hr0 : Kd.C k87 w A0 l0.length l0) (hc0 : l0.length ≤ c0) (h : spec_IsScore.f k l0 = some r) :
  Calls Try.prog 49 #[.slice A0 l0.length c0] w fun e w' => e = .returned (.bool r) ∧ Drawn0 w w' := by
 have HR0 := am_ hr0; have HC0 := am_ hc0; clear hr0 hc0; have H : (spec_IsScore.l0 k l0 0) = some r := h; clear h; have H' := am_ H; clear H
 go_enter Try.func49, Try.ntmps49
 go_wp2
 go_loopg [3] k (fun kq v3 w' => ∃ (x3_1 : Int), v3 = .int .i64 x3_1 ∧ Aside0 (spec_IsScore.l0 kq l0 x3_1 = some r) ∧ Aside0 (kq ≤ k) ∧ Drawn0 w w')
 case atStart => exact ⟨(0), Za, H', ⟨Nat.le_refl _⟩, Zb⟩
 case round =>
  clear H'; obtain ⟨x3_1, rfl, HA, HK1, ⟨m1, rfl⟩⟩ := hrel
  cases gk with
  | zero => exact absurd HA.out (by simp [spec_IsScore.l0])
  | succ k1 =>
   have H := HA.out; clear HA; simp only [spec_IsScore.l0] at H
   by_cases c2 : x3_1 < (l0.length : Int)
   ·rw [if_pos c2] at H
    have c2b0 := decide_eq_true c2; clear c2
    by_cases c3 : 0 ≤ x3_1
    ·rw [if_pos c3] at H
     have c3b0 := decide_eq_true c3; clear c3; replace H := Option.bind_eq_some_iff.mp H; obtain ⟨t103, A40, H⟩ := H; have A4 := am_ A40; clear A40; have HS_ := am_ H; clear H; have p102 : 0 ≤ (x3_1 : Int) := of_decide_eq_true Zn; have q102 : x3_1 < (l0.length : Int) := of_decide_eq_true Zn; obtain ⟨ad102, e102, hx102_0, hx102_1⟩ := at_T87 HR0.out x3_1 p102 q102
     cases e102
     replace p102 := eq_true p102; replace q102 := eq_true q102
     go_wp2_with (first | ((with_reducible refine gate_callee (f := 24) rfl ?_); refine gZ 15 Try.func24 #[.int .i64 ((rd_T87 l0 x3_1).f0), .int .i64 1, .int .i64 16] ?_; (with_reducible refine (spec_l01In.calls ((rd_T87 l0 x3_1).f0) 1 16 t103 _ A4.out).mono ?_); rintro e w' ⟨rfl, ⟨nd, rfl⟩⟩; refine ⟨_, rfl, ?_⟩; refine ?roundEnd))
     case roundEnd =>
      by_cases c5 : t103 = true
      ·have H := HS_.out
       clear HS_; subst c5; rw [if_pos rfl] at H; replace H := Option.bind_eq_some_iff.mp H; obtain ⟨t105, A60, H⟩ := H; have A6 := am_ A60; clear A60; have HS_ := am_ H; clear H; have p104 : 0 ≤ (x3_1 : Int) := of_decide_eq_true Zn; have q104 : x3_1 < (l0.length : Int) := of_decide_eq_true Zn; obtain ⟨ad104, e104, hx104_0, hx104_1⟩ := at_T87 HR0.out x3_1 p104 q104; obtain rfl : ad102 = ad104 := (by injection e104); replace p104 := eq_true p104; replace q104 := eq_true q104
       go_wp2_with (first | (go_at_call 24; (with_reducible refine (spec_l01In.calls ((rd_T87 l0 x3_1).f1) 100 5000 t105 _ A6.out).mono ?_); rintro e w' ⟨rfl, ⟨nd, rfl⟩⟩; refine ?roundEnd))
       case roundEnd =>
        by_cases c7 : t105 = true
        ·have H := HS_.out
         clear HS_; subst c7; rw [if_pos rfl] at H; have H' := am_ H; clear H
         go_wp2_with (first | fail)
         go_roundg k1
         case measure => have := HK1.out; omega
         case rel => exact ⟨(wrap64 (x3_1 + 1)), Za, H', ⟨Zs⟩, Zb⟩
        ·have H := HS_.out
         clear HS_; replace c7 := Bool.eq_false_iff.mpr c7; subst c7; rw [if_neg (show ¬ (false = true) by decide)] at H; obtain rfl := Option.some.inj H
         go_wp2_with (first | fail)
         go_ret
         exact ⟨Za, Zb⟩
      ·have H := HS_.out
       clear HS_; replace c5 := Bool.eq_false_iff.mpr c5; subst c5; rw [if_neg (show ¬ (false = true) by decide)] at H; obtain rfl := Option.some.inj H
       go_wp2_with (first | fail)
       go_ret
       exact ⟨Za, Zb⟩
    ·rw [if_neg c3] at H
     exact absurd H (by simp)
   ·rw [if_neg c2] at H
    have c2b0 := decide_eq_false c2; clear c2; replace H := Option.bind_eq_some_iff.mp H; obtain ⟨t101, A80, H⟩ := H; have A8 := am_ A80; clear A80; obtain rfl := Option.some.inj H
    go_wp2_with (first | ((with_reducible refine gate_callee (f := 24) rfl ?_); refine gZ 28 Try.func24 #[.int .i64 (l0.length : Int), .int .i64 1, .int .i64 20] ?_; (with_reducible refine (spec_l01In.calls (l0.length : Int) 1 20 t101 _ A8.out).mono ?_); rintro e w' ⟨rfl, ⟨nd, rfl⟩⟩; refine ⟨_, rfl, ?_⟩))
    go_ret
    exact ⟨Za, Zb⟩
def spec_IsWord.l0 : Nat → ByteArray → Int → Option (Bool)
 | 0, _, _ => none
 | k + 1, x0, x3 => if x3 < (x0.size : Int) then (if 0 ≤ x3 then (if (bt x0 x3) < 97 then (some false) else (if (bt x0 x3) > 122 then (some false) else (spec_IsWord.l0 k x0 (wrap64 (x3 + 1))))) else (none)) else ((spec_l01In.f (x0.size : Int) 1 16).bind fun t106 => (some t106))
def spec_IsWord.f (k : Nat) (a0 : ByteArray) : Option (Bool) := spec_IsWord.l0 k a0 0
set_option maxHeartbeats 8000000 in
set_option maxRecDepth 100000 in
theorem spec_IsWord.calls (k : Nat) (a0 : ByteArray) (r : Bool) (w : World) (h : spec_IsWord.f k a0 = some r) :
  Calls Try.prog 90 #[.string a0] w fun e w' => e = .returned (.bool r) ∧ Drawn0 w w' := by
 have H : (spec_IsWord.l0 k a0 0) = some r := h; clear h; have H' := am_ H; clear H
 go_enter Try.func90, Try.ntmps90
 go_wp2
 go_loopg [3] k (fun kq v3 w' => ∃ (x3_1 : Int), v3 = .int .i64 x3_1 ∧ Aside0 (spec_IsWord.l0 kq a0 x3_1 = some r) ∧ Aside0 (kq ≤ k) ∧ Drawn0 w w')
 case atStart => exact ⟨(0), Za, H', ⟨Nat.le_refl _⟩, Zb⟩
 case round =>
  clear H'; obtain ⟨x3_1, rfl, HA, HK1, ⟨m1, rfl⟩⟩ := hrel
  cases gk with
  | zero => exact absurd HA.out (by simp [spec_IsWord.l0])
  | succ k1 =>
   have H := HA.out; clear HA; simp only [spec_IsWord.l0] at H
   by_cases c2 : x3_1 < (a0.size : Int)
   ·rw [if_pos c2] at H
    have c2b0 := decide_eq_true c2; clear c2
    by_cases c3 : 0 ≤ x3_1
    ·rw [if_pos c3] at H
     have c3b0 := decide_eq_true c3; clear c3
     by_cases c5 : (bt a0 x3_1) < 97
     ·rw [if_pos c5] at H
      have c5b0 := decide_eq_true c5; clear c5; obtain rfl := Option.some.inj H; have p4 : 0 ≤ (x3_1 : Int) := of_decide_eq_true Zn; have q4 : x3_1 < (a0.size : Int) := of_decide_eq_true Zn; have hx4 := bt_at a0 x3_1; replace p4 := eq_true p4; replace q4 := eq_true q4
      go_wp2
      go_ret
      exact ⟨Za, Zb⟩
     ·rw [if_neg c5] at H
      have c5b0 := decide_eq_false c5; clear c5
      by_cases c7 : (bt a0 x3_1) > 122
      ·rw [if_pos c7] at H
       have c7b0 : decide (122 < (bt a0 x3_1)) = true := decide_eq_true c7; clear c7; obtain rfl := Option.some.inj H; have p4 : 0 ≤ (x3_1 : Int) := of_decide_eq_true Zn; have q4 : x3_1 < (a0.size : Int) := of_decide_eq_true Zn; have hx4 := bt_at a0 x3_1; replace p4 := eq_true p4; replace q4 := eq_true q4; have p6 : 0 ≤ (x3_1 : Int) := of_decide_eq_true Zn; have q6 : x3_1 < (a0.size : Int) := of_decide_eq_true Zn; have hx6 := bt_at a0 x3_1; replace p6 := eq_true p6; replace q6 := eq_true q6
       go_wp2
       go_ret
       exact ⟨Za, Zb⟩
      ·rw [if_neg c7] at H
       have c7b0 : decide (122 < (bt a0 x3_1)) = false := decide_eq_false c7; clear c7; have H' := am_ H; clear H; have p4 : 0 ≤ (x3_1 : Int) := of_decide_eq_true Zn; have q4 : x3_1 < (a0.size : Int) := of_decide_eq_true Zn; have hx4 := bt_at a0 x3_1; replace p4 := eq_true p4; replace q4 := eq_true q4; have p6 : 0 ≤ (x3_1 : Int) := of_decide_eq_true Zn; have q6 : x3_1 < (a0.size : Int) := of_decide_eq_true Zn; have hx6 := bt_at a0 x3_1; replace p6 := eq_true p6; replace q6 := eq_true q6
       go_wp2
       go_roundg k1
       case measure => have := HK1.out; omega
       case rel => exact ⟨(wrap64 (x3_1 + 1)), Za, H', ⟨Zs⟩, Zb⟩
    ·rw [if_neg c3] at H
     exact absurd H (by simp)
   ·rw [if_neg c2] at H
    have c2b0 := decide_eq_false c2; clear c2; replace H := Option.bind_eq_some_iff.mp H; obtain ⟨t106, A80, H⟩ := H; have A8 := am_ A80; clear A80; obtain rfl := Option.some.inj H
    go_wp2_with (first | ((with_reducible refine gate_callee (f := 24) rfl ?_); refine gZ 22 Try.func24 #[.int .i64 (a0.size : Int), .int .i64 1, .int .i64 16] ?_; (with_reducible refine (spec_l01In.calls (a0.size : Int) 1 16 t106 _ A8.out).mono ?_); rintro e w' ⟨rfl, ⟨nd, rfl⟩⟩; refine ⟨_, rfl, ?_⟩))
    go_ret
    exact ⟨Za, Zb⟩
def spec_IsArticle.f (k : Nat) (a0_0 : ByteArray) (a0_1 : Int) (a0_2 : Int) (a0_3 : Int) (a0_4 : Int) (a0_5 : Int) (a0_6 : Int) (a0_7 : Int) (a0_8 : Int) : Option (Bool) := (spec_IsWord.f k a0_0).bind fun t108 => (if t108 = true then ((spec_l01In.f a0_1 0 3).bind fun t109 => (if t109 = true then ((spec_l01In.f a0_2 20 300).bind fun t110 => (if t110 = true then ((spec_l01In.f a0_3 0 10000).bind fun t111 => (if t111 = true then ((spec_l01In.f a0_4 0 a0_3).bind fun t112 => (if t112 = true then ((spec_l01In.f a0_5 1 50).bind fun t113 => (if t113 = true then ((spec_l01In.f a0_6 0 10000).bind fun t114 => (if t114 = true then ((spec_l01In.f a0_7 1 100000).bind fun t115 => (if t115 = true then ((spec_l01In.f a0_8 0 3).bind fun t116 => (some t116)) else (some false))) else (some false))) else (some false))) else (some false))) else (some false))) else (some false))) else (some false))) else (some false))
set_option maxHeartbeats 8000000 in
set_option maxRecDepth 100000 in
theorem spec_IsArticle.calls (k : Nat) (a0_0 : ByteArray) (a0_1 : Int) (a0_2 : Int) (a0_3 : Int) (a0_4 : Int) (a0_5 : Int) (a0_6 : Int) (a0_7 : Int) (a0_8 : Int) (r : Bool) (w : World) (h : spec_IsArticle.f k a0_0 a0_1 a0_2 a0_3 a0_4 a0_5 a0_6 a0_7 a0_8 = some r) :
  Calls Try.prog 73 #[.agg #[.string a0_0, .int .i64 a0_1, .int .i64 a0_2, .int .i64 a0_3, .int .i64 a0_4, .int .i64 a0_5, .int .i64 a0_6, .int .i64 a0_7, .int .i64 a0_8]] w fun e w' => e = .returned (.bool r) ∧ Below w.heap.size w w' := by
 have hu91 := Try.underlying91; have HB := am_ (Below.refl w.heap.size w); have H : ((spec_IsWord.f k a0_0).bind fun t108 => (if t108 = true then ((spec_l01In.f a0_1 0 3).bind fun t109 => (if t109 = true then ((spec_l01In.f a0_2 20 300).bind fun t110 => (if t110 = true then ((spec_l01In.f a0_3 0 10000).bind fun t111 => (if t111 = true then ((spec_l01In.f a0_4 0 a0_3).bind fun t112 => (if t112 = true then ((spec_l01In.f a0_5 1 50).bind fun t113 => (if t113 = true then ((spec_l01In.f a0_6 0 10000).bind fun t114 => (if t114 = true then ((spec_l01In.f a0_7 1 100000).bind fun t115 => (if t115 = true then ((spec_l01In.f a0_8 0 3).bind fun t116 => (some t116)) else (some false))) else (some false))) else (some false))) else (some false))) else (some false))) else (some false))) else (some false))) else (some false))) = some r := h; clear h; replace H := Option.bind_eq_some_iff.mp H; obtain ⟨t108, A20, H⟩ := H; have A2 := am_ A20; clear A20; have HS_ := am_ H; clear H
 go_enter Try.func73, Try.ntmps73
 go_wp2_with (first | ((with_reducible refine gate_dst (N := 1) rfl ?_); refine boxZ 1 #[.string a0_0, .int .i64 a0_1, .int .i64 a0_2, .int .i64 a0_3, .int .i64 a0_4, .int .i64 a0_5, .int .i64 a0_6, .int .i64 a0_7, .int .i64 a0_8] 91 ?_; intro gb107 hg w19 hbox hb; replace BK107 := am_ (hbox); replace GW107 := am_ ((Zc : w.heap.size ≤ gb107)); replace GE107 := GW107; replace HB := (bsZ Zd hb); clear hb hbox hg; refine ci9 BK107 ?_; intros) | ((with_reducible refine gate_callee (f := 90) rfl ?_); refine gZ 5 Try.func90 #[.string a0_0] ?_; (with_reducible refine (spec_IsWord.calls k a0_0 t108 _ A2.out).mono ?_); rintro e w' ⟨rfl, ⟨nd, rfl⟩⟩; refine ⟨_, rfl, ?_⟩; refine ?roundEnd))
 case roundEnd =>
  by_cases c3 : t108 = true
  ·have H := HS_.out
   clear HS_; subst c3; rw [if_pos rfl] at H; replace H := Option.bind_eq_some_iff.mp H; obtain ⟨t109, A40, H⟩ := H; have A4 := am_ A40; clear A40; have HS_ := am_ H; clear H
   go_wp2_with (first | (go_at_call 24; (with_reducible refine (spec_l01In.calls a0_1 0 3 t109 _ A4.out).mono ?_); rintro e w' ⟨rfl, ⟨nd, rfl⟩⟩; refine ?roundEnd))
   case roundEnd =>
    by_cases c5 : t109 = true
    ·have H := HS_.out
     clear HS_; subst c5; rw [if_pos rfl] at H; replace H := Option.bind_eq_some_iff.mp H; obtain ⟨t110, A60, H⟩ := H; have A6 := am_ A60; clear A60; have HS_ := am_ H; clear H
     go_wp2_with (first | (go_at_call 24; (with_reducible refine (spec_l01In.calls a0_2 20 300 t110 _ A6.out).mono ?_); rintro e w' ⟨rfl, ⟨nd, rfl⟩⟩; refine ?roundEnd))
     case roundEnd =>
      by_cases c7 : t110 = true
      ·have H := HS_.out
       clear HS_; subst c7; rw [if_pos rfl] at H; replace H := Option.bind_eq_some_iff.mp H; obtain ⟨t111, A80, H⟩ := H; have A8 := am_ A80; clear A80; have HS_ := am_ H; clear H
       go_wp2_with (first | (go_at_call 24; (with_reducible refine (spec_l01In.calls a0_3 0 10000 t111 _ A8.out).mono ?_); rintro e w' ⟨rfl, ⟨nd, rfl⟩⟩; refine ?roundEnd))
       case roundEnd =>
        by_cases c9 : t111 = true
        ·have H := HS_.out
         clear HS_; subst c9; rw [if_pos rfl] at H; replace H := Option.bind_eq_some_iff.mp H; obtain ⟨t112, A100, H⟩ := H; have A10 := am_ A100; clear A100; have HS_ := am_ H; clear H
         go_wp2_with (first | (go_at_call 24; (with_reducible refine (spec_l01In.calls a0_4 0 a0_3 t112 _ A10.out).mono ?_); rintro e w' ⟨rfl, ⟨nd, rfl⟩⟩; refine ?roundEnd))
         case roundEnd =>
          by_cases c11 : t112 = true
          ·have H := HS_.out
           clear HS_; subst c11; rw [if_pos rfl] at H; replace H := Option.bind_eq_some_iff.mp H; obtain ⟨t113, A120, H⟩ := H; have A12 := am_ A120; clear A120; have HS_ := am_ H; clear H
           go_wp2_with (first | (go_at_call 24; (with_reducible refine (spec_l01In.calls a0_5 1 50 t113 _ A12.out).mono ?_); rintro e w' ⟨rfl, ⟨nd, rfl⟩⟩; refine ?roundEnd))
           case roundEnd =>
            by_cases c13 : t113 = true
            ·have H := HS_.out
             clear HS_; subst c13; rw [if_pos rfl] at H; replace H := Option.bind_eq_some_iff.mp H; obtain ⟨t114, A140, H⟩ := H; have A14 := am_ A140; clear A140; have HS_ := am_ H; clear H
             go_wp2_with (first | (go_at_call 24; (with_reducible refine (spec_l01In.calls a0_6 0 10000 t114 _ A14.out).mono ?_); rintro e w' ⟨rfl, ⟨nd, rfl⟩⟩; refine ?roundEnd))
             case roundEnd =>
              by_cases c15 : t114 = true
              ·have H := HS_.out
               clear HS_; subst c15; rw [if_pos rfl] at H; replace H := Option.bind_eq_some_iff.mp H; obtain ⟨t115, A160, H⟩ := H; have A16 := am_ A160; clear A160; have HS_ := am_ H; clear H
               go_wp2_with (first | (go_at_call 24; (with_reducible refine (spec_l01In.calls a0_7 1 100000 t115 _ A16.out).mono ?_); rintro e w' ⟨rfl, ⟨nd, rfl⟩⟩; refine ?roundEnd))
               case roundEnd =>
                by_cases c17 : t115 = true
                ·have H := HS_.out
                 clear HS_; subst c17; rw [if_pos rfl] at H; replace H := Option.bind_eq_some_iff.mp H; obtain ⟨t116, A180, H⟩ := H; have A18 := am_ A180; clear A180; obtain rfl := Option.some.inj H
                 go_wp2_with (first | (go_at_call 24; (with_reducible refine (spec_l01In.calls a0_8 0 3 t116 _ A18.out).mono ?_); rintro e w' ⟨rfl, ⟨nd, rfl⟩⟩))
                 go_ret
                 exact ⟨Zj, (Zf GE107)⟩
                ·have H := HS_.out
                 clear HS_; replace c17 := Bool.eq_false_iff.mpr c17; subst c17; rw [if_neg (show ¬ (false = true) by decide)] at H; obtain rfl := Option.some.inj H
                 go_wp2_with (first | fail)
                 go_ret
                 exact ⟨Zj, (Zf GE107)⟩
              ·have H := HS_.out
               clear HS_; replace c15 := Bool.eq_false_iff.mpr c15; subst c15; rw [if_neg (show ¬ (false = true) by decide)] at H; obtain rfl := Option.some.inj H
               go_wp2_with (first | fail)
               go_ret
               exact ⟨Zj, (Zf GE107)⟩
            ·have H := HS_.out
             clear HS_; replace c13 := Bool.eq_false_iff.mpr c13; subst c13; rw [if_neg (show ¬ (false = true) by decide)] at H; obtain rfl := Option.some.inj H
             go_wp2_with (first | fail)
             go_ret
             exact ⟨Zj, (Zf GE107)⟩
          ·have H := HS_.out
           clear HS_; replace c11 := Bool.eq_false_iff.mpr c11; subst c11; rw [if_neg (show ¬ (false = true) by decide)] at H; obtain rfl := Option.some.inj H
           go_wp2_with (first | fail)
           go_ret
           exact ⟨Zj, (Zf GE107)⟩
        ·have H := HS_.out
         clear HS_; replace c9 := Bool.eq_false_iff.mpr c9; subst c9; rw [if_neg (show ¬ (false = true) by decide)] at H; obtain rfl := Option.some.inj H
         go_wp2_with (first | fail)
         go_ret
         exact ⟨Zj, (Zf GE107)⟩
      ·have H := HS_.out
       clear HS_; replace c7 := Bool.eq_false_iff.mpr c7; subst c7; rw [if_neg (show ¬ (false = true) by decide)] at H; obtain rfl := Option.some.inj H
       go_wp2_with (first | fail)
       go_ret
       exact ⟨Zj, (Zf GE107)⟩
    ·have H := HS_.out
     clear HS_; replace c5 := Bool.eq_false_iff.mpr c5; subst c5; rw [if_neg (show ¬ (false = true) by decide)] at H; obtain rfl := Option.some.inj H
     go_wp2_with (first | fail)
     go_ret
     exact ⟨Zj, (Zf GE107)⟩
  ·have H := HS_.out
   clear HS_; replace c3 := Bool.eq_false_iff.mpr c3; subst c3; rw [if_neg (show ¬ (false = true) by decide)] at H; obtain rfl := Option.some.inj H
   go_wp2_with (first | fail)
   go_ret
   exact ⟨Zj, (Zf GE107)⟩
def spec_AreArticles.l0 : Nat → List (S91) → Int → Option (Bool)
 | 0, _, _ => none
 | k + 1, x0, x3 => if x3 < (x0.length : Int) then (if 0 ≤ x3 then ((spec_IsArticle.f k ((rd_T91 x0 x3).f0) ((rd_T91 x0 x3).f1) ((rd_T91 x0 x3).f2) ((rd_T91 x0 x3).f3) ((rd_T91 x0 x3).f4) ((rd_T91 x0 x3).f5) ((rd_T91 x0 x3).f6) ((rd_T91 x0 x3).f7) ((rd_T91 x0 x3).f8)).bind fun t118 => (if t118 = true then (if x3 > 0 then (if 0 ≤ (wrap64 (x3 - 1)) then (if (wrap64 (x3 - 1)) < (x0.length : Int) then (if ((Op.bytesLess (((rd_T91 x0 (wrap64 (x3 - 1))).f0).toList) (((rd_T91 x0 x3).f0).toList)) = true) then (spec_AreArticles.l0 k x0 (wrap64 (x3 + 1))) else (some false)) else (none)) else (none)) else (spec_AreArticles.l0 k x0 (wrap64 (x3 + 1)))) else (some false))) else (none)) else (some (decide ((x0.length : Int) ≤ 12)))
def spec_AreArticles.f (k : Nat) (l0 : List (S91)) : Option (Bool) := spec_AreArticles.l0 k l0 0
def spec_AreArticles.T4 : Bool × List (List Nat × List Nat) := (true, [([], []), ([], []), ([0, 1], [0, 1]), ([2], [2]), ([3], [3]), ([4], [4]), ([5, 4], [5]), ([6], [6]), ([7, 6], [6, 7]), ([8, 6, 6], [6, 8]), ([9], [9]), ([9], [9]), ([11, 9], [9, 11]), ([10, 12, 9], [9, 10, 12]), ([13, 9], [9, 13]), ([14, 9], [9, 14]), ([9], [9]), ([9], [9]), ([16, 17, 9], [9, 16, 17]), ([18, 9], [9, 18]), ([19, 9], [9, 19]), ([15, 20, 9], [9, 15, 20]), ([9, 21, 6], [6, 9, 21]), ([6, 22], [6, 22])])
def spec_AreArticles.B4 : List Nat := [0, 0, 3, 7, 15, 31, 63, 127, 255, 511, 1023, 1023, 3071, 8191, 16383, 32767, 1023, 1023, 197631, 459775, 984063, 2097151, 4194303, 8388607]
theorem spec_AreArticles.tab4 : rtab .any (opsOf Try.f50 4) = spec_AreArticles.T4 := by kernel_rfl
theorem spec_AreArticles.bits4 : waitsOk spec_AreArticles.T4.2 spec_AreArticles.B4 = true := by kernel_rfl
set_option maxHeartbeats 8000000 in
set_option maxRecDepth 100000 in
theorem spec_AreArticles.calls (k : Nat) (A0 : Option Addr) (c0 : Nat) (l0 : List (S91)) (r : Bool) (w : World) (hr0 : Kd.C k91 w A0 l0.length l0) (hc0 : l0.length ≤ c0) (h : spec_AreArticles.f k l0 = some r) :
  Calls Try.prog 50 #[.slice A0 l0.length c0] w fun e w' => e = .returned (.bool r) ∧ Below w.heap.size w w' := by
 have hu91 := Try.underlying91; have HR0 := am_ hr0; have HC0 := am_ hc0; clear hr0 hc0; have HB := am_ (Below.refl w.heap.size w); have H : (spec_AreArticles.l0 k l0 0) = some r := h; clear h; have H' := am_ H; clear H
 go_enter Try.func50, Try.ntmps50
 go_wp2
 go_loopg [3] k (fun kq v3 w' => ∃ (x3_1 : Int), v3 = .int .i64 x3_1 ∧ Aside0 (spec_AreArticles.l0 kq l0 x3_1 = some r) ∧ Aside0 (kq ≤ k) ∧ Aside0 (Below w.heap.size w w'))
 case atStart => exact ⟨(0), Za, H', ⟨Nat.le_refl _⟩, ⟨Zd⟩⟩
 case round =>
  clear H'; obtain ⟨x3_1, rfl, HA, HK1, HB⟩ := hrel
  cases gk with
  | zero => exact absurd HA.out (by simp [spec_AreArticles.l0])
  | succ k1 =>
   have H := HA.out; clear HA; simp only [spec_AreArticles.l0] at H
   by_cases c2 : x3_1 < (l0.length : Int)
   ·rw [if_pos c2] at H
    have c2b0 := decide_eq_true c2; clear c2
    by_cases c3 : 0 ≤ x3_1
    ·rw [if_pos c3] at H
     have c3b0 := decide_eq_true c3; clear c3; replace H := Option.bind_eq_some_iff.mp H; obtain ⟨t118, A40, H⟩ := H; have A4 := am_ A40; clear A40
     by_cases c5 : t118 = true
     ·subst c5
      rw [if_pos rfl] at H
      by_cases c6 : x3_1 > 0
      ·rw [if_pos c6] at H
       have c6b0 : decide (0 < x3_1) = true := decide_eq_true c6; clear c6; obtain ⟨ji7, hji7⟩ : ∃ j_ : Int, (wrap64 (x3_1 - 1)) = j_ := ⟨_, rfl⟩
       replace H : (if 0 ≤ (ji7) then (if (ji7) < (l0.length : Int) then (if ((Op.bytesLess (((rd_T91 l0 (ji7)).f0).toList) (((rd_T91 l0 x3_1).f0).toList)) = true) then (spec_AreArticles.l0 k1 l0 (wrap64 (x3_1 + 1))) else (some false)) else (none)) else (none)) = some r := by first | (rw [hji7] at H; exact H) | (simp only [hji7] at H ⊢; exact H)
       (try rw [hji7] at A4)
       have hji7w : (IntKind.i64.wrap (x3_1 - 1)) = ji7 := (i64_w _).trans hji7
       by_cases c8 : 0 ≤ (ji7)
       ·rw [if_pos c8] at H
        have c8b0 := decide_eq_true c8; clear c8
        by_cases c9 : (ji7) < (l0.length : Int)
        ·rw [if_pos c9] at H
         have c9b0 := decide_eq_true c9; clear c9; have HS_ := am_ H; clear H
         try go_wp2
         replace HB := am_ (below_drew1 HB.out); have p117 : 0 ≤ (x3_1 : Int) := of_decide_eq_true Zn; have q117 : x3_1 < (l0.length : Int) := of_decide_eq_true Zn; obtain ⟨ad117, e117, hx117_0, hx117_1, hx117_2, hx117_3, hx117_4, hx117_5, hx117_6, hx117_7, hx117_8⟩ := at_T91 HR0.out x3_1 p117 q117; have hw117_8 := hx117_8; have hw117_7 := hx117_7; have hw117_6 := hx117_6; have hw117_5 := hx117_5; have hw117_4 := hx117_4; have hw117_3 := hx117_3; have hw117_2 := hx117_2; have hw117_1 := hx117_1; have hw117_0 := hx117_0
         cases e117
         replace hx117_0 := cbH HB hx117_0; replace hx117_1 := cbH HB hx117_1; replace hx117_2 := cbH HB hx117_2; replace hx117_3 := cbH HB hx117_3; replace hx117_4 := cbH HB hx117_4; replace hx117_5 := cbH HB hx117_5; replace hx117_6 := cbH HB hx117_6; replace hx117_7 := cbH HB hx117_7; replace hx117_8 := cbH HB hx117_8; replace p117 := eq_true p117; replace q117 := eq_true q117; have p119 : 0 ≤ ((ji7) : Int) := of_decide_eq_true Zn; have q119 : (ji7) < (l0.length : Int) := of_decide_eq_true Zn; obtain ⟨ad119, e119, hx119_0, hx119_1, hx119_2, hx119_3, hx119_4, hx119_5, hx119_6, hx119_7, hx119_8⟩ := at_T91 HR0.out (ji7) p119 q119; have hw119_8 := hx119_8; have hw119_7 := hx119_7; have hw119_6 := hx119_6; have hw119_5 := hx119_5; have hw119_4 := hx119_4; have hw119_3 := hx119_3; have hw119_2 := hx119_2; have hw119_1 := hx119_1; have hw119_0 := hx119_0; obtain rfl : ad117 = ad119 := (by injection e119); replace hx119_0 := cbH HB hx119_0; replace hx119_1 := cbH HB hx119_1; replace hx119_2 := cbH HB hx119_2; replace hx119_3 := cbH HB hx119_3; replace hx119_4 := cbH HB hx119_4; replace hx119_5 := cbH HB hx119_5; replace hx119_6 := cbH HB hx119_6; replace hx119_7 := cbH HB hx119_7; replace hx119_8 := cbH HB hx119_8; replace p119 := eq_true p119; replace q119 := eq_true q119; have p120 : 0 ≤ (x3_1 : Int) := of_decide_eq_true Zn; have q120 : x3_1 < (l0.length : Int) := of_decide_eq_true Zn; obtain ⟨ad120, e120, hx120_0, hx120_1, hx120_2, hx120_3, hx120_4, hx120_5, hx120_6, hx120_7, hx120_8⟩ := at_T91 HR0.out x3_1 p120 q120; have hw120_8 := hx120_8; have hw120_7 := hx120_7; have hw120_6 := hx120_6; have hw120_5 := hx120_5; have hw120_4 := hx120_4; have hw120_3 := hx120_3; have hw120_2 := hx120_2; have hw120_1 := hx120_1; have hw120_0 := hx120_0; obtain rfl : ad117 = ad120 := (by injection e120); replace hx120_0 := cbH HB hx120_0; replace hx120_1 := cbH HB hx120_1; replace hx120_2 := cbH HB hx120_2; replace hx120_3 := cbH HB hx120_3; replace hx120_4 := cbH HB hx120_4; replace hx120_5 := cbH HB hx120_5; replace hx120_6 := cbH HB hx120_6; replace hx120_7 := cbH HB hx120_7; replace hx120_8 := cbH HB hx120_8; replace p120 := eq_true p120; replace q120 := eq_true q120; refine start_ (n := 24) (S := fun w' => w'.cell? (ad117.add ((x3_1).toNat * 9)) = some (.string ((rd_T91 l0 x3_1).f0)) ∧ w'.cell? ⟨(ad117.add ((x3_1).toNat * 9)).block, (ad117.add ((x3_1).toNat * 9)).off + 1, none⟩ = some (.int .i64 ((rd_T91 l0 x3_1).f1)) ∧ w'.cell? ⟨(ad117.add ((x3_1).toNat * 9)).block, (ad117.add ((x3_1).toNat * 9)).off + 2, none⟩ = some (.int .i64 ((rd_T91 l0 x3_1).f2)) ∧ w'.cell? ⟨(ad117.add ((x3_1).toNat * 9)).block, (ad117.add ((x3_1).toNat * 9)).off + 3, none⟩ = some (.int .i64 ((rd_T91 l0 x3_1).f3)) ∧ w'.cell? ⟨(ad117.add ((x3_1).toNat * 9)).block, (ad117.add ((x3_1).toNat * 9)).off + 4, none⟩ = some (.int .i64 ((rd_T91 l0 x3_1).f4)) ∧ w'.cell? ⟨(ad117.add ((x3_1).toNat * 9)).block, (ad117.add ((x3_1).toNat * 9)).off + 5, none⟩ = some (.int .i64 ((rd_T91 l0 x3_1).f5)) ∧ w'.cell? ⟨(ad117.add ((x3_1).toNat * 9)).block, (ad117.add ((x3_1).toNat * 9)).off + 6, none⟩ = some (.int .i64 ((rd_T91 l0 x3_1).f6)) ∧ w'.cell? ⟨(ad117.add ((x3_1).toNat * 9)).block, (ad117.add ((x3_1).toNat * 9)).off + 7, none⟩ = some (.int .i64 ((rd_T91 l0 x3_1).f7)) ∧ w'.cell? ⟨(ad117.add ((x3_1).toNat * 9)).block, (ad117.add ((x3_1).toNat * 9)).off + 8, none⟩ = some (.int .i64 ((rd_T91 l0 x3_1).f8)) ∧ w'.cell? (ad117.add (((ji7)).toNat * 9)) = some (.string ((rd_T91 l0 (ji7)).f0)) ∧ w'.cell? ⟨(ad117.add (((ji7)).toNat * 9)).block, (ad117.add (((ji7)).toNat * 9)).off + 1, none⟩ = some (.int .i64 ((rd_T91 l0 (ji7)).f1)) ∧ w'.cell? ⟨(ad117.add (((ji7)).toNat * 9)).block, (ad117.add (((ji7)).toNat * 9)).off + 2, none⟩ = some (.int .i64 ((rd_T91 l0 (ji7)).f2)) ∧ w'.cell? ⟨(ad117.add (((ji7)).toNat * 9)).block, (ad117.add (((ji7)).toNat * 9)).off + 3, none⟩ = some (.int .i64 ((rd_T91 l0 (ji7)).f3)) ∧ w'.cell? ⟨(ad117.add (((ji7)).toNat * 9)).block, (ad117.add (((ji7)).toNat * 9)).off + 4, none⟩ = some (.int .i64 ((rd_T91 l0 (ji7)).f4)) ∧ w'.cell? ⟨(ad117.add (((ji7)).toNat * 9)).block, (ad117.add (((ji7)).toNat * 9)).off + 5, none⟩ = some (.int .i64 ((rd_T91 l0 (ji7)).f5)) ∧ w'.cell? ⟨(ad117.add (((ji7)).toNat * 9)).block, (ad117.add (((ji7)).toNat * 9)).off + 6, none⟩ = some (.int .i64 ((rd_T91 l0 (ji7)).f6)) ∧ w'.cell? ⟨(ad117.add (((ji7)).toNat * 9)).block, (ad117.add (((ji7)).toNat * 9)).off + 7, none⟩ = some (.int .i64 ((rd_T91 l0 (ji7)).f7)) ∧ w'.cell? ⟨(ad117.add (((ji7)).toNat * 9)).block, (ad117.add (((ji7)).toNat * 9)).off + 8, none⟩ = some (.int .i64 ((rd_T91 l0 (ji7)).f8)) ∧ w'.cell? (ad117.add ((x3_1).toNat * 9)) = some (.string ((rd_T91 l0 x3_1).f0)) ∧ w'.cell? ⟨(ad117.add ((x3_1).toNat * 9)).block, (ad117.add ((x3_1).toNat * 9)).off + 1, none⟩ = some (.int .i64 ((rd_T91 l0 x3_1).f1)) ∧ w'.cell? ⟨(ad117.add ((x3_1).toNat * 9)).block, (ad117.add ((x3_1).toNat * 9)).off + 2, none⟩ = some (.int .i64 ((rd_T91 l0 x3_1).f2)) ∧ w'.cell? ⟨(ad117.add ((x3_1).toNat * 9)).block, (ad117.add ((x3_1).toNat * 9)).off + 3, none⟩ = some (.int .i64 ((rd_T91 l0 x3_1).f3)) ∧ w'.cell? ⟨(ad117.add ((x3_1).toNat * 9)).block, (ad117.add ((x3_1).toNat * 9)).off + 4, none⟩ = some (.int .i64 ((rd_T91 l0 x3_1).f4)) ∧ w'.cell? ⟨(ad117.add ((x3_1).toNat * 9)).block, (ad117.add ((x3_1).toNat * 9)).off + 5, none⟩ = some (.int .i64 ((rd_T91 l0 x3_1).f5)) ∧ w'.cell? ⟨(ad117.add ((x3_1).toNat * 9)).block, (ad117.add ((x3_1).toNat * 9)).off + 6, none⟩ = some (.int .i64 ((rd_T91 l0 x3_1).f6)) ∧ w'.cell? ⟨(ad117.add ((x3_1).toNat * 9)).block, (ad117.add ((x3_1).toNat * 9)).off + 7, none⟩ = some (.int .i64 ((rd_T91 l0 x3_1).f7)) ∧ w'.cell? ⟨(ad117.add ((x3_1).toNat * 9)).block, (ad117.add ((x3_1).toNat * 9)).off + 8, none⟩ = some (.int .i64 ((rd_T91 l0 x3_1).f8))) (ds := []) (bT 24 0) Zi rfl rfl ⟨(cbH HB hw117_0 :), (cbH HB hw117_1 :), (cbH HB hw117_2 :), (cbH HB hw117_3 :), (cbH HB hw117_4 :), (cbH HB hw117_5 :), (cbH HB hw117_6 :), (cbH HB hw117_7 :), (cbH HB hw117_8 :), (cbH HB hw119_0 :), (cbH HB hw119_1 :), (cbH HB hw119_2 :), (cbH HB hw119_3 :), (cbH HB hw119_4 :), (cbH HB hw119_5 :), (cbH HB hw119_6 :), (cbH HB hw119_7 :), (cbH HB hw119_8 :), (cbH HB hw120_0 :), (cbH HB hw120_1 :), (cbH HB hw120_2 :), (cbH HB hw120_3 :), (cbH HB hw120_4 :), (cbH HB hw120_5 :), (cbH HB hw120_6 :), (cbH HB hw120_7 :), (cbH HB hw120_8 :)⟩ (fun hHeld => ?_); refine with_tabW spec_AreArticles.tab4 spec_AreArticles.bits4 (fun HT_ HW_ => ?_)
         generalize wr.drew = w11 at HB hx117_0 hx117_1 hx117_2 hx117_3 hx117_4 hx117_5 hx117_6 hx117_7 hx117_8 hx119_0 hx119_1 hx119_2 hx119_3 hx119_4 hx119_5 hx119_6 hx119_7 hx119_8 hx120_0 hx120_1 hx120_2 hx120_3 hx120_4 hx120_5 hx120_6 hx120_7 hx120_8 hHeld ⊢; refine pureZ HT_ 0 (some 10) (bT 24 1) ?_; refine pureZ HT_ 1 (some 11) (bT 24 2) ?_; refine pureZ HT_ 2 (some 12) (bT 24 3) ?_; refine takeZ27 HT_ HW_ 3 (some 13) (bT 24 4) hHeld ?_; refine one_ (i := 4) (N := some 14) (bT 24 5) rfl rfl (one_of HT_.out Zi) (by decide) (fun K hK => ?_); refine goes_ Try.func73 Zi rfl #[.agg #[.string ((rd_T91 l0 x3_1).f0), .int .i64 ((rd_T91 l0 x3_1).f1), .int .i64 ((rd_T91 l0 x3_1).f2), .int .i64 ((rd_T91 l0 x3_1).f3), .int .i64 ((rd_T91 l0 x3_1).f4), .int .i64 ((rd_T91 l0 x3_1).f5), .int .i64 ((rd_T91 l0 x3_1).f6), .int .i64 ((rd_T91 l0 x3_1).f7), .int .i64 ((rd_T91 l0 x3_1).f8)]] (by rfl) rfl rfl Zr ?_
         with_reducible refine (spec_IsArticle.calls k1 ((rd_T91 l0 x3_1).f0) ((rd_T91 l0 x3_1).f1) ((rd_T91 l0 x3_1).f2) ((rd_T91 l0 x3_1).f3) ((rd_T91 l0 x3_1).f4) ((rd_T91 l0 x3_1).f5) ((rd_T91 l0 x3_1).f6) ((rd_T91 l0 x3_1).f7) ((rd_T91 l0 x3_1).f8) true _ A4.out).mono ?_
         rintro e w12 ⟨rfl, hb⟩; refine ⟨_, rfl, ?_⟩; replace HB := (bsZ Zd hb)
         (try clear hb)
         (try clear hb2)
         (try clear hk)
         (try clear hi)
         refine hK.out _ _ ⟨(cbH HB hw117_0 :), (cbH HB hw117_1 :), (cbH HB hw117_2 :), (cbH HB hw117_3 :), (cbH HB hw117_4 :), (cbH HB hw117_5 :), (cbH HB hw117_6 :), (cbH HB hw117_7 :), (cbH HB hw117_8 :), (cbH HB hw119_0 :), (cbH HB hw119_1 :), (cbH HB hw119_2 :), (cbH HB hw119_3 :), (cbH HB hw119_4 :), (cbH HB hw119_5 :), (cbH HB hw119_6 :), (cbH HB hw119_7 :), (cbH HB hw119_8 :), (cbH HB hw120_0 :), (cbH HB hw120_1 :), (cbH HB hw120_2 :), (cbH HB hw120_3 :), (cbH HB hw120_4 :), (cbH HB hw120_5 :), (cbH HB hw120_6 :), (cbH HB hw120_7 :), (cbH HB hw120_8 :)⟩ (fun hHeld => ?_); clear hK K; refine normZ 14 ?_; refine pureZ HT_ 5 (some 15) (bT 24 6) ?_; refine pureZ HT_ 6 (some 16) (bT 24 7) ?_; refine pureZ HT_ 7 (some 17) (bT 24 8) ?_; refine pureZ HT_ 8 (some 18) (bT 24 9) ?_; refine pureZ HT_ 9 (some 19) (bT 24 10) ?_; refine pureZ HT_ 10 (some 20) (bT 24 11) ?_; refine pureZ HT_ 11 (some 21) (bT 24 12) ?_; refine pureZ HT_ 12 (some 22) (bT 24 13) ?_; refine pureZ HT_ 13 (some 23) (bT 24 14) ?_; refine pureZ HT_ 14 (some 24) (bT 24 15) ?_; refine pureZ HT_ 16 (some 26) (bB 24 98303) ?_; refine pureZ HT_ 17 (some 27) (bB 24 229375) ?_; refine pureZ HT_ 18 (some 28) (bB 24 491519) ?_; refine pureZ HT_ 19 (some 29) (bB 24 1015807) ?_; refine takeZ27 HT_ HW_ 15 (some 25) (bT 24 20) hHeld ?_; refine takeZ27 HT_ HW_ 20 (some 30) (bT 24 21) hHeld ?_; refine pureZ HT_ 21 (some 31) (bT 24 22) ?_; refine pureZ HT_ 22 (some 32) (bT 24 23) ?_; refine pureZ HT_ 23 (some 33) (bT 24 24) ?_; refine done_ (done_of HT_.out Zi) ?_
         by_cases c10 : ((Op.bytesLess (((rd_T91 l0 (ji7)).f0).toList) (((rd_T91 l0 x3_1).f0).toList)) = true)
         ·have H := HS_.out
          clear HS_; rw [if_pos c10] at H; have c10b0 : (Op.bytesLess (((rd_T91 l0 (ji7)).f0).toList) (((rd_T91 l0 x3_1).f0).toList)) = true := c10; clear c10; have H' := am_ H; clear H
          (try simp only [c10b0, Bool.not_true, Bool.not_false])
          try go_wp2
          go_roundg k1
          case measure => have := HK1.out; omega
          case rel => exact ⟨(wrap64 (x3_1 + 1)), Za, H', ⟨Zs⟩, ⟨Zd⟩⟩
         ·have H := HS_.out
          clear HS_; rw [if_neg c10] at H
          have c10b0 : (Op.bytesLess (((rd_T91 l0 (ji7)).f0).toList) (((rd_T91 l0 x3_1).f0).toList)) = false := by simpa using c10
          clear c10; obtain rfl := Option.some.inj H
          (try simp only [c10b0, Bool.not_true, Bool.not_false])
          try go_wp2
          go_ret
          exact ⟨Zq, Zd⟩
        ·rw [if_neg c9] at H
         exact absurd H (by simp)
       ·rw [if_neg c8] at H
        exact absurd H (by simp)
      ·rw [if_neg c6] at H
       have c6b0 : decide (0 < x3_1) = false := decide_eq_false c6; clear c6; have H' := am_ H; clear H
       try go_wp2
       replace HB := am_ (below_drew1 HB.out); have p117 : 0 ≤ (x3_1 : Int) := of_decide_eq_true Zn; have q117 : x3_1 < (l0.length : Int) := of_decide_eq_true Zn; obtain ⟨ad117, e117, hx117_0, hx117_1, hx117_2, hx117_3, hx117_4, hx117_5, hx117_6, hx117_7, hx117_8⟩ := at_T91 HR0.out x3_1 p117 q117; have hw117_8 := hx117_8; have hw117_7 := hx117_7; have hw117_6 := hx117_6; have hw117_5 := hx117_5; have hw117_4 := hx117_4; have hw117_3 := hx117_3; have hw117_2 := hx117_2; have hw117_1 := hx117_1; have hw117_0 := hx117_0
       cases e117
       replace hx117_0 := cbH HB hx117_0; replace hx117_1 := cbH HB hx117_1; replace hx117_2 := cbH HB hx117_2; replace hx117_3 := cbH HB hx117_3; replace hx117_4 := cbH HB hx117_4; replace hx117_5 := cbH HB hx117_5; replace hx117_6 := cbH HB hx117_6; replace hx117_7 := cbH HB hx117_7; replace hx117_8 := cbH HB hx117_8; replace p117 := eq_true p117; replace q117 := eq_true q117; refine start_ (n := 24) (S := fun w' => w'.cell? (ad117.add ((x3_1).toNat * 9)) = some (.string ((rd_T91 l0 x3_1).f0)) ∧ w'.cell? ⟨(ad117.add ((x3_1).toNat * 9)).block, (ad117.add ((x3_1).toNat * 9)).off + 1, none⟩ = some (.int .i64 ((rd_T91 l0 x3_1).f1)) ∧ w'.cell? ⟨(ad117.add ((x3_1).toNat * 9)).block, (ad117.add ((x3_1).toNat * 9)).off + 2, none⟩ = some (.int .i64 ((rd_T91 l0 x3_1).f2)) ∧ w'.cell? ⟨(ad117.add ((x3_1).toNat * 9)).block, (ad117.add ((x3_1).toNat * 9)).off + 3, none⟩ = some (.int .i64 ((rd_T91 l0 x3_1).f3)) ∧ w'.cell? ⟨(ad117.add ((x3_1).toNat * 9)).block, (ad117.add ((x3_1).toNat * 9)).off + 4, none⟩ = some (.int .i64 ((rd_T91 l0 x3_1).f4)) ∧ w'.cell? ⟨(ad117.add ((x3_1).toNat * 9)).block, (ad117.add ((x3_1).toNat * 9)).off + 5, none⟩ = some (.int .i64 ((rd_T91 l0 x3_1).f5)) ∧ w'.cell? ⟨(ad117.add ((x3_1).toNat * 9)).block, (ad117.add ((x3_1).toNat * 9)).off + 6, none⟩ = some (.int .i64 ((rd_T91 l0 x3_1).f6)) ∧ w'.cell? ⟨(ad117.add ((x3_1).toNat * 9)).block, (ad117.add ((x3_1).toNat * 9)).off + 7, none⟩ = some (.int .i64 ((rd_T91 l0 x3_1).f7)) ∧ w'.cell? ⟨(ad117.add ((x3_1).toNat * 9)).block, (ad117.add ((x3_1).toNat * 9)).off + 8, none⟩ = some (.int .i64 ((rd_T91 l0 x3_1).f8))) (ds := []) (bT 24 0) Zi rfl rfl ⟨(cbH HB hw117_0 :), (cbH HB hw117_1 :), (cbH HB hw117_2 :), (cbH HB hw117_3 :), (cbH HB hw117_4 :), (cbH HB hw117_5 :), (cbH HB hw117_6 :), (cbH HB hw117_7 :), (cbH HB hw117_8 :)⟩ (fun hHeld => ?_); refine with_tabW spec_AreArticles.tab4 spec_AreArticles.bits4 (fun HT_ HW_ => ?_); generalize wr.drew = w15 at HB hx117_0 hx117_1 hx117_2 hx117_3 hx117_4 hx117_5 hx117_6 hx117_7 hx117_8 hHeld ⊢; refine pureZ HT_ 0 (some 10) (bT 24 1) ?_; refine pureZ HT_ 1 (some 11) (bT 24 2) ?_; refine pureZ HT_ 2 (some 12) (bT 24 3) ?_; refine takeZ9 HT_ HW_ 3 (some 13) (bT 24 4) hHeld ?_; refine one_ (i := 4) (N := some 14) (bT 24 5) rfl rfl (one_of HT_.out Zi) (by decide) (fun K hK => ?_); refine goes_ Try.func73 Zi rfl #[.agg #[.string ((rd_T91 l0 x3_1).f0), .int .i64 ((rd_T91 l0 x3_1).f1), .int .i64 ((rd_T91 l0 x3_1).f2), .int .i64 ((rd_T91 l0 x3_1).f3), .int .i64 ((rd_T91 l0 x3_1).f4), .int .i64 ((rd_T91 l0 x3_1).f5), .int .i64 ((rd_T91 l0 x3_1).f6), .int .i64 ((rd_T91 l0 x3_1).f7), .int .i64 ((rd_T91 l0 x3_1).f8)]] (by rfl) rfl rfl Zr ?_
       with_reducible refine (spec_IsArticle.calls k1 ((rd_T91 l0 x3_1).f0) ((rd_T91 l0 x3_1).f1) ((rd_T91 l0 x3_1).f2) ((rd_T91 l0 x3_1).f3) ((rd_T91 l0 x3_1).f4) ((rd_T91 l0 x3_1).f5) ((rd_T91 l0 x3_1).f6) ((rd_T91 l0 x3_1).f7) ((rd_T91 l0 x3_1).f8) true _ A4.out).mono ?_
       rintro e w16 ⟨rfl, hb⟩; refine ⟨_, rfl, ?_⟩; replace HB := (bsZ Zd hb)
       (try clear hb)
       (try clear hb2)
       (try clear hk)
       (try clear hi)
       refine hK.out _ _ ⟨(cbH HB hw117_0 :), (cbH HB hw117_1 :), (cbH HB hw117_2 :), (cbH HB hw117_3 :), (cbH HB hw117_4 :), (cbH HB hw117_5 :), (cbH HB hw117_6 :), (cbH HB hw117_7 :), (cbH HB hw117_8 :)⟩ (fun hHeld => ?_); clear hK K; refine normZ 14 ?_; refine pureZ HT_ 5 (some 15) (bT 24 6) ?_; refine pureZ HT_ 6 (some 16) (bT 24 7) ?_; refine pureZ HT_ 7 (some 17) (bT 24 8) ?_; refine pureZ HT_ 8 (some 18) (bT 24 9) ?_; refine pureZ HT_ 9 (some 19) (bT 24 10) ?_; refine pureU HT_ 10 (some 20) (bT 24 11) ?_; refine pureU HT_ 11 (some 21) (bT 24 12) ?_; refine pureU HT_ 12 (some 22) (bT 24 13) ?_; refine pureU HT_ 13 (some 23) (bT 24 14) ?_; refine pureU HT_ 14 (some 24) (bT 24 15) ?_; refine pureU HT_ 15 (some 25) (bT 24 16) ?_; refine pureU HT_ 16 (some 26) (bT 24 17) ?_; refine pureU HT_ 17 (some 27) (bT 24 18) ?_; refine pureU HT_ 18 (some 28) (bT 24 19) ?_; refine pureU HT_ 19 (some 29) (bT 24 20) ?_; refine pureU HT_ 20 (some 30) (bT 24 21) ?_; refine pureU HT_ 21 (some 31) (bT 24 22) ?_; refine pureZ HT_ 22 (some 32) (bT 24 23) ?_; refine pureZ HT_ 23 (some 33) (bT 24 24) ?_; refine done_ (done_of HT_.out Zi) ?_
       try go_wp2
       go_roundg k1
       case measure => have := HK1.out; omega
       case rel => exact ⟨(wrap64 (x3_1 + 1)), Za, H', ⟨Zs⟩, ⟨Zd⟩⟩
     ·replace c5 := Bool.eq_false_iff.mpr c5
      subst c5; rw [if_neg (show ¬ (false = true) by decide)] at H; obtain rfl := Option.some.inj H
      try go_wp2
      replace HB := am_ (below_drew1 HB.out); have p117 : 0 ≤ (x3_1 : Int) := of_decide_eq_true Zn; have q117 : x3_1 < (l0.length : Int) := of_decide_eq_true Zn; obtain ⟨ad117, e117, hx117_0, hx117_1, hx117_2, hx117_3, hx117_4, hx117_5, hx117_6, hx117_7, hx117_8⟩ := at_T91 HR0.out x3_1 p117 q117; have hw117_8 := hx117_8; have hw117_7 := hx117_7; have hw117_6 := hx117_6; have hw117_5 := hx117_5; have hw117_4 := hx117_4; have hw117_3 := hx117_3; have hw117_2 := hx117_2; have hw117_1 := hx117_1; have hw117_0 := hx117_0
      cases e117
      replace hx117_0 := cbH HB hx117_0; replace hx117_1 := cbH HB hx117_1; replace hx117_2 := cbH HB hx117_2; replace hx117_3 := cbH HB hx117_3; replace hx117_4 := cbH HB hx117_4; replace hx117_5 := cbH HB hx117_5; replace hx117_6 := cbH HB hx117_6; replace hx117_7 := cbH HB hx117_7; replace hx117_8 := cbH HB hx117_8; replace p117 := eq_true p117; replace q117 := eq_true q117; refine start_ (n := 24) (S := fun w' => w'.cell? (ad117.add ((x3_1).toNat * 9)) = some (.string ((rd_T91 l0 x3_1).f0)) ∧ w'.cell? ⟨(ad117.add ((x3_1).toNat * 9)).block, (ad117.add ((x3_1).toNat * 9)).off + 1, none⟩ = some (.int .i64 ((rd_T91 l0 x3_1).f1)) ∧ w'.cell? ⟨(ad117.add ((x3_1).toNat * 9)).block, (ad117.add ((x3_1).toNat * 9)).off + 2, none⟩ = some (.int .i64 ((rd_T91 l0 x3_1).f2)) ∧ w'.cell? ⟨(ad117.add ((x3_1).toNat * 9)).block, (ad117.add ((x3_1).toNat * 9)).off + 3, none⟩ = some (.int .i64 ((rd_T91 l0 x3_1).f3)) ∧ w'.cell? ⟨(ad117.add ((x3_1).toNat * 9)).block, (ad117.add ((x3_1).toNat * 9)).off + 4, none⟩ = some (.int .i64 ((rd_T91 l0 x3_1).f4)) ∧ w'.cell? ⟨(ad117.add ((x3_1).toNat * 9)).block, (ad117.add ((x3_1).toNat * 9)).off + 5, none⟩ = some (.int .i64 ((rd_T91 l0 x3_1).f5)) ∧ w'.cell? ⟨(ad117.add ((x3_1).toNat * 9)).block, (ad117.add ((x3_1).toNat * 9)).off + 6, none⟩ = some (.int .i64 ((rd_T91 l0 x3_1).f6)) ∧ w'.cell? ⟨(ad117.add ((x3_1).toNat * 9)).block, (ad117.add ((x3_1).toNat * 9)).off + 7, none⟩ = some (.int .i64 ((rd_T91 l0 x3_1).f7)) ∧ w'.cell? ⟨(ad117.add ((x3_1).toNat * 9)).block, (ad117.add ((x3_1).toNat * 9)).off + 8, none⟩ = some (.int .i64 ((rd_T91 l0 x3_1).f8))) (ds := []) (bT 24 0) Zi rfl rfl ⟨(cbH HB hw117_0 :), (cbH HB hw117_1 :), (cbH HB hw117_2 :), (cbH HB hw117_3 :), (cbH HB hw117_4 :), (cbH HB hw117_5 :), (cbH HB hw117_6 :), (cbH HB hw117_7 :), (cbH HB hw117_8 :)⟩ (fun hHeld => ?_); refine with_tabW spec_AreArticles.tab4 spec_AreArticles.bits4 (fun HT_ HW_ => ?_); generalize wr.drew = w17 at HB hx117_0 hx117_1 hx117_2 hx117_3 hx117_4 hx117_5 hx117_6 hx117_7 hx117_8 hHeld ⊢; refine pureZ HT_ 0 (some 10) (bT 24 1) ?_; refine pureZ HT_ 1 (some 11) (bT 24 2) ?_; refine pureZ HT_ 2 (some 12) (bT 24 3) ?_; refine takeZ9 HT_ HW_ 3 (some 13) (bT 24 4) hHeld ?_; refine one_ (i := 4) (N := some 14) (bT 24 5) rfl rfl (one_of HT_.out Zi) (by decide) (fun K hK => ?_); refine goes_ Try.func73 Zi rfl #[.agg #[.string ((rd_T91 l0 x3_1).f0), .int .i64 ((rd_T91 l0 x3_1).f1), .int .i64 ((rd_T91 l0 x3_1).f2), .int .i64 ((rd_T91 l0 x3_1).f3), .int .i64 ((rd_T91 l0 x3_1).f4), .int .i64 ((rd_T91 l0 x3_1).f5), .int .i64 ((rd_T91 l0 x3_1).f6), .int .i64 ((rd_T91 l0 x3_1).f7), .int .i64 ((rd_T91 l0 x3_1).f8)]] (by rfl) rfl rfl Zr ?_
      with_reducible refine (spec_IsArticle.calls k1 ((rd_T91 l0 x3_1).f0) ((rd_T91 l0 x3_1).f1) ((rd_T91 l0 x3_1).f2) ((rd_T91 l0 x3_1).f3) ((rd_T91 l0 x3_1).f4) ((rd_T91 l0 x3_1).f5) ((rd_T91 l0 x3_1).f6) ((rd_T91 l0 x3_1).f7) ((rd_T91 l0 x3_1).f8) false _ A4.out).mono ?_
      rintro e w18 ⟨rfl, hb⟩; refine ⟨_, rfl, ?_⟩; replace HB := (bsZ Zd hb)
      (try clear hb)
      (try clear hb2)
      (try clear hk)
      (try clear hi)
      refine hK.out _ _ ⟨(cbH HB hw117_0 :), (cbH HB hw117_1 :), (cbH HB hw117_2 :), (cbH HB hw117_3 :), (cbH HB hw117_4 :), (cbH HB hw117_5 :), (cbH HB hw117_6 :), (cbH HB hw117_7 :), (cbH HB hw117_8 :)⟩ (fun hHeld => ?_); clear hK K; refine normZ 14 ?_; refine pureZ HT_ 5 (some 15) (bT 24 6) ?_; refine pureZ HT_ 6 (some 16) (bT 24 7) ?_; refine pureU HT_ 7 (some 17) (bT 24 8) ?_; refine pureU HT_ 8 (some 18) (bT 24 9) ?_; refine pureU HT_ 9 (some 19) (bT 24 10) ?_; refine pureU HT_ 10 (some 20) (bT 24 11) ?_; refine pureU HT_ 11 (some 21) (bT 24 12) ?_; refine pureU HT_ 12 (some 22) (bT 24 13) ?_; refine pureU HT_ 13 (some 23) (bT 24 14) ?_; refine pureU HT_ 14 (some 24) (bT 24 15) ?_; refine pureU HT_ 15 (some 25) (bT 24 16) ?_; refine pureU HT_ 16 (some 26) (bT 24 17) ?_; refine pureU HT_ 17 (some 27) (bT 24 18) ?_; refine pureU HT_ 18 (some 28) (bT 24 19) ?_; refine pureU HT_ 19 (some 29) (bT 24 20) ?_; refine pureU HT_ 20 (some 30) (bT 24 21) ?_; refine pureU HT_ 21 (some 31) (bT 24 22) ?_; refine pureU HT_ 22 (some 32) (bT 24 23) ?_; refine pureZ HT_ 23 (some 33) (bT 24 24) ?_; refine done_ (done_of HT_.out Zi) ?_
      try go_wp2
      go_ret
      exact ⟨Zj, Zd⟩
    ·rw [if_neg c3] at H
     exact absurd H (by simp)
   ·rw [if_neg c2] at H
    have c2b0 := decide_eq_false c2; clear c2; obtain rfl := Option.some.inj H
    go_wp2
    go_ret
    exact ⟨Zj, Zd⟩
def spec_l07Has.f (l0 : List (S87)) (a1 : Int) (a2 : Int) : Option (Bool) := (spec_l01In.f a1 0 (wrap64 ((l0.length : Int) - 1))).bind fun t121 => (if t121 = true then (if 0 ≤ a1 then (if a1 < (l0.length : Int) then ((spec_l01In.f a2 0 (wrap64 (((rd_T87 l0 a1).f0) - 1))).bind fun t123 => (some t123)) else (none)) else (none)) else (some false))
set_option maxHeartbeats 8000000 in
set_option maxRecDepth 100000 in
theorem spec_l07Has.calls (A0 : Option Addr) (c0 : Nat) (l0 : List (S87)) (a1 : Int) (a2 : Int) (r : Bool) (w : World) (hr0 : Kd.C k87 w A0 l0.length l0) (hc0 : l0.length ≤ c0) (h : spec_l07Has.f l0 a1 a2 = some r) :
  Calls Try.prog 51 #[.slice A0 l0.length c0, .int .i64 a1, .int .i64 a2] w fun e w' => e = .returned (.bool r) ∧ Drawn0 w w' := by
 have HR0 := am_ hr0; have HC0 := am_ hc0; clear hr0 hc0; have H : ((spec_l01In.f a1 0 (wrap64 ((l0.length : Int) - 1))).bind fun t121 => (if t121 = true then (if 0 ≤ a1 then (if a1 < (l0.length : Int) then ((spec_l01In.f a2 0 (wrap64 (((rd_T87 l0 a1).f0) - 1))).bind fun t123 => (some t123)) else (none)) else (none)) else (some false))) = some r := h; clear h; replace H := Option.bind_eq_some_iff.mp H; obtain ⟨t121, A40, H⟩ := H; have A4 := am_ A40; clear A40; have HS_ := am_ H; clear H
 go_enter Try.func51, Try.ntmps51
 go_wp2_with (first | ((with_reducible refine gate_callee (f := 24) rfl ?_); refine gZ 11 Try.func24 #[.int .i64 a1, .int .i64 0, .int .i64 (wrap64 ((l0.length : Int) - 1))] ?_; (with_reducible refine (spec_l01In.calls a1 0 (wrap64 ((l0.length : Int) - 1)) t121 _ A4.out).mono ?_); rintro e w' ⟨rfl, ⟨nd, rfl⟩⟩; refine ⟨_, rfl, ?_⟩; refine ?roundEnd))
 case roundEnd =>
  by_cases c5 : t121 = true
  ·have H := HS_.out
   clear HS_; subst c5; rw [if_pos rfl] at H
   by_cases c6 : 0 ≤ a1
   ·rw [if_pos c6] at H
    have c6b0 := decide_eq_true c6; clear c6
    by_cases c7 : a1 < (l0.length : Int)
    ·rw [if_pos c7] at H
     have c7b0 := decide_eq_true c7; clear c7; replace H := Option.bind_eq_some_iff.mp H; obtain ⟨t123, A80, H⟩ := H; have A8 := am_ A80; clear A80; obtain rfl := Option.some.inj H; have p122 : 0 ≤ (a1 : Int) := of_decide_eq_true Zn; have q122 : a1 < (l0.length : Int) := of_decide_eq_true Zn; obtain ⟨ad122, e122, hx122_0, hx122_1⟩ := at_T87 HR0.out a1 p122 q122
     cases e122
     replace p122 := eq_true p122; replace q122 := eq_true q122
     go_wp2_with (first | (go_at_call 24; (with_reducible refine (spec_l01In.calls a2 0 (wrap64 (((rd_T87 l0 a1).f0) - 1)) t123 _ A8.out).mono ?_); rintro e w' ⟨rfl, ⟨nd, rfl⟩⟩))
     go_ret
     exact ⟨Za, Zb⟩
    ·rw [if_neg c7] at H
     exact absurd H (by simp)
   ·rw [if_neg c6] at H
    exact absurd H (by simp)
  ·have H := HS_.out
   clear HS_; replace c5 := Bool.eq_false_iff.mpr c5; subst c5; rw [if_neg (show ¬ (false = true) by decide)] at H; obtain rfl := Option.some.inj H
   go_wp2_with (first | fail)
   go_ret
   exact ⟨Za, Zb⟩
def spec_l03Find.l0 : Nat → List (S91) → ByteArray → Int → Option (Int)
 | 0, _, _, _ => none
 | k + 1, x0, x1, x5 => if x5 < (x0.length : Int) then (if 0 ≤ x5 then (if ((rd_T91 x0 x5).f0).toList = x1.toList then (some x5) else (spec_l03Find.l0 k x0 x1 (wrap64 (x5 + 1)))) else (none)) else (some (-1))
def spec_l03Find.f (k : Nat) (l0 : List (S91)) (a1 : ByteArray) : Option (Int) := spec_l03Find.l0 k l0 a1 0
set_option maxHeartbeats 8000000 in
set_option maxRecDepth 100000 in
theorem spec_l03Find.calls (k : Nat) (A0 : Option Addr) (c0 : Nat) (l0 : List (S91)) (a1 : ByteArray) (r : Int) (w : World) (hr0 : Kd.C k91 w A0 l0.length l0) (hc0 : l0.length ≤ c0) (h : spec_l03Find.f k l0 a1 = some r) :
  Calls Try.prog 52 #[.slice A0 l0.length c0, .string a1] w fun e w' => e = .returned (.int .i64 r) ∧ Drawn0 w w' := by
 have HR0 := am_ hr0; have HC0 := am_ hc0; clear hr0 hc0; have H : (spec_l03Find.l0 k l0 a1 0) = some r := h; clear h; have H' := am_ H; clear H
 go_enter Try.func52, Try.ntmps52
 go_wp2
 go_loopg [5] k (fun kq v5 w' => ∃ (x5_1 : Int), v5 = .int .i64 x5_1 ∧ Aside0 (spec_l03Find.l0 kq l0 a1 x5_1 = some r) ∧ Aside0 (kq ≤ k) ∧ Drawn0 w w')
 case atStart => exact ⟨(0), Za, H', ⟨Nat.le_refl _⟩, Zb⟩
 case round =>
  clear H'
  try clear p2
  obtain ⟨x5_1, rfl, HA, HK1, ⟨m1, rfl⟩⟩ := hrel
  cases gk with
  | zero => exact absurd HA.out (by simp [spec_l03Find.l0])
  | succ k1 =>
   have H := HA.out; clear HA; simp only [spec_l03Find.l0] at H
   by_cases c3 : x5_1 < (l0.length : Int)
   ·rw [if_pos c3] at H
    have c3b0 := decide_eq_true c3; clear c3
    by_cases c4 : 0 ≤ x5_1
    ·rw [if_pos c4] at H
     have c4b0 := decide_eq_true c4; clear c4
     by_cases c5 : ((rd_T91 l0 x5_1).f0).toList = a1.toList
     ·rw [if_pos c5] at H
      have c5b0 := beq_iff_eq.mpr c5; have c5b1 := bne_eq_false_iff_eq.mpr c5; clear c5; obtain rfl := Option.some.inj H; have p124 : 0 ≤ (x5_1 : Int) := of_decide_eq_true Zn; have q124 : x5_1 < (l0.length : Int) := of_decide_eq_true Zn; obtain ⟨ad124, e124, hx124_0, hx124_1, hx124_2, hx124_3, hx124_4, hx124_5, hx124_6, hx124_7, hx124_8⟩ := at_T91 HR0.out x5_1 p124 q124
      cases e124
      replace p124 := eq_true p124; replace q124 := eq_true q124
      go_wp2
      go_ret
      exact ⟨Za, Zb⟩
     ·rw [if_neg c5] at H
      have c5b0 := beq_eq_false_iff_ne.mpr c5; have c5b1 := bne_iff_ne.mpr c5; have H' := am_ H; clear H; have p124 : 0 ≤ (x5_1 : Int) := of_decide_eq_true Zn; have q124 : x5_1 < (l0.length : Int) := of_decide_eq_true Zn; obtain ⟨ad124, e124, hx124_0, hx124_1, hx124_2, hx124_3, hx124_4, hx124_5, hx124_6, hx124_7, hx124_8⟩ := at_T91 HR0.out x5_1 p124 q124
      cases e124
      replace p124 := eq_true p124; replace q124 := eq_true q124
      go_wp2
      go_roundg k1
      case measure => have := HK1.out; omega
      case rel => exact ⟨(wrap64 (x5_1 + 1)), Za, H', ⟨Zs⟩, Zb⟩
    ·rw [if_neg c4] at H
     exact absurd H (by simp)
   ·rw [if_neg c3] at H
    have c3b0 := decide_eq_false c3; clear c3; obtain rfl := Option.some.inj H
    go_wp2
    go_ret
    exact ⟨Za, Zb⟩
def spec_l07Time.l0 : Nat → List (S87) → Int → Int → Int → Int → Option (Int)
 | 0, _, _, _, _, _ => none
 | k + 1, x0, x1, x2, x7, x8 => if x8 < x1 then (if 0 ≤ x8 then (if x8 < (x0.length : Int) then (spec_l07Time.l0 k x0 x1 x2 (wrap64 (x7 + (wrap64 (((rd_T87 x0 x8).f0) * ((rd_T87 x0 x8).f1))))) (wrap64 (x8 + 1))) else (none)) else (none)) else (if 0 ≤ x1 then (if x1 < (x0.length : Int) then (some (wrap64 (x7 + (wrap64 (x2 * ((rd_T87 x0 x1).f1)))))) else (none)) else (none))
def spec_l07Time.f (k : Nat) (l0 : List (S87)) (a1 : Int) (a2 : Int) : Option (Int) := spec_l07Time.l0 k l0 a1 a2 0 0
set_option maxHeartbeats 8000000 in
set_option maxRecDepth 100000 in
theorem spec_l07Time.calls (k : Nat) (A0 : Option Addr) (c0 : Nat) (l0 : List (S87)) (a1 : Int) (a2 : Int) (r : Int) (w : World) (hr0 : Kd.C k87 w A0 l0.length l0) (hc0 : l0.length ≤ c0) (h : spec_l07Time.f k l0 a1 a2 = some r) :
  Calls Try.prog 74 #[.slice A0 l0.length c0, .int .i64 a1, .int .i64 a2] w fun e w' => e = .returned (.int .i64 r) ∧ Drawn0 w w' := by
 have HR0 := am_ hr0; have HC0 := am_ hc0; clear hr0 hc0; have H : (spec_l07Time.l0 k l0 a1 a2 0 0) = some r := h; clear h; have H' := am_ H; clear H
 go_enter Try.func74, Try.ntmps74
 go_wp2
 repeat (go_quiet (fail); try go_wp2)
 go_loopg [7, 8] k (fun kq v7 v8 w' => ∃ (x7_1 : Int) (x8_1 : Int), v7 = .int .i64 x7_1 ∧ v8 = .int .i64 x8_1 ∧ Aside0 (spec_l07Time.l0 kq l0 a1 a2 x7_1 x8_1 = some r) ∧ Aside0 (kq ≤ k) ∧ Drawn0 w w')
 case atStart => exact ⟨(0), (0), Za, Za, H', ⟨Nat.le_refl _⟩, Zb⟩
 case round =>
  clear H'
  try clear p2
  obtain ⟨x7_1, x8_1, rfl, rfl, HA, HK1, ⟨m1, rfl⟩⟩ := hrel
  cases gk with
  | zero => exact absurd HA.out (by simp [spec_l07Time.l0])
  | succ k1 =>
   have H := HA.out; clear HA; simp only [spec_l07Time.l0] at H
   by_cases c4 : x8_1 < a1
   ·rw [if_pos c4] at H
    have c4b0 := decide_eq_true c4; clear c4
    by_cases c5 : 0 ≤ x8_1
    ·rw [if_pos c5] at H
     have c5b0 := decide_eq_true c5; clear c5
     by_cases c6 : x8_1 < (l0.length : Int)
     ·rw [if_pos c6] at H
      have c6b0 := decide_eq_true c6; clear c6; have H' := am_ H; clear H; have p125 : 0 ≤ (x8_1 : Int) := of_decide_eq_true Zn; have q125 : x8_1 < (l0.length : Int) := of_decide_eq_true Zn; obtain ⟨ad125, e125, hx125_0, hx125_1⟩ := at_T87 HR0.out x8_1 p125 q125
      cases e125
      replace p125 := eq_true p125; replace q125 := eq_true q125; have p126 : 0 ≤ (x8_1 : Int) := of_decide_eq_true Zn; have q126 : x8_1 < (l0.length : Int) := of_decide_eq_true Zn; obtain ⟨ad126, e126, hx126_0, hx126_1⟩ := at_T87 HR0.out x8_1 p126 q126; obtain rfl : ad125 = ad126 := (by injection e126); replace p126 := eq_true p126; replace q126 := eq_true q126
      go_wp2
      repeat (go_quiet (fail); try go_wp2)
      go_roundg k1
      case measure => have := HK1.out; omega
      case rel => exact ⟨(wrap64 (x7_1 + (wrap64 (((rd_T87 l0 x8_1).f0) * ((rd_T87 l0 x8_1).f1))))), (wrap64 (x8_1 + 1)), Za, Za, H', ⟨Zs⟩, Zb⟩
     ·rw [if_neg c6] at H
      exact absurd H (by simp)
    ·rw [if_neg c5] at H
     exact absurd H (by simp)
   ·rw [if_neg c4] at H
    have c4b0 := decide_eq_false c4; clear c4
    by_cases c7 : 0 ≤ a1
    ·rw [if_pos c7] at H
     have c7b0 := decide_eq_true c7; clear c7
     by_cases c8 : a1 < (l0.length : Int)
     ·rw [if_pos c8] at H
      have c8b0 := decide_eq_true c8; clear c8; obtain rfl := Option.some.inj H; have p127 : 0 ≤ (a1 : Int) := of_decide_eq_true Zn; have q127 : a1 < (l0.length : Int) := of_decide_eq_true Zn; obtain ⟨ad127, e127, hx127_0, hx127_1⟩ := at_T87 HR0.out a1 p127 q127
      cases e127
      replace p127 := eq_true p127; replace q127 := eq_true q127
      go_wp2
      repeat (go_quiet (fail); try go_wp2)
      go_ret
      exact ⟨Za, Zb⟩
     ·rw [if_neg c8] at H
      exact absurd H (by simp)
    ·rw [if_neg c7] at H
     exact absurd H (by simp)
def spec_l08Time.f (k : Nat) (l0_0 : List (S87)) (l0_1 : List (S91)) (l0_2 : List (S80)) (a1_0 : Int) (a1_1 : Int) (a1_2 : ByteArray) (a1_3 : Int) : Option (Int) := (spec_l07Time.f k l0_0 a1_0 a1_1).bind fun t130 => ((spec_l03Find.f k l0_1 a1_2).bind fun t131 => (if 0 ≤ t131 then (if t131 < (l0_1.length : Int) then (some (wrap64 (t130 - ((rd_T91 l0_1 t131).f3)))) else (none)) else (none)))
set_option maxHeartbeats 8000000 in
set_option maxRecDepth 100000 in
theorem spec_l08Time.calls (k : Nat) (A0_0 : Option Addr) (c0_0 : Nat) (l0_0 : List (S87)) (A0_1 : Option Addr) (c0_1 : Nat) (l0_1 : List (S91)) (A0_2 : Option Addr) (c0_2 : Nat) (l0_2 : List (S80)) (a1_0 : Int) (a1_1 : Int) (a1_2 : ByteArray) (a1_3 : Int) (r : Int) (w : World) (hr0_0 : Kd.C k87 w A0_0 l0_0.length l0_0) (hc0_0 : l0_0.length ≤ c0_0) (hr0_1 : Kd.C k91 w A0_1 l0_1.length l0_1) (hc0_1 : l0_1.length ≤ c0_1) (hr0_2 : Kd.C k80 w A0_2 l0_2.length l0_2) (hc0_2 : l0_2.length ≤ c0_2) (h : spec_l08Time.f k l0_0 l0_1 l0_2 a1_0 a1_1 a1_2 a1_3 = some r) :
  Calls Try.prog 53 #[.agg #[.slice A0_0 l0_0.length c0_0, .slice A0_1 l0_1.length c0_1, .slice A0_2 l0_2.length c0_2], .agg #[.int .i64 a1_0, .int .i64 a1_1, .string a1_2, .int .i64 a1_3]] w fun e w' => e = .returned (.int .i64 r) ∧ Below w.heap.size w w' := by
 have hu35 := Try.underlying35; have hu80 := Try.underlying80; have HR0_0 := am_ hr0_0; have HC0_0 := am_ hc0_0; clear hr0_0 hc0_0; have HR0_1 := am_ hr0_1; have HC0_1 := am_ hc0_1; clear hr0_1 hc0_1; have HR0_2 := am_ hr0_2; have HC0_2 := am_ hc0_2; clear hr0_2 hc0_2; have HB := am_ (Below.refl w.heap.size w); have H : ((spec_l07Time.f k l0_0 a1_0 a1_1).bind fun t130 => ((spec_l03Find.f k l0_1 a1_2).bind fun t131 => (if 0 ≤ t131 then (if t131 < (l0_1.length : Int) then (some (wrap64 (t130 - ((rd_T91 l0_1 t131).f3)))) else (none)) else (none)))) = some r := h; clear h; replace H := Option.bind_eq_some_iff.mp H; obtain ⟨t130, A30, H⟩ := H; have A3 := am_ A30; clear A30; replace H := Option.bind_eq_some_iff.mp H; obtain ⟨t131, A40, H⟩ := H; have A4 := am_ A40; clear A40
 by_cases c5 : 0 ≤ t131
 ·rw [if_pos c5] at H
  have c5b0 := decide_eq_true c5; clear c5
  by_cases c6 : t131 < (l0_1.length : Int)
  ·rw [if_pos c6] at H
   have c6b0 := decide_eq_true c6; clear c6; obtain rfl := Option.some.inj H
   go_enter Try.func53, Try.ntmps53
   go_wp2_with (first | ((with_reducible refine gate_dst (N := 2) rfl ?_); refine boxZ 2 #[.slice A0_0 l0_0.length c0_0, .slice A0_1 l0_1.length c0_1, .slice A0_2 l0_2.length c0_2] 35 ?_; intro gb128 hg w7 hbox hb; replace BK128 := am_ (hbox); replace GW128 := am_ ((Zc : w.heap.size ≤ gb128)); replace GE128 := GW128; replace HB := (bsZ Zd hb); clear hb hbox hg) | ((with_reducible refine gate_dst (N := 3) rfl ?_); refine boxZ 3 #[.int .i64 a1_0, .int .i64 a1_1, .string a1_2, .int .i64 a1_3] 80 ?_; intro gb129 hg w8 hbox hb; replace BK129 := am_ (hbox); replace GW129 := am_ (((Ze GE128) : w.heap.size ≤ gb129)); replace GE129 := GW129; replace HB := (bsZ (Zf GE128) hb); replace NB128_129 := am_ ((by rw [hg]; exact Nat.ne_of_lt (blk_lt (g := gb128) (b0Z BK128)) : gb128 ≠ gb129)); replace NB129_128 := am_ ((by rw [hg]; exact Nat.ne_of_gt (blk_lt (g := gb128) (b0Z BK128)) : gb129 ≠ gb128)); replace BK128 := (bkZ BK128 hb); clear hb hbox hg; have hnb9 := NB128_129.out; have hnc9 := NB129_128.out; obtain ⟨hcz10_0, hcz10_1, hcz10_2, hfz10_0, hfz10_1, hfz10_2⟩ := cz3 BK128; obtain ⟨hcz11_0, hcz11_1, hcz11_2, hcz11_3, hfz11_0, hfz11_1, hfz11_2, hfz11_3⟩ := cz4 BK129) | (go_at_call 74; (with_reducible refine (spec_l07Time.calls k _ _ l0_0 a1_0 a1_1 t130 _ ?_ ?_ A3.out).mono ?_); exact (Zz HR0_0); exact HC0_0.out; rintro e w' ⟨rfl, ⟨nd, rfl⟩⟩; (try first | exact ⟨rfl, _, World.drewN_drewN _ _ _⟩ | exact ⟨rfl, _, Eq.trans (World.drewN_drewN _ _ _) (congrArg (World.drewN _) (Nat.add_assoc _ _ _))⟩)) | (go_at_call 52; (with_reducible refine (spec_l03Find.calls k _ _ l0_1 a1_2 t131 _ ?_ ?_ A4.out).mono ?_); exact (Zah HR0_1 GE128 GE129); exact HC0_1.out; rintro e w' ⟨rfl, ⟨nd, rfl⟩⟩; (try first | exact ⟨rfl, _, World.drewN_drewN _ _ _⟩ | exact ⟨rfl, _, Eq.trans (World.drewN_drewN _ _ _) (congrArg (World.drewN _) (Nat.add_assoc _ _ _))⟩); have p132 : 0 ≤ (t131 : Int) := of_decide_eq_true Zn; have q132 : t131 < (l0_1.length : Int) := of_decide_eq_true Zn; obtain ⟨ad132, e132, hx132_0, hx132_1, hx132_2, hx132_3, hx132_4, hx132_5, hx132_6, hx132_7, hx132_8⟩ := at_T91 HR0_1.out t131 p132 q132; cases e132; replace hx132_0 := cbH HB hx132_0; replace hx132_1 := cbH HB hx132_1; replace hx132_2 := cbH HB hx132_2; replace hx132_3 := cbH HB hx132_3; replace hx132_4 := cbH HB hx132_4; replace hx132_5 := cbH HB hx132_5; replace hx132_6 := cbH HB hx132_6; replace hx132_7 := cbH HB hx132_7; replace hx132_8 := cbH HB hx132_8; replace p132 := eq_true p132; replace q132 := eq_true q132))
   repeat (go_quiet (first | ((with_reducible refine gate_dst (N := 2) rfl ?_); refine boxZ 2 #[.slice A0_0 l0_0.length c0_0, .slice A0_1 l0_1.length c0_1, .slice A0_2 l0_2.length c0_2] 35 ?_; intro gb128 hg w7 hbox hb; replace BK128 := am_ (hbox); replace GW128 := am_ ((Zc : w.heap.size ≤ gb128)); replace GE128 := GW128; replace HB := (bsZ Zd hb); clear hb hbox hg) | ((with_reducible refine gate_dst (N := 3) rfl ?_); refine boxZ 3 #[.int .i64 a1_0, .int .i64 a1_1, .string a1_2, .int .i64 a1_3] 80 ?_; intro gb129 hg w8 hbox hb; replace BK129 := am_ (hbox); replace GW129 := am_ (((Ze GE128) : w.heap.size ≤ gb129)); replace GE129 := GW129; replace HB := (bsZ (Zf GE128) hb); replace NB128_129 := am_ ((by rw [hg]; exact Nat.ne_of_lt (blk_lt (g := gb128) (b0Z BK128)) : gb128 ≠ gb129)); replace NB129_128 := am_ ((by rw [hg]; exact Nat.ne_of_gt (blk_lt (g := gb128) (b0Z BK128)) : gb129 ≠ gb128)); replace BK128 := (bkZ BK128 hb); clear hb hbox hg; have hnb9 := NB128_129.out; have hnc9 := NB129_128.out; obtain ⟨hcz10_0, hcz10_1, hcz10_2, hfz10_0, hfz10_1, hfz10_2⟩ := cz3 BK128; obtain ⟨hcz11_0, hcz11_1, hcz11_2, hcz11_3, hfz11_0, hfz11_1, hfz11_2, hfz11_3⟩ := cz4 BK129) | (go_at_call 74; (with_reducible refine (spec_l07Time.calls k _ _ l0_0 a1_0 a1_1 t130 _ ?_ ?_ A3.out).mono ?_); exact (Zz HR0_0); exact HC0_0.out; rintro e w' ⟨rfl, ⟨nd, rfl⟩⟩; (try first | exact ⟨rfl, _, World.drewN_drewN _ _ _⟩ | exact ⟨rfl, _, Eq.trans (World.drewN_drewN _ _ _) (congrArg (World.drewN _) (Nat.add_assoc _ _ _))⟩)) | (go_at_call 52; (with_reducible refine (spec_l03Find.calls k _ _ l0_1 a1_2 t131 _ ?_ ?_ A4.out).mono ?_); exact (Zah HR0_1 GE128 GE129); exact HC0_1.out; rintro e w' ⟨rfl, ⟨nd, rfl⟩⟩; (try first | exact ⟨rfl, _, World.drewN_drewN _ _ _⟩ | exact ⟨rfl, _, Eq.trans (World.drewN_drewN _ _ _) (congrArg (World.drewN _) (Nat.add_assoc _ _ _))⟩); have p132 : 0 ≤ (t131 : Int) := of_decide_eq_true Zn; have q132 : t131 < (l0_1.length : Int) := of_decide_eq_true Zn; obtain ⟨ad132, e132, hx132_0, hx132_1, hx132_2, hx132_3, hx132_4, hx132_5, hx132_6, hx132_7, hx132_8⟩ := at_T91 HR0_1.out t131 p132 q132; cases e132; replace hx132_0 := cbH HB hx132_0; replace hx132_1 := cbH HB hx132_1; replace hx132_2 := cbH HB hx132_2; replace hx132_3 := cbH HB hx132_3; replace hx132_4 := cbH HB hx132_4; replace hx132_5 := cbH HB hx132_5; replace hx132_6 := cbH HB hx132_6; replace hx132_7 := cbH HB hx132_7; replace hx132_8 := cbH HB hx132_8; replace p132 := eq_true p132; replace q132 := eq_true q132)); try go_wp2_with (first | ((with_reducible refine gate_dst (N := 2) rfl ?_); refine boxZ 2 #[.slice A0_0 l0_0.length c0_0, .slice A0_1 l0_1.length c0_1, .slice A0_2 l0_2.length c0_2] 35 ?_; intro gb128 hg w7 hbox hb; replace BK128 := am_ (hbox); replace GW128 := am_ ((Zc : w.heap.size ≤ gb128)); replace GE128 := GW128; replace HB := (bsZ Zd hb); clear hb hbox hg) | ((with_reducible refine gate_dst (N := 3) rfl ?_); refine boxZ 3 #[.int .i64 a1_0, .int .i64 a1_1, .string a1_2, .int .i64 a1_3] 80 ?_; intro gb129 hg w8 hbox hb; replace BK129 := am_ (hbox); replace GW129 := am_ (((Ze GE128) : w.heap.size ≤ gb129)); replace GE129 := GW129; replace HB := (bsZ (Zf GE128) hb); replace NB128_129 := am_ ((by rw [hg]; exact Nat.ne_of_lt (blk_lt (g := gb128) (b0Z BK128)) : gb128 ≠ gb129)); replace NB129_128 := am_ ((by rw [hg]; exact Nat.ne_of_gt (blk_lt (g := gb128) (b0Z BK128)) : gb129 ≠ gb128)); replace BK128 := (bkZ BK128 hb); clear hb hbox hg; have hnb9 := NB128_129.out; have hnc9 := NB129_128.out; obtain ⟨hcz10_0, hcz10_1, hcz10_2, hfz10_0, hfz10_1, hfz10_2⟩ := cz3 BK128; obtain ⟨hcz11_0, hcz11_1, hcz11_2, hcz11_3, hfz11_0, hfz11_1, hfz11_2, hfz11_3⟩ := cz4 BK129) | (go_at_call 74; (with_reducible refine (spec_l07Time.calls k _ _ l0_0 a1_0 a1_1 t130 _ ?_ ?_ A3.out).mono ?_); exact (Zz HR0_0); exact HC0_0.out; rintro e w' ⟨rfl, ⟨nd, rfl⟩⟩; (try first | exact ⟨rfl, _, World.drewN_drewN _ _ _⟩ | exact ⟨rfl, _, Eq.trans (World.drewN_drewN _ _ _) (congrArg (World.drewN _) (Nat.add_assoc _ _ _))⟩)) | (go_at_call 52; (with_reducible refine (spec_l03Find.calls k _ _ l0_1 a1_2 t131 _ ?_ ?_ A4.out).mono ?_); exact (Zah HR0_1 GE128 GE129); exact HC0_1.out; rintro e w' ⟨rfl, ⟨nd, rfl⟩⟩; (try first | exact ⟨rfl, _, World.drewN_drewN _ _ _⟩ | exact ⟨rfl, _, Eq.trans (World.drewN_drewN _ _ _) (congrArg (World.drewN _) (Nat.add_assoc _ _ _))⟩); have p132 : 0 ≤ (t131 : Int) := of_decide_eq_true Zn; have q132 : t131 < (l0_1.length : Int) := of_decide_eq_true Zn; obtain ⟨ad132, e132, hx132_0, hx132_1, hx132_2, hx132_3, hx132_4, hx132_5, hx132_6, hx132_7, hx132_8⟩ := at_T91 HR0_1.out t131 p132 q132; cases e132; replace hx132_0 := cbH HB hx132_0; replace hx132_1 := cbH HB hx132_1; replace hx132_2 := cbH HB hx132_2; replace hx132_3 := cbH HB hx132_3; replace hx132_4 := cbH HB hx132_4; replace hx132_5 := cbH HB hx132_5; replace hx132_6 := cbH HB hx132_6; replace hx132_7 := cbH HB hx132_7; replace hx132_8 := cbH HB hx132_8; replace p132 := eq_true p132; replace q132 := eq_true q132)))
   go_ret
   exact ⟨by first | rfl | (simp only [i64_w]; done) | (simp only [i64_w]; rfl) | (simp [errW_none, errW_some] <;> rfl) | (simp [*, errW_none, errW_some] <;> rfl), (Zh GE128 GE129)⟩
  ·rw [if_neg c6] at H
   exact absurd H (by simp)
 ·rw [if_neg c5] at H
  exact absurd H (by simp)
mutual
def spec_IsShow.j0 : Nat → Bool → List (S87) → List (S91) → List (S80) → Option (Bool)
 | 0, _, _, _, _ => none
 | k + 1, x20, x134000, x134001, x134002 => if x20 = true then (some false) else (spec_IsShow.l0 k 0 x134000 x134001 x134002)
def spec_IsShow.l0 : Nat → Int → List (S87) → List (S91) → List (S80) → Option (Bool)
 | 0, _, _, _, _ => none
 | k + 1, x3, x134000, x134001, x134002 => if x3 < (x134002.length : Int) then (if 0 ≤ x3 then ((spec_l07Has.f x134000 ((rd_T80 x134002 x3).f0) ((rd_T80 x134002 x3).f1)).bind fun t138 => (if t138 = true then ((spec_l03Find.f k x134001 ((rd_T80 x134002 x3).f2)).bind fun t139 => (if t139 < 0 then (some false) else ((spec_l01In.f ((rd_T80 x134002 x3).f3) 0 11).bind fun t140 => (if t140 = true then ((spec_l08Time.f k x134000 x134001 x134002 ((rd_T80 x134002 x3).f0) ((rd_T80 x134002 x3).f1) ((rd_T80 x134002 x3).f2) ((rd_T80 x134002 x3).f3)).bind fun t141 => (if t141 < 0 then (some false) else (spec_IsShow.l0 k (wrap64 (x3 + 1)) x134000 x134001 x134002))) else (some false))))) else (some false))) else (none)) else (some true)
end
def spec_IsShow.f (k : Nat) (l0_0 : List (S87)) (l0_1 : List (S91)) (l0_2 : List (S80)) : Option (Bool) := (spec_IsScore.f k l0_0).bind fun t134 => (if t134 = true then ((spec_AreArticles.f k l0_1).bind fun t135 => (if t135 = true then (spec_IsShow.j0 k (decide ((l0_2.length : Int) > 20)) l0_0 l0_1 l0_2) else (spec_IsShow.j0 k true l0_0 l0_1 l0_2))) else (spec_IsShow.j0 k true l0_0 l0_1 l0_2))
set_option maxHeartbeats 8000000 in
set_option maxRecDepth 100000 in
theorem spec_IsShow.calls (k : Nat) (A0_0 : Option Addr) (c0_0 : Nat) (l0_0 : List (S87)) (A0_1 : Option Addr) (c0_1 : Nat) (l0_1 : List (S91)) (A0_2 : Option Addr) (c0_2 : Nat) (l0_2 : List (S80)) (r : Bool) (w : World) (hr0_0 : Kd.C k87 w A0_0 l0_0.length l0_0) (hc0_0 : l0_0.length ≤ c0_0) (hr0_1 : Kd.C k91 w A0_1 l0_1.length l0_1) (hc0_1 : l0_1.length ≤ c0_1) (hr0_2 : Kd.C k80 w A0_2 l0_2.length l0_2) (hc0_2 : l0_2.length ≤ c0_2) (h : spec_IsShow.f k l0_0 l0_1 l0_2 = some r) :
  Calls Try.prog 23 #[.agg #[.slice A0_0 l0_0.length c0_0, .slice A0_1 l0_1.length c0_1, .slice A0_2 l0_2.length c0_2]] w fun e w' => e = .returned (.bool r) ∧ Below w.heap.size w w' := by
 have hu35 := Try.underlying35; have hu80 := Try.underlying80; have HR0_0 := am_ hr0_0; have HC0_0 := am_ hc0_0; clear hr0_0 hc0_0; have HR0_1 := am_ hr0_1; have HC0_1 := am_ hc0_1; clear hr0_1 hc0_1; have HR0_2 := am_ hr0_2; have HC0_2 := am_ hc0_2; clear hr0_2 hc0_2; have HB := am_ (Below.refl w.heap.size w); have H : ((spec_IsScore.f k l0_0).bind fun t134 => (if t134 = true then ((spec_AreArticles.f k l0_1).bind fun t135 => (if t135 = true then (spec_IsShow.j0 k (decide ((l0_2.length : Int) > 20)) l0_0 l0_1 l0_2) else (spec_IsShow.j0 k true l0_0 l0_1 l0_2))) else (spec_IsShow.j0 k true l0_0 l0_1 l0_2))) = some r := h; clear h; have HC2 := am_ H; clear H
 go_enter Try.func23, Try.ntmps23
 go_upto_region 1 with (first | ((with_reducible refine gate_dst (N := 1) rfl ?_); (try (refine gate_guard (by rfl) ?_; dsimp only)); refine boxZ 1 #[.slice A0_0 l0_0.length c0_0, .slice A0_1 l0_1.length c0_1, .slice A0_2 l0_2.length c0_2] 35 ?_; intro gb133 hg w3 hbox hb; replace BK133 := am_ (hbox); replace GW133 := am_ ((Zc : w.heap.size ≤ gb133)); replace GE133 := GW133; replace HB := (bsZ Zd hb); clear hb hbox hg))
 (try simp only [Act.put, List.setIfInBounds_toArray, List.set_cons_zero, List.set_cons_succ])
 go_cut [20] (fun v20 wc => ∃ (kq : Nat) (x20_1 : Bool), v20 = .bool x20_1 ∧ Aside0 (spec_IsShow.j0 kq x20_1 l0_0 l0_1 l0_2 = some r) ∧ Aside0 (kq ≤ k) ∧ Aside0 (wc.heap[gb133]? = some (.cells #[(.slice A0_0 l0_0.length c0_0), (.slice A0_1 l0_1.length c0_1), (.slice A0_2 l0_2.length c0_2)] 35 (0, 0))) ∧ Aside0 (Below w.heap.size w wc))
 case first =>
  have H := HC2.out; clear HC2; replace H := Option.bind_eq_some_iff.mp H; obtain ⟨t134, A40, H⟩ := H; have A4 := am_ A40; clear A40; have HS_ := am_ H; clear H; refine ci3 BK133 ?_; intros
  go_wp2_with (first | ((with_reducible refine gate_callee (f := 49) rfl ?_); refine gZ 7 Try.func49 #[.slice A0_0 l0_0.length c0_0] ?_; (with_reducible refine (spec_IsScore.calls k _ _ l0_0 t134 _ ?_ ?_ A4.out).mono ?_); exact (Zz HR0_0); exact HC0_0.out; rintro e w' ⟨rfl, ⟨nd, rfl⟩⟩; refine ⟨_, rfl, ?_⟩; refine ?roundEnd))
  case roundEnd =>
   by_cases c5 : t134 = true
   ·have H := HS_.out
    clear HS_; subst c5; rw [if_pos rfl] at H; replace H := Option.bind_eq_some_iff.mp H; obtain ⟨t135, A60, H⟩ := H; have A6 := am_ A60; clear A60; have HS_ := am_ H; clear H
    go_wp2_with (first | (go_at_call 50; (with_reducible refine (spec_AreArticles.calls k _ _ l0_1 t135 _ ?_ ?_ A6.out).mono ?_); exact (Zaa HR0_1 GE133); exact HC0_1.out; rintro e w9 ⟨rfl, hb⟩; replace BK133 := (bkZ BK133 hb); replace HB := (bsZ (Zf GE133) hb); clear hb; refine ?roundEnd))
    case roundEnd =>
     by_cases c7 : t135 = true
     ·have H := HS_.out
      clear HS_; subst c7; rw [if_pos rfl] at H; have H' := am_ H; clear H; refine ci3 BK133 ?_; intros
      go_wp2_with (first | fail)
      go_meet
      case rel => exact ⟨_, (decide ((l0_2.length : Int) > 20)), Za, H', ⟨Zl⟩, ⟨(Zai BK133)⟩, ⟨(Zf GE133)⟩⟩
     ·have H := HS_.out
      clear HS_; replace c7 := Bool.eq_false_iff.mpr c7; subst c7; rw [if_neg (show ¬ (false = true) by decide)] at H; have H' := am_ H; clear H
      go_wp2_with (first | fail)
      go_meet
      case rel => exact ⟨_, (true), Za, H', ⟨Zl⟩, ⟨(Zai BK133)⟩, ⟨(Zf GE133)⟩⟩
   ·have H := HS_.out
    clear HS_; replace c5 := Bool.eq_false_iff.mpr c5; subst c5; rw [if_neg (show ¬ (false = true) by decide)] at H; have H' := am_ H; clear H
    go_wp2_with (first | fail)
    go_meet
    case rel => exact ⟨_, (true), Za, H', ⟨Zl⟩, ⟨(Zai BK133)⟩, ⟨(Zf GE133)⟩⟩
 case rest =>
  clear HC2
  try clear c2
  try clear p2
  try clear c4
  try clear c5
  try clear c7
  obtain ⟨kq, x20_1, rfl, HA, HJ1, BK133, HB⟩ := hcut
  cases kq with
  | zero => exact absurd HA.out (by simp [spec_IsShow.j0])
  | succ kj1 =>
   have H := HA.out; clear HA; simp only [spec_IsShow.j0] at H
   by_cases c14 : x20_1 = true
   ·subst c14
    rw [if_pos rfl] at H; obtain rfl := Option.some.inj H
    go_wp2
    go_ret
    exact ⟨Zj, (Zf GE133)⟩
   ·replace c14 := Bool.eq_false_iff.mpr c14
    subst c14; rw [if_neg (show ¬ (false = true) by decide)] at H; have H' := am_ H; clear H
    go_wp2
    go_loopg [3] kj1 (fun kq v3 w' => ∃ (x3_2 : Int), v3 = .int .i64 x3_2 ∧ Aside0 (spec_IsShow.l0 kq x3_2 l0_0 l0_1 l0_2 = some r) ∧ Aside0 (kq ≤ kj1) ∧ Aside0 (w'.heap[gb133]? = some (.cells #[(.slice A0_0 l0_0.length c0_0), (.slice A0_1 l0_1.length c0_1), (.slice A0_2 l0_2.length c0_2)] 35 (0, 0))) ∧ Aside0 (Below w.heap.size w w'))
    case atStart => exact ⟨(0), Za, H', ⟨Nat.le_refl _⟩, ⟨(Zai BK133)⟩, ⟨(Zf GE133)⟩⟩
    case round =>
     clear H'
     try clear c1
     try clear c2
     try clear p2
     try clear c4
     try clear c5
     try clear c7
     try clear c14
     try clear p2
     obtain ⟨x3_2, rfl, HA, HK2, BK133, HB⟩ := hrel
     cases gk with
     | zero => exact absurd HA.out (by simp [spec_IsShow.l0])
     | succ k2 =>
      have H := HA.out; clear HA; simp only [spec_IsShow.l0] at H
      by_cases c15 : x3_2 < (l0_2.length : Int)
      ·rw [if_pos c15] at H
       have c15b0 := decide_eq_true c15; clear c15
       by_cases c16 : 0 ≤ x3_2
       ·rw [if_pos c16] at H
        have c16b0 := decide_eq_true c16; clear c16; replace H := Option.bind_eq_some_iff.mp H; obtain ⟨t138, A170, H⟩ := H; have A17 := am_ A170; clear A170; have HS_ := am_ H; clear H; refine ci3 BK133 ?_; intros; have p136 : 0 ≤ (x3_2 : Int) := of_decide_eq_true Zn; have q136 : x3_2 < (l0_2.length : Int) := of_decide_eq_true Zn; obtain ⟨ad136, e136, hx136_0, hx136_1, hx136_2, hx136_3⟩ := at_T80 HR0_2.out x3_2 p136 q136
        cases e136
        replace hx136_0 := cbH HB hx136_0; replace hx136_1 := cbH HB hx136_1; replace hx136_2 := cbH HB hx136_2; replace hx136_3 := cbH HB hx136_3; replace p136 := eq_true p136; replace q136 := eq_true q136
        go_wp2_with (first | ((with_reducible refine gate_dst (N := 4) rfl ?_); (try (refine gate_guard (by rfl) ?_; dsimp only)); refine boxZ 4 #[.int .i64 0, .int .i64 0, .string (⟨#[]⟩ : ByteArray), .int .i64 0] 80 ?_; intro gb137 hg w22 hbox hb; replace BK137 := am_ (hbox); replace GW137 := am_ (((Ze GE133) : w.heap.size ≤ gb137)); replace GE137 := GW137; replace HB := (bsZ (Zf GE133) hb); replace NB133_137 := am_ ((by rw [hg]; exact Nat.ne_of_lt (blk_lt (g := gb133) (b0Z BK133)) : gb133 ≠ gb137)); replace NB137_133 := am_ ((by rw [hg]; exact Nat.ne_of_gt (blk_lt (g := gb133) (b0Z BK133)) : gb137 ≠ gb133)); replace BK133 := (bkZ BK133 hb); clear hb hbox hg; have hnb23 := NB137_133.out; have hnc23 := NB133_137.out; refine ci4 BK137 ?_; intros; refine ci3 BK133 ?_; intros) | ((with_reducible refine gate_callee (f := 51) rfl ?_); refine gZ 39 Try.func51 #[.slice A0_0 l0_0.length c0_0, .int .i64 ((rd_T80 l0_2 x3_2).f0), .int .i64 ((rd_T80 l0_2 x3_2).f1)] ?_; (with_reducible refine (spec_l07Has.calls _ _ l0_0 ((rd_T80 l0_2 x3_2).f0) ((rd_T80 l0_2 x3_2).f1) t138 _ ?_ ?_ A17.out).mono ?_); exact Kd.C_below HR0_0.out (Zh GE133 GE137); exact HC0_0.out; rintro e w' ⟨rfl, ⟨nd, rfl⟩⟩; refine ⟨_, rfl, ?_⟩; refine ?roundEnd))
        case roundEnd =>
         by_cases c18 : t138 = true
         ·have H := HS_.out
          clear HS_; subst c18; rw [if_pos rfl] at H; replace H := Option.bind_eq_some_iff.mp H; obtain ⟨t139, A190, H⟩ := H; have A19 := am_ A190; clear A190; have HS_ := am_ H; clear H
          go_wp2_with (first | (go_at_call 52; (with_reducible refine (spec_l03Find.calls k2 _ _ l0_1 ((rd_T80 l0_2 x3_2).f2) t139 _ ?_ ?_ A19.out).mono ?_); exact Kd.C_below HR0_1.out (Zh GE133 GE137); exact HC0_1.out; rintro e w' ⟨rfl, ⟨nd, rfl⟩⟩; refine ?roundEnd))
          case roundEnd =>
           by_cases c20 : t139 < 0
           ·have H := HS_.out
            clear HS_; rw [if_pos c20] at H; have c20b0 := decide_eq_true c20; clear c20; obtain rfl := Option.some.inj H
            go_wp2_with (first | fail)
            go_ret
            exact ⟨Zj, (Zh GE133 GE137)⟩
           ·have H := HS_.out
            clear HS_; rw [if_neg c20] at H; have c20b0 := decide_eq_false c20; clear c20; replace H := Option.bind_eq_some_iff.mp H; obtain ⟨t140, A260, H⟩ := H; have A26 := am_ A260; clear A260; have HS_ := am_ H; clear H
            go_wp2_with (first | (go_at_call 24; (with_reducible refine (spec_l01In.calls ((rd_T80 l0_2 x3_2).f3) 0 11 t140 _ A26.out).mono ?_); rintro e w' ⟨rfl, ⟨nd, rfl⟩⟩; refine ?roundEnd))
            case roundEnd =>
             by_cases c27 : t140 = true
             ·have H := HS_.out
              clear HS_; subst c27; rw [if_pos rfl] at H; replace H := Option.bind_eq_some_iff.mp H; obtain ⟨t141, A280, H⟩ := H; have A28 := am_ A280; clear A280; have HS_ := am_ H; clear H
              go_wp2_with (first | (go_at_call 53; (with_reducible refine (spec_l08Time.calls k2 _ _ l0_0 _ _ l0_1 _ _ l0_2 ((rd_T80 l0_2 x3_2).f0) ((rd_T80 l0_2 x3_2).f1) ((rd_T80 l0_2 x3_2).f2) ((rd_T80 l0_2 x3_2).f3) t141 _ ?_ ?_ ?_ ?_ ?_ ?_ A28.out).mono ?_); exact Kd.C_below HR0_0.out (Zh GE133 GE137); exact HC0_0.out; exact Kd.C_below HR0_1.out (Zh GE133 GE137); exact HC0_1.out; exact Kd.C_below HR0_2.out (Zh GE133 GE137); exact HC0_2.out; rintro e w35 ⟨rfl, hb⟩; replace BK133 := am_ (blk_below (g := gb133) (bfZ BK133 NB133_137) hb); replace BK137 := am_ (blk_below (g := gb137) (o := .cells #[.int .i64 ((rd_T80 l0_2 x3_2).f0), .int .i64 ((rd_T80 l0_2 x3_2).f1), .string ((rd_T80 l0_2 x3_2).f2), .int .i64 ((rd_T80 l0_2 x3_2).f3)] 80 (0, 0)) (bpZ BK137) hb); replace HB := (bsZ (Zh GE133 GE137) hb); clear hb; refine ?roundEnd))
              case roundEnd =>
               by_cases c29 : t141 < 0
               ·have H := HS_.out
                clear HS_; rw [if_pos c29] at H; have c29b0 := decide_eq_true c29; clear c29; obtain rfl := Option.some.inj H
                go_wp2_with (first | fail)
                go_ret
                exact ⟨Zj, (Zh GE133 GE137)⟩
               ·have H := HS_.out
                clear HS_; rw [if_neg c29] at H; have c29b0 := decide_eq_false c29; clear c29; have H' := am_ H; clear H
                go_wp2_with (first | fail)
                go_roundg k2
                case measure => have := HJ1.out; have := HK2.out; omega
                case rel => exact ⟨(wrap64 (x3_2 + 1)), Za, H', ⟨by have := HJ1.out; have := HK2.out; omega⟩, ⟨(Zai BK133)⟩, ⟨(Zh GE133 GE137)⟩⟩
             ·have H := HS_.out
              clear HS_; replace c27 := Bool.eq_false_iff.mpr c27; subst c27; rw [if_neg (show ¬ (false = true) by decide)] at H; obtain rfl := Option.some.inj H
              go_wp2_with (first | fail)
              go_ret
              exact ⟨Zj, (Zh GE133 GE137)⟩
         ·have H := HS_.out
          clear HS_; replace c18 := Bool.eq_false_iff.mpr c18; subst c18; rw [if_neg (show ¬ (false = true) by decide)] at H; obtain rfl := Option.some.inj H
          go_wp2_with (first | fail)
          go_ret
          exact ⟨Zj, (Zh GE133 GE137)⟩
       ·rw [if_neg c16] at H
        exact absurd H (by simp)
      ·rw [if_neg c15] at H
       have c15b0 := decide_eq_false c15; clear c15; obtain rfl := Option.some.inj H; refine ci3 BK133 ?_; intros
       go_wp2
       go_ret
       exact ⟨Zj, (Zf GE133)⟩
def spec_l03Window.f (a0_0 : ByteArray) (a0_1 : Int) (a0_2 : Int) (a0_3 : Int) (a0_4 : Int) (a0_5 : Int) (a0_6 : Int) (a0_7 : Int) (a0_8 : Int) (a1 : Int) (a2 : Int) : Option (List Int) := some (([wrap64 ((wrap64 ((wrap64 (a1 + a0_3)) + (wrap64 (a2 * a0_6)))) - a0_4), wrap64 ((wrap64 ((wrap64 (a1 + a0_3)) + (wrap64 (a2 * a0_6)))) + a0_4)] : List Int))
set_option maxHeartbeats 8000000 in
set_option maxRecDepth 100000 in
theorem spec_l03Window.calls (a0_0 : ByteArray) (a0_1 : Int) (a0_2 : Int) (a0_3 : Int) (a0_4 : Int) (a0_5 : Int) (a0_6 : Int) (a0_7 : Int) (a0_8 : Int) (a1 : Int) (a2 : Int) (r : List Int) (w : World) (h : spec_l03Window.f a0_0 a0_1 a0_2 a0_3 a0_4 a0_5 a0_6 a0_7 a0_8 a1 a2 = some r) :
  Calls Try.prog 75 #[.agg #[.string a0_0, .int .i64 a0_1, .int .i64 a0_2, .int .i64 a0_3, .int .i64 a0_4, .int .i64 a0_5, .int .i64 a0_6, .int .i64 a0_7, .int .i64 a0_8], .int .i64 a1, .int .i64 a2] w fun e w' => ∃ v0_ : Value, e = .returned (v0_) ∧ Kd.R (Kd.int .i64) 2 w' w.heap.size (fun _ => True) v0_ r ∧ Below w.heap.size w w' := by
 have hu91 := Try.underlying91; have HB := am_ (Below.refl w.heap.size w); have H : (some (([wrap64 ((wrap64 ((wrap64 (a1 + a0_3)) + (wrap64 (a2 * a0_6)))) - a0_4), wrap64 ((wrap64 ((wrap64 (a1 + a0_3)) + (wrap64 (a2 * a0_6)))) + a0_4)] : List Int))) = some r := h; clear h; obtain ⟨y143, hy143⟩ : ∃ y_ : List Int, y_ = (([wrap64 ((wrap64 ((wrap64 (a1 + a0_3)) + (wrap64 (a2 * a0_6)))) - a0_4), wrap64 ((wrap64 ((wrap64 (a1 + a0_3)) + (wrap64 (a2 * a0_6)))) + a0_4)] : List Int)) := ⟨_, rfl⟩
 (first | (rw [← hy143] at H; with_reducible replace H := bindZ H) | rw [← hy143] at H | skip)
 have Ny143 := am_ hy143; clear hy143; obtain rfl := Option.some.inj H
 go_enter Try.func75, Try.ntmps75
 go_wp2_with (first | ((with_reducible refine gate_dst (N := 3) rfl ?_); refine boxZ 3 #[.string a0_0, .int .i64 a0_1, .int .i64 a0_2, .int .i64 a0_3, .int .i64 a0_4, .int .i64 a0_5, .int .i64 a0_6, .int .i64 a0_7, .int .i64 a0_8] 91 ?_; intro gb142 hg w4 hbox hb; replace BK142 := am_ (hbox); replace GW142 := am_ ((Zc : w.heap.size ≤ gb142)); replace GE142 := GW142; replace HB := (bsZ Zd hb); clear hb hbox hg; refine ci9 BK142 ?_; intros) | ((with_reducible refine gate_dst (N := 25) rfl ?_); refine Kd.R_lit (Kd.int .i64) _ 2 ?hg (N := 25) ?hd (xs := ([wrap64 ((wrap64 ((wrap64 (a1 + a0_3)) + (wrap64 (a2 * a0_6)))) - a0_4), wrap64 ((wrap64 ((wrap64 (a1 + a0_3)) + (wrap64 (a2 * a0_6)))) + a0_4)] : List Int)) (inner := [.int .i64 (wrap64 ((wrap64 ((wrap64 (a1 + a0_3)) + (wrap64 (a2 * a0_6)))) - a0_4)), .int .i64 (wrap64 ((wrap64 ((wrap64 (a1 + a0_3)) + (wrap64 (a2 * a0_6)))) + a0_4))]) (ok := fun _ => True) (okp := fun _ => True) ?hr ?hp (fun _ hk => hk) trivial (Below.refl _ _) (Nat.le_refl _) (by simp) ?_; (case hd => rfl); (case hg => rfl); (case hr => first | (go_simp; done) | (go_simp; rfl)); (case hp => exact (Reps.one (show Kd.M (Kd.int .i64) _ _ _ (wrap64 ((wrap64 ((wrap64 (a1 + a0_3)) + (wrap64 (a2 * a0_6)))) - a0_4)) [.int .i64 (wrap64 ((wrap64 ((wrap64 (a1 + a0_3)) + (wrap64 (a2 * a0_6)))) - a0_4))] from rfl) (Reps.one (show Kd.M (Kd.int .i64) _ _ _ (wrap64 ((wrap64 ((wrap64 (a1 + a0_3)) + (wrap64 (a2 * a0_6)))) + a0_4)) [.int .i64 (wrap64 ((wrap64 ((wrap64 (a1 + a0_3)) + (wrap64 (a2 * a0_6)))) + a0_4))] from rfl) (Reps.none _ _)))); intro v144 w6 ho7 hb hg_ hnew_; clear hg_ hnew_; (first | rw [← Ny143.out] at ho7 | (simp only [Int.reduceToNat] at ho7; rw [← Ny143.out] at ho7)); replace HO145 := am_ (Kd.R_lower ho7 (below_size (Zf GE142))); replace BK142 := (bkZ BK142 hb); replace HB := (bsZ (Zf GE142) hb); clear hb ho7))
 go_ret
 exact ⟨_, Zj, (Zo HO145), (Zf GE142)⟩
def spec_l09Cue.l0 : Nat → Int → List (List Int) → Int → List (S87) → List (S91) → List (S80) → Int → Int → ByteArray → Int → ByteArray → Int → Int → Int → Int → Int → Int → Int → Int → Option ((List (List Int)))
 | 0, _, _, _, _, _, _, _, _, _, _, _, _, _, _, _, _, _, _, _ => none
 | k + 1, x1, x7, x8, x147000, x147001, x147002, x149000, x149001, x149002, x149003, x152000, x152001, x152002, x152003, x152004, x152005, x152006, x152007, x152008 => if x8 < x152005 then ((spec_l08Time.f k x147000 x147001 x147002 x149000 x149001 x149002 x149003).bind fun t155 => ((spec_l03Window.f x152000 x152001 x152002 x152003 x152004 x152005 x152006 x152007 x152008 t155 x8).bind fun t156 => (if 0 < (t156.length : Int) then (if 1 < (t156.length : Int) then (if x7.length < 5864062014805 then (spec_l09Cue.l0 k x1 (x7 ++ [(([rd t156 0, rd t156 1, x1] : List Int))]) (wrap64 (x8 + 1)) x147000 x147001 x147002 x149000 x149001 x149002 x149003 x152000 x152001 x152002 x152003 x152004 x152005 x152006 x152007 x152008) else (none)) else (none)) else (none)))) else (some x7)
def spec_l09Cue.f (k : Nat) (l0_0 : List (S87)) (l0_1 : List (S91)) (l0_2 : List (S80)) (a1 : Int) : Option ((List (List Int))) := if 0 ≤ a1 then (if a1 < (l0_2.length : Int) then ((spec_l03Find.f k l0_1 ((rd_T80 l0_2 a1).f2)).bind fun t149 => (if 0 ≤ t149 then (if t149 < (l0_1.length : Int) then (spec_l09Cue.l0 k a1 (([] : List (List Int))) 0 l0_0 l0_1 l0_2 ((rd_T80 l0_2 a1).f0) ((rd_T80 l0_2 a1).f1) ((rd_T80 l0_2 a1).f2) ((rd_T80 l0_2 a1).f3) ((rd_T91 l0_1 t149).f0) ((rd_T91 l0_1 t149).f1) ((rd_T91 l0_1 t149).f2) ((rd_T91 l0_1 t149).f3) ((rd_T91 l0_1 t149).f4) ((rd_T91 l0_1 t149).f5) ((rd_T91 l0_1 t149).f6) ((rd_T91 l0_1 t149).f7) ((rd_T91 l0_1 t149).f8)) else (none)) else (none))) else (none)) else (none)
def spec_l09Cue.T2 : Bool × List (List Nat × List Nat) := (true, [([], []), ([0], [0]), ([], []), ([2], [2]), ([], []), ([4], [4]), ([3, 5], [3, 5]), ([1, 6], [1, 6]), ([7], [7]), ([], []), ([9, 8, 6, 0, 1, 2, 3, 4, 5, 6, 7, 8, 9], [8, 9])])
def spec_l09Cue.B2 : List Nat := [0, 1, 0, 4, 0, 16, 60, 127, 255, 0, 1023]
theorem spec_l09Cue.tab2 : rtab .any (opsOf Try.f54 2) = spec_l09Cue.T2 := by kernel_rfl
theorem spec_l09Cue.bits2 : waitsOk spec_l09Cue.T2.2 spec_l09Cue.B2 = true := by kernel_rfl
def spec_l09Cue.T8 : Bool × List (List Nat × List Nat) := (true, [([], []), ([], []), ([1], [1]), ([2], [2]), ([], []), ([4], [4]), ([5], [5]), ([], []), ([3, 6, 7], [3, 6, 7]), ([8], [8]), ([0, 9], [0, 9]), ([10, 10, 0, 1, 2, 3, 4, 5, 6, 7, 8, 9, 10], [0, 10])])
def spec_l09Cue.B8 : List Nat := [0, 0, 2, 6, 0, 16, 48, 0, 254, 510, 1023, 2047]
theorem spec_l09Cue.tab8 : rtab .any (opsOf Try.f54 8) = spec_l09Cue.T8 := by kernel_rfl
theorem spec_l09Cue.bits8 : waitsOk spec_l09Cue.T8.2 spec_l09Cue.B8 = true := by kernel_rfl
set_option maxHeartbeats 8000000 in
set_option maxRecDepth 100000 in
theorem spec_l09Cue.calls (k : Nat) (A0_0 : Option Addr) (c0_0 : Nat) (l0_0 : List (S87)) (A0_1 : Option Addr) (c0_1 : Nat) (l0_1 : List (S91)) (A0_2 : Option Addr) (c0_2 : Nat) (l0_2 : List (S80)) (a1 : Int) (r : List (List Int)) (w : World) (hr0_0 : Kd.C k87 w A0_0 l0_0.length l0_0) (hc0_0 : l0_0.length ≤ c0_0) (hr0_1 : Kd.C k91 w A0_1 l0_1.length l0_1) (hc0_1 : l0_1.length ≤ c0_1) (hr0_2 : Kd.C k80 w A0_2 l0_2.length l0_2) (hc0_2 : l0_2.length ≤ c0_2) (h : spec_l09Cue.f k l0_0 l0_1 l0_2 a1 = some r) :
  Calls Try.prog 54 #[.agg #[.slice A0_0 l0_0.length c0_0, .slice A0_1 l0_1.length c0_1, .slice A0_2 l0_2.length c0_2], .int .i64 a1] w fun e w' => ∃ v0_ : Value, e = .returned (v0_) ∧ Kd.S (Kd.slice 2 (Kd.int .i64)) 47 w' w.heap.size (fun _ => True) v0_ r ∧ Below w.heap.size w w' := by
 have hu35 := Try.underlying35; have hu80 := Try.underlying80; have hu91 := Try.underlying91; have HR0_0 := am_ hr0_0; have HC0_0 := am_ hc0_0; clear hr0_0 hc0_0; have HR0_1 := am_ hr0_1; have HC0_1 := am_ hc0_1; clear hr0_1 hc0_1; have HR0_2 := am_ hr0_2; have HC0_2 := am_ hc0_2; clear hr0_2 hc0_2; have HB := am_ (Below.refl w.heap.size w); have H : (if 0 ≤ a1 then (if a1 < (l0_2.length : Int) then ((spec_l03Find.f k l0_1 ((rd_T80 l0_2 a1).f2)).bind fun t149 => (if 0 ≤ t149 then (if t149 < (l0_1.length : Int) then (spec_l09Cue.l0 k a1 (([] : List (List Int))) 0 l0_0 l0_1 l0_2 ((rd_T80 l0_2 a1).f0) ((rd_T80 l0_2 a1).f1) ((rd_T80 l0_2 a1).f2) ((rd_T80 l0_2 a1).f3) ((rd_T91 l0_1 t149).f0) ((rd_T91 l0_1 t149).f1) ((rd_T91 l0_1 t149).f2) ((rd_T91 l0_1 t149).f3) ((rd_T91 l0_1 t149).f4) ((rd_T91 l0_1 t149).f5) ((rd_T91 l0_1 t149).f6) ((rd_T91 l0_1 t149).f7) ((rd_T91 l0_1 t149).f8)) else (none)) else (none))) else (none)) else (none)) = some r := h; clear h
 by_cases c3 : 0 ≤ a1
 ·rw [if_pos c3] at H
  have c3b0 := decide_eq_true c3; clear c3
  by_cases c4 : a1 < (l0_2.length : Int)
  ·rw [if_pos c4] at H
   have c4b0 := decide_eq_true c4; clear c4; replace H := Option.bind_eq_some_iff.mp H; obtain ⟨t149, A50, H⟩ := H; have A5 := am_ A50; clear A50
   by_cases c6 : 0 ≤ t149
   ·rw [if_pos c6] at H
    have c6b0 := decide_eq_true c6; clear c6
    by_cases c7 : t149 < (l0_1.length : Int)
    ·rw [if_pos c7] at H
     have c7b0 := decide_eq_true c7; clear c7; obtain ⟨y152, hy152⟩ : ∃ y_ : List (List Int), y_ = (([] : List (List Int))) := ⟨_, rfl⟩
     replace H : (spec_l09Cue.l0 k a1 y152 0 l0_0 l0_1 l0_2 ((rd_T80 l0_2 a1).f0) ((rd_T80 l0_2 a1).f1) ((rd_T80 l0_2 a1).f2) ((rd_T80 l0_2 a1).f3) ((rd_T91 l0_1 t149).f0) ((rd_T91 l0_1 t149).f1) ((rd_T91 l0_1 t149).f2) ((rd_T91 l0_1 t149).f3) ((rd_T91 l0_1 t149).f4) ((rd_T91 l0_1 t149).f5) ((rd_T91 l0_1 t149).f6) ((rd_T91 l0_1 t149).f7) ((rd_T91 l0_1 t149).f8)) = some r := by (try rw [hy152]); first | with_reducible exact H | with_reducible exact (Option.bind_some _ _).symm.trans H | exact H
     have Ny152 := am_ hy152; clear hy152; have H' := am_ H; clear H
     go_enter Try.func54, Try.ntmps54
     try go_wp2_with (first | ((with_reducible refine gate_dst (N := 2) rfl ?_); refine boxZ 2 #[.slice A0_0 l0_0.length c0_0, .slice A0_1 l0_1.length c0_1, .slice A0_2 l0_2.length c0_2] 35 ?_; intro gb146 hg w8 hbox hb; replace BK146 := am_ (hbox); replace GW146 := am_ ((Zc : w.heap.size ≤ gb146)); replace GE146 := GW146; replace HB := (bsZ Zd hb); clear hb hbox hg; refine ci3 BK146 ?_; intros; have p147 : 0 ≤ (a1 : Int) := of_decide_eq_true Zn; have q147 : a1 < (l0_2.length : Int) := of_decide_eq_true Zn; obtain ⟨ad147, e147, hx147_0, hx147_1, hx147_2, hx147_3⟩ := at_T80 HR0_2.out a1 p147 q147; cases e147; replace hx147_0 := cbH HB hx147_0; replace hx147_1 := cbH HB hx147_1; replace hx147_2 := cbH HB hx147_2; replace hx147_3 := cbH HB hx147_3; replace p147 := eq_true p147; replace q147 := eq_true q147) | ((with_reducible refine gate_dst (N := 5) rfl ?_); refine boxZ 5 #[.int .i64 0, .int .i64 0, .string (⟨#[]⟩ : ByteArray), .int .i64 0] 80 ?_; intro gb148 hg w10 hbox hb; replace BK148 := am_ (hbox); replace GW148 := am_ (((Ze GE146) : w.heap.size ≤ gb148)); replace GE148 := GW148; replace HB := (bsZ (Zf GE146) hb); replace NB146_148 := am_ ((by rw [hg]; exact Nat.ne_of_lt (blk_lt (g := gb146) (b0Z BK146)) : gb146 ≠ gb148)); replace NB148_146 := am_ ((by rw [hg]; exact Nat.ne_of_gt (blk_lt (g := gb146) (b0Z BK146)) : gb148 ≠ gb146)); replace BK146 := (bkZ BK146 hb); clear hb hbox hg; have hnb11 := NB148_146.out; have hnc11 := NB146_148.out; refine ci4 BK148 ?_; intros))
     have n0_ : Aside0 (((((w10.setCell ⟨gb148, 0, none⟩ (.int .i64 ((rd_T80 l0_2 a1).f0))).setCell ⟨gb148, 1, none⟩ (.int .i64 ((rd_T80 l0_2 a1).f1))).setCell ⟨gb148, 2, none⟩ (.string ((rd_T80 l0_2 a1).f2))).setCell ⟨gb148, 3, none⟩ (.int .i64 ((rd_T80 l0_2 a1).f3))).heap[gb146]? = some (.cells #[.slice A0_0 l0_0.length c0_0, .slice A0_1 l0_1.length c0_1, .slice (some ad147) l0_2.length c0_2] 35 (0, 0))) := ⟨by refine blk_far ?_ NB146_148.out _; refine blk_far ?_ NB146_148.out _; refine blk_far ?_ NB146_148.out _; refine blk_far ?_ NB146_148.out _; exact BK146.out⟩; have n1_ : Aside0 (((((w10.setCell ⟨gb148, 0, none⟩ (.int .i64 ((rd_T80 l0_2 a1).f0))).setCell ⟨gb148, 1, none⟩ (.int .i64 ((rd_T80 l0_2 a1).f1))).setCell ⟨gb148, 2, none⟩ (.string ((rd_T80 l0_2 a1).f2))).setCell ⟨gb148, 3, none⟩ (.int .i64 ((rd_T80 l0_2 a1).f3))).heap[gb148]? = some (.cells #[.int .i64 ((rd_T80 l0_2 a1).f0), .int .i64 ((rd_T80 l0_2 a1).f1), .string ((rd_T80 l0_2 a1).f2), .int .i64 ((rd_T80 l0_2 a1).f3)] 80 (0, 0))) := ⟨by refine blk_put (cs := #[.int .i64 ((rd_T80 l0_2 a1).f0), .int .i64 ((rd_T80 l0_2 a1).f1), .string ((rd_T80 l0_2 a1).f2), .int .i64 0]) ?_ 3 _ rfl; refine blk_put (cs := #[.int .i64 ((rd_T80 l0_2 a1).f0), .int .i64 ((rd_T80 l0_2 a1).f1), .string (⟨#[]⟩ : ByteArray), .int .i64 0]) ?_ 2 _ rfl; refine blk_put (cs := #[.int .i64 ((rd_T80 l0_2 a1).f0), .int .i64 0, .string (⟨#[]⟩ : ByteArray), .int .i64 0]) ?_ 1 _ rfl; refine blk_put (cs := #[.int .i64 0, .int .i64 0, .string (⟨#[]⟩ : ByteArray), .int .i64 0]) ?_ 0 _ rfl; exact BK148.out⟩; have n2_ : Aside0 (Below w.heap.size w ((((w10.setCell ⟨gb148, 0, none⟩ (.int .i64 ((rd_T80 l0_2 a1).f0))).setCell ⟨gb148, 1, none⟩ (.int .i64 ((rd_T80 l0_2 a1).f1))).setCell ⟨gb148, 2, none⟩ (.string ((rd_T80 l0_2 a1).f2))).setCell ⟨gb148, 3, none⟩ (.int .i64 ((rd_T80 l0_2 a1).f3)))) := ⟨(Zh GE146 GE148)⟩
     (try clear BK146)
     (try clear BK148)
     (try clear HB)
     generalize ((((w10.setCell ⟨gb148, 0, none⟩ (.int .i64 ((rd_T80 l0_2 a1).f0))).setCell ⟨gb148, 1, none⟩ (.int .i64 ((rd_T80 l0_2 a1).f1))).setCell ⟨gb148, 2, none⟩ (.string ((rd_T80 l0_2 a1).f2))).setCell ⟨gb148, 3, none⟩ (.int .i64 ((rd_T80 l0_2 a1).f3))) = w13 at n0_ n1_ n2_ ⊢; have BK146 := n0_; have BK148 := n1_; have HB := n2_; clear n0_ n1_ n2_; replace BK146 := am_ (blk_drew BK146.out); replace BK148 := am_ (blk_drew BK148.out); replace HB := am_ (below_drew1 HB.out); have p150 : 0 ≤ (t149 : Int) := of_decide_eq_true Zn; have q150 : t149 < (l0_1.length : Int) := of_decide_eq_true Zn; obtain ⟨ad150, e150, hx150_0, hx150_1, hx150_2, hx150_3, hx150_4, hx150_5, hx150_6, hx150_7, hx150_8⟩ := at_T91 HR0_1.out t149 p150 q150; have hw150_8 := hx150_8; have hw150_7 := hx150_7; have hw150_6 := hx150_6; have hw150_5 := hx150_5; have hw150_4 := hx150_4; have hw150_3 := hx150_3; have hw150_2 := hx150_2; have hw150_1 := hx150_1; have hw150_0 := hx150_0
     cases e150
     replace hx150_0 := cbH HB hx150_0; replace hx150_1 := cbH HB hx150_1; replace hx150_2 := cbH HB hx150_2; replace hx150_3 := cbH HB hx150_3; replace hx150_4 := cbH HB hx150_4; replace hx150_5 := cbH HB hx150_5; replace hx150_6 := cbH HB hx150_6; replace hx150_7 := cbH HB hx150_7; replace hx150_8 := cbH HB hx150_8; replace p150 := eq_true p150; replace q150 := eq_true q150; refine start_ (n := 11) (S := fun w' => w'.cell? ⟨gb146, 0, none⟩ = some (.slice A0_0 l0_0.length c0_0) ∧ w'.cell? ⟨gb146, 1, none⟩ = some (.slice (some ad150) l0_1.length c0_1) ∧ w'.cell? ⟨gb146, 2, none⟩ = some (.slice (some ad147) l0_2.length c0_2) ∧ w'.cell? ⟨gb148, 0, none⟩ = some (.int .i64 ((rd_T80 l0_2 a1).f0)) ∧ w'.cell? ⟨gb148, 1, none⟩ = some (.int .i64 ((rd_T80 l0_2 a1).f1)) ∧ w'.cell? ⟨gb148, 2, none⟩ = some (.string ((rd_T80 l0_2 a1).f2)) ∧ w'.cell? ⟨gb148, 3, none⟩ = some (.int .i64 ((rd_T80 l0_2 a1).f3)) ∧ w'.cell? (ad150.add ((t149).toNat * 9)) = some (.string ((rd_T91 l0_1 t149).f0)) ∧ w'.cell? ⟨(ad150.add ((t149).toNat * 9)).block, (ad150.add ((t149).toNat * 9)).off + 1, none⟩ = some (.int .i64 ((rd_T91 l0_1 t149).f1)) ∧ w'.cell? ⟨(ad150.add ((t149).toNat * 9)).block, (ad150.add ((t149).toNat * 9)).off + 2, none⟩ = some (.int .i64 ((rd_T91 l0_1 t149).f2)) ∧ w'.cell? ⟨(ad150.add ((t149).toNat * 9)).block, (ad150.add ((t149).toNat * 9)).off + 3, none⟩ = some (.int .i64 ((rd_T91 l0_1 t149).f3)) ∧ w'.cell? ⟨(ad150.add ((t149).toNat * 9)).block, (ad150.add ((t149).toNat * 9)).off + 4, none⟩ = some (.int .i64 ((rd_T91 l0_1 t149).f4)) ∧ w'.cell? ⟨(ad150.add ((t149).toNat * 9)).block, (ad150.add ((t149).toNat * 9)).off + 5, none⟩ = some (.int .i64 ((rd_T91 l0_1 t149).f5)) ∧ w'.cell? ⟨(ad150.add ((t149).toNat * 9)).block, (ad150.add ((t149).toNat * 9)).off + 6, none⟩ = some (.int .i64 ((rd_T91 l0_1 t149).f6)) ∧ w'.cell? ⟨(ad150.add ((t149).toNat * 9)).block, (ad150.add ((t149).toNat * 9)).off + 7, none⟩ = some (.int .i64 ((rd_T91 l0_1 t149).f7)) ∧ w'.cell? ⟨(ad150.add ((t149).toNat * 9)).block, (ad150.add ((t149).toNat * 9)).off + 8, none⟩ = some (.int .i64 ((rd_T91 l0_1 t149).f8))) (ds := []) (bT 11 0) Zi rfl rfl ⟨(blk_cell BK146.out 0).trans rfl, (blk_cell BK146.out 1).trans rfl, (blk_cell BK146.out 2).trans rfl, (blk_cell BK148.out 0).trans rfl, (blk_cell BK148.out 1).trans rfl, (blk_cell BK148.out 2).trans rfl, (blk_cell BK148.out 3).trans rfl, (cbH HB hw150_0 :), (cbH HB hw150_1 :), (cbH HB hw150_2 :), (cbH HB hw150_3 :), (cbH HB hw150_4 :), (cbH HB hw150_5 :), (cbH HB hw150_6 :), (cbH HB hw150_7 :), (cbH HB hw150_8 :)⟩ (fun hHeld => ?_); refine with_tabW spec_l09Cue.tab2 spec_l09Cue.bits2 (fun HT_ HW_ => ?_); generalize w13.drew = w14 at BK146 BK148 HB hx150_0 hx150_1 hx150_2 hx150_3 hx150_4 hx150_5 hx150_6 hx150_7 hx150_8 hHeld ⊢; refine pureZ HT_ 0 (some 15) (bT 11 1) ?_; refine pureZ HT_ 2 (some 17) (bB 11 5) ?_; refine pureZ HT_ 4 (some 19) (bB 11 21) ?_; refine takeZ16 HT_ HW_ 1 (some 16) (bB 11 23) hHeld ?_; refine takeZ16 HT_ HW_ 3 (some 18) (bT 11 5) hHeld ?_
     refine takeZ16 HT_ HW_ 5 (some 20) (bT 11 6) hHeld ?_; refine join_ (σ := Nat) 1 (bT 11 10) (fun s_ => [(21, .int .i64 t149), (6, .pointer (some ⟨s_, 0, none⟩)), (22, .pointer (some (ad150.add ((t149).toNat * 9)))), (23, .agg #[.string ((rd_T91 l0_1 t149).f0), .int .i64 ((rd_T91 l0_1 t149).f1), .int .i64 ((rd_T91 l0_1 t149).f2), .int .i64 ((rd_T91 l0_1 t149).f3), .int .i64 ((rd_T91 l0_1 t149).f4), .int .i64 ((rd_T91 l0_1 t149).f5), .int .i64 ((rd_T91 l0_1 t149).f6), .int .i64 ((rd_T91 l0_1 t149).f7), .int .i64 ((rd_T91 l0_1 t149).f8)])]) (fun s_ w' => (w'.cell? ⟨gb146, 0, none⟩ = some (.slice A0_0 l0_0.length c0_0) ∧ w'.cell? ⟨gb146, 1, none⟩ = some (.slice (some ad150) l0_1.length c0_1) ∧ w'.cell? ⟨gb146, 2, none⟩ = some (.slice (some ad147) l0_2.length c0_2) ∧ w'.cell? ⟨gb148, 0, none⟩ = some (.int .i64 ((rd_T80 l0_2 a1).f0)) ∧ w'.cell? ⟨gb148, 1, none⟩ = some (.int .i64 ((rd_T80 l0_2 a1).f1)) ∧ w'.cell? ⟨gb148, 2, none⟩ = some (.string ((rd_T80 l0_2 a1).f2)) ∧ w'.cell? ⟨gb148, 3, none⟩ = some (.int .i64 ((rd_T80 l0_2 a1).f3)) ∧ w'.cell? (ad150.add ((t149).toNat * 9)) = some (.string ((rd_T91 l0_1 t149).f0)) ∧ w'.cell? ⟨(ad150.add ((t149).toNat * 9)).block, (ad150.add ((t149).toNat * 9)).off + 1, none⟩ = some (.int .i64 ((rd_T91 l0_1 t149).f1)) ∧ w'.cell? ⟨(ad150.add ((t149).toNat * 9)).block, (ad150.add ((t149).toNat * 9)).off + 2, none⟩ = some (.int .i64 ((rd_T91 l0_1 t149).f2)) ∧ w'.cell? ⟨(ad150.add ((t149).toNat * 9)).block, (ad150.add ((t149).toNat * 9)).off + 3, none⟩ = some (.int .i64 ((rd_T91 l0_1 t149).f3)) ∧ w'.cell? ⟨(ad150.add ((t149).toNat * 9)).block, (ad150.add ((t149).toNat * 9)).off + 4, none⟩ = some (.int .i64 ((rd_T91 l0_1 t149).f4)) ∧ w'.cell? ⟨(ad150.add ((t149).toNat * 9)).block, (ad150.add ((t149).toNat * 9)).off + 5, none⟩ = some (.int .i64 ((rd_T91 l0_1 t149).f5)) ∧ w'.cell? ⟨(ad150.add ((t149).toNat * 9)).block, (ad150.add ((t149).toNat * 9)).off + 6, none⟩ = some (.int .i64 ((rd_T91 l0_1 t149).f6)) ∧ w'.cell? ⟨(ad150.add ((t149).toNat * 9)).block, (ad150.add ((t149).toNat * 9)).off + 7, none⟩ = some (.int .i64 ((rd_T91 l0_1 t149).f7)) ∧ w'.cell? ⟨(ad150.add ((t149).toNat * 9)).block, (ad150.add ((t149).toNat * 9)).off + 8, none⟩ = some (.int .i64 ((rd_T91 l0_1 t149).f8))) ∧ (w'.heap[gb146]? = some (.cells #[.slice A0_0 l0_0.length c0_0, .slice (some ad150) l0_1.length c0_1, .slice (some ad147) l0_2.length c0_2] 35 (0, 0))) ∧ (w'.heap[gb148]? = some (.cells #[.int .i64 ((rd_T80 l0_2 a1).f0), .int .i64 ((rd_T80 l0_2 a1).f1), .string ((rd_T80 l0_2 a1).f2), .int .i64 ((rd_T80 l0_2 a1).f3)] 80 (0, 0))) ∧ (w'.heap[s_]? = some (.cells #[.string (⟨#[]⟩ : ByteArray), .int .i64 0, .int .i64 0, .int .i64 0, .int .i64 0, .int .i64 0, .int .i64 0, .int .i64 0, .int .i64 0] 91 (0, 0))) ∧ (w.heap.size ≤ s_) ∧ (w.heap.size ≤ s_) ∧ (gb146 ≠ s_) ∧ (s_ ≠ gb146) ∧ (gb148 ≠ s_) ∧ (s_ ≠ gb148) ∧ (Below w.heap.size w w')) ?_ ?_; rotate_left
     ·intro hCont
      refine two_ (i := 6) (j := 9) (Ni := some 21) (Nj := some 6) (bT 11 7) (bB 11 575) rfl rfl rfl rfl (two_of HT_.out Zi) (by decide) (by decide) (fun K hK => ?_) (fun K hK => ?_)
      ·skip
       refine goes_ Try.func52 Zi rfl #[.slice (some ad150) l0_1.length c0_1, .string ((rd_T80 l0_2 a1).f2)] (by rfl) rfl rfl Zr ?_
       with_reducible refine (spec_l03Find.calls k _ _ l0_1 ((rd_T80 l0_2 a1).f2) t149 _ ?side1 ?side2 A5.out).mono ?_
       (case side1 => exact (Zz HR0_1))
       (case side2 => exact HC0_1.out)
       rintro e w' ⟨rfl, ⟨nd, rfl⟩⟩; refine ⟨_, rfl, ?_⟩; refine hK.out _ _ (Zaj BK146 BK148 hw150_0 hw150_1 hw150_2 hw150_3 hw150_4 hw150_5 hw150_6 hw150_7 hw150_8) (fun hHeld => ?_); clear hK K; refine normZ 21 ?_; refine pureZ HT_ 7 (some 22) (bT 11 8) ?_; refine takeZ16 HT_ HW_ 8 (some 23) (bT 11 9) hHeld ?_; refine one_ (i := 9) (N := some 6) (bT 11 10) rfl rfl (one_of HT_.out Zi) (by decide) (fun K hK => ?_); refine box_step ?hg (N := 6) ?hd (cs := #[.string (⟨#[]⟩ : ByteArray), .int .i64 0, .int .i64 0, .int .i64 0, .int .i64 0, .int .i64 0, .int .i64 0, .int .i64 0, .int .i64 0]) (t := 91) ?hr ?_; (case hd => rfl); (case hg => rfl); (case hr => first | (go_simp; done) | (go_simp; rfl)); intro gb151 hg w15 hbox hb; replace BK151 := am_ (hbox); replace GW151 := am_ (((Zg GE146 GE148) : w.heap.size ≤ gb151)); replace GE151 := GW151; replace HB := (bsZ (Zh GE146 GE148) hb); replace NB146_151 := am_ ((by rw [hg]; exact Nat.ne_of_lt (blk_lt (g := gb146) (b0Z BK146)) : gb146 ≠ gb151)); replace NB151_146 := am_ ((by rw [hg]; exact Nat.ne_of_gt (blk_lt (g := gb146) (b0Z BK146)) : gb151 ≠ gb146)); replace BK146 := (bkZ BK146 hb); replace NB148_151 := am_ ((by rw [hg]; exact Nat.ne_of_lt (blk_lt (g := gb148) (b0Z BK148)) : gb148 ≠ gb151)); replace NB151_148 := am_ ((by rw [hg]; exact Nat.ne_of_gt (blk_lt (g := gb148) (b0Z BK148)) : gb151 ≠ gb148)); replace BK148 := (bkZ BK148 hb); clear hb hbox hg; refine hK.out _ _ (Zaj BK146 BK148 hw150_0 hw150_1 hw150_2 hw150_3 hw150_4 hw150_5 hw150_6 hw150_7 hw150_8) (fun hHeld => ?_); clear hK K; refine normZ 6 ?_; exact norm_ Zak (hCont (gb151) _ ⟨hHeld, (b0Z BK146), (b0Z BK148), (b0Z BK151), GW151.out, GE151.out, NB146_151.out, NB151_146.out, NB148_151.out, NB151_148.out, (Zk GE146 GE148 GE151)⟩)
      ·skip
       refine box_step ?hg (N := 6) ?hd (cs := #[.string (⟨#[]⟩ : ByteArray), .int .i64 0, .int .i64 0, .int .i64 0, .int .i64 0, .int .i64 0, .int .i64 0, .int .i64 0, .int .i64 0]) (t := 91) ?hr ?_; (case hd => rfl); (case hg => rfl); (case hr => first | (go_simp; done) | (go_simp; rfl)); intro gb151 hg w15 hbox hb; replace BK151 := am_ (hbox); replace GW151 := am_ (((Zg GE146 GE148) : w.heap.size ≤ gb151)); replace GE151 := GW151; replace HB := (bsZ (Zh GE146 GE148) hb); replace NB146_151 := am_ ((by rw [hg]; exact Nat.ne_of_lt (blk_lt (g := gb146) (b0Z BK146)) : gb146 ≠ gb151)); replace NB151_146 := am_ ((by rw [hg]; exact Nat.ne_of_gt (blk_lt (g := gb146) (b0Z BK146)) : gb151 ≠ gb146)); replace BK146 := (bkZ BK146 hb); replace NB148_151 := am_ ((by rw [hg]; exact Nat.ne_of_lt (blk_lt (g := gb148) (b0Z BK148)) : gb148 ≠ gb151)); replace NB151_148 := am_ ((by rw [hg]; exact Nat.ne_of_gt (blk_lt (g := gb148) (b0Z BK148)) : gb151 ≠ gb148)); replace BK148 := (bkZ BK148 hb); clear hb hbox hg; refine hK.out _ _ (Zaj BK146 BK148 hw150_0 hw150_1 hw150_2 hw150_3 hw150_4 hw150_5 hw150_6 hw150_7 hw150_8) (fun hHeld => ?_); clear hK K; refine normZ 6 ?_; refine one_ (i := 6) (N := some 21) (bB 11 639) rfl rfl (one_of HT_.out Zi) (by decide) (fun K hK => ?_); refine goes_ Try.func52 Zi rfl #[.slice (some ad150) l0_1.length c0_1, .string ((rd_T80 l0_2 a1).f2)] (by rfl) rfl rfl Zr ?_
       with_reducible refine (spec_l03Find.calls k _ _ l0_1 ((rd_T80 l0_2 a1).f2) t149 _ ?side1 ?side2 A5.out).mono ?_
       (case side1 => exact (Zz HR0_1))
       (case side2 => exact HC0_1.out)
       rintro e w' ⟨rfl, ⟨nd, rfl⟩⟩; refine ⟨_, rfl, ?_⟩; refine hK.out _ _ (Zaj BK146 BK148 hw150_0 hw150_1 hw150_2 hw150_3 hw150_4 hw150_5 hw150_6 hw150_7 hw150_8) (fun hHeld => ?_); clear hK K; refine normZ 21 ?_; refine pureZ HT_ 7 (some 22) (bB 11 767) ?_; refine takeZ16 HT_ HW_ 8 (some 23) (bT 11 10) hHeld ?_; exact norm_ Zak (hCont (gb151) _ ⟨hHeld, (b0Z BK146), (b0Z BK148), (b0Z BK151), GW151.out, GE151.out, NB146_151.out, NB151_146.out, NB148_151.out, NB151_148.out, (Zk GE146 GE148 GE151)⟩)
     rintro gb151 w16 ⟨hS_, h0_, h1_, h2_, h3_, h4_, h5_, h6_, h7_, h8_, h9_⟩
     (try dsimp only at hS_ h0_ h1_ h2_ h3_ h4_ h5_ h6_ h7_ h8_ h9_)
     replace BK146 := am_ h0_; replace BK148 := am_ h1_; replace BK151 := am_ h2_; replace GW151 := am_ h3_; replace GE151 := am_ h4_; replace NB146_151 := am_ h5_; replace NB151_146 := am_ h6_; replace NB148_151 := am_ h7_; replace NB151_148 := am_ h8_; replace HB := am_ h9_; clear h0_ h1_ h2_ h3_ h4_ h5_ h6_ h7_ h8_ h9_; have hHeld := hS_; refine normP ?_; refine one_ (i := 10) (N := none) (bT 11 11) rfl rfl (one_of HT_.out Zi) (by decide) (fun K hK => ?_); have hs17 : w16.cell? ⟨gb151, 0, none⟩ = some (.string (⟨#[]⟩ : ByteArray)) := (blk_cell BK151.out 0).trans rfl; have hfs17 := blk_frozen BK151.out 0; have hns17_0 := NB146_151.out; have hns17_1 := NB148_151.out; have hms17_0 := NB151_146.out; have hms17_1 := NB151_148.out; have hs18 : w16.cell? ⟨gb151, 1, none⟩ = some (.int .i64 0) := (blk_cell BK151.out 1).trans rfl; have hfs18 := blk_frozen BK151.out 1; have hns18_0 := NB146_151.out; have hns18_1 := NB148_151.out; have hms18_0 := NB151_146.out; have hms18_1 := NB151_148.out; have hs19 : w16.cell? ⟨gb151, 2, none⟩ = some (.int .i64 0) := (blk_cell BK151.out 2).trans rfl; have hfs19 := blk_frozen BK151.out 2; have hns19_0 := NB146_151.out; have hns19_1 := NB148_151.out; have hms19_0 := NB151_146.out; have hms19_1 := NB151_148.out; have hs20 : w16.cell? ⟨gb151, 3, none⟩ = some (.int .i64 0) := (blk_cell BK151.out 3).trans rfl; have hfs20 := blk_frozen BK151.out 3; have hns20_0 := NB146_151.out; have hns20_1 := NB148_151.out; have hms20_0 := NB151_146.out; have hms20_1 := NB151_148.out; have hs21 : w16.cell? ⟨gb151, 4, none⟩ = some (.int .i64 0) := (blk_cell BK151.out 4).trans rfl; have hfs21 := blk_frozen BK151.out 4; have hns21_0 := NB146_151.out; have hns21_1 := NB148_151.out; have hms21_0 := NB151_146.out; have hms21_1 := NB151_148.out; have hs22 : w16.cell? ⟨gb151, 5, none⟩ = some (.int .i64 0) := (blk_cell BK151.out 5).trans rfl; have hfs22 := blk_frozen BK151.out 5; have hns22_0 := NB146_151.out; have hns22_1 := NB148_151.out; have hms22_0 := NB151_146.out; have hms22_1 := NB151_148.out; have hs23 : w16.cell? ⟨gb151, 6, none⟩ = some (.int .i64 0) := (blk_cell BK151.out 6).trans rfl; have hfs23 := blk_frozen BK151.out 6; have hns23_0 := NB146_151.out; have hns23_1 := NB148_151.out; have hms23_0 := NB151_146.out; have hms23_1 := NB151_148.out; have hs24 : w16.cell? ⟨gb151, 7, none⟩ = some (.int .i64 0) := (blk_cell BK151.out 7).trans rfl; have hfs24 := blk_frozen BK151.out 7; have hns24_0 := NB146_151.out; have hns24_1 := NB148_151.out; have hms24_0 := NB151_146.out; have hms24_1 := NB151_148.out; have hs25 : w16.cell? ⟨gb151, 8, none⟩ = some (.int .i64 0) := (blk_cell BK151.out 8).trans rfl; have hfs25 := blk_frozen BK151.out 8; have hns25_0 := NB146_151.out; have hns25_1 := NB148_151.out; have hms25_0 := NB151_146.out; have hms25_1 := NB151_148.out; refine skip_ (w1 := ?_) (by rfl) rfl ?_ ?_; rotate_left
     ·go_simp
      rfl
     refine hK.out _ _ ⟨(cg1 (hHeld.1) NB146_151), (cg1 (hHeld.2.1) NB146_151), (cg1 (hHeld.2.2.1) NB146_151), (cg1 (hHeld.2.2.2.1) NB148_151), (cg1 (hHeld.2.2.2.2.1) NB148_151), (cg1 (hHeld.2.2.2.2.2.1) NB148_151), (cg1 (hHeld.2.2.2.2.2.2.1) NB148_151), (cfZ gb151 (hHeld.2.2.2.2.2.2.2.1) (Zal hw150_0 GW151)), (cfZ gb151 (hHeld.2.2.2.2.2.2.2.2.1) (Zal hw150_1 GW151)), (cfZ gb151 (hHeld.2.2.2.2.2.2.2.2.2.1) (Zal hw150_2 GW151)), (cfZ gb151 (hHeld.2.2.2.2.2.2.2.2.2.2.1) (Zal hw150_3 GW151)), (cfZ gb151 (hHeld.2.2.2.2.2.2.2.2.2.2.2.1) (Zal hw150_4 GW151)), (cfZ gb151 (hHeld.2.2.2.2.2.2.2.2.2.2.2.2.1) (Zal hw150_5 GW151)), (cfZ gb151 (hHeld.2.2.2.2.2.2.2.2.2.2.2.2.2.1) (Zal hw150_6 GW151)), (cfZ gb151 (hHeld.2.2.2.2.2.2.2.2.2.2.2.2.2.2.1) (Zal hw150_7 GW151)), (cfZ gb151 (hHeld.2.2.2.2.2.2.2.2.2.2.2.2.2.2.2) (Zal hw150_8 GW151))⟩ (fun hHeld => ?_); clear hK K; refine done_ (done_of HT_.out Zi) ?_
     try go_wp2_with (first | ((with_reducible refine gate_dst (N := 24) rfl ?_); refine Kd.S_lit (Kd.slice 2 (Kd.int .i64)) _ 47 ?hg (N := 24) ?hd (xs := ([] : List (List Int))) (inner := []) (ok := fun _ => True) (okp := fun _ => True) ?hr ?hp (fun _ hk => hk) trivial (Below.refl _ _) (Nat.le_refl _) (by simp) ?_; (case hd => rfl); (case hg => rfl); (case hr => first | (go_simp; done) | (go_simp; rfl)); (case hp => exact (Reps.none _ _)); intro v153 w26 ho27 hb hg_ hnew_; clear hg_ hnew_; (first | rw [← Ny152.out] at ho27 | (simp only [Int.reduceToNat] at ho27; rw [← Ny152.out] at ho27)); replace HO154 := am_ (Kd.S_lower ho27 (below_size (Zk GE146 GE148 GE151))); replace BK146 := am_ (blk_below (g := gb146) (bfZ BK146 NB146_151) hb); replace BK148 := am_ (blk_below (g := gb148) (bfZ BK148 NB148_151) hb); replace BK151 := am_ (blk_below (g := gb151) (o := .cells #[.string ((rd_T91 l0_1 t149).f0), .int .i64 ((rd_T91 l0_1 t149).f1), .int .i64 ((rd_T91 l0_1 t149).f2), .int .i64 ((rd_T91 l0_1 t149).f3), .int .i64 ((rd_T91 l0_1 t149).f4), .int .i64 ((rd_T91 l0_1 t149).f5), .int .i64 ((rd_T91 l0_1 t149).f6), .int .i64 ((rd_T91 l0_1 t149).f7), .int .i64 ((rd_T91 l0_1 t149).f8)] 91 (0, 0)) (bpZ BK151) hb); replace HB := (bsZ (Zk GE146 GE148 GE151) hb); clear hb ho27))
     go_loopg [7, 8] k (fun kq v7 v8 w' => ∃ (x7_1 : List (List Int)) (x8_1 : Int), v8 = .int .i64 x8_1 ∧ Aside0 (spec_l09Cue.l0 kq a1 x7_1 x8_1 l0_0 l0_1 l0_2 ((rd_T80 l0_2 a1).f0) ((rd_T80 l0_2 a1).f1) ((rd_T80 l0_2 a1).f2) ((rd_T80 l0_2 a1).f3) ((rd_T91 l0_1 t149).f0) ((rd_T91 l0_1 t149).f1) ((rd_T91 l0_1 t149).f2) ((rd_T91 l0_1 t149).f3) ((rd_T91 l0_1 t149).f4) ((rd_T91 l0_1 t149).f5) ((rd_T91 l0_1 t149).f6) ((rd_T91 l0_1 t149).f7) ((rd_T91 l0_1 t149).f8) = some r) ∧ Aside0 (kq ≤ k) ∧ Aside0 (Kd.S (Kd.slice 2 (Kd.int .i64)) 47 w' w.heap.size (fun _ => True) v7 x7_1) ∧ Aside0 (w'.heap[gb146]? = some (.cells #[(.slice A0_0 l0_0.length c0_0), (.slice (some ad150) l0_1.length c0_1), (.slice (some ad147) l0_2.length c0_2)] 35 (0, 0))) ∧ Aside0 (w'.heap[gb148]? = some (.cells #[.int .i64 ((rd_T80 l0_2 a1).f0), .int .i64 ((rd_T80 l0_2 a1).f1), .string ((rd_T80 l0_2 a1).f2), .int .i64 ((rd_T80 l0_2 a1).f3)] 80 (0, 0))) ∧ Aside0 (w'.heap[gb151]? = some (.cells #[.string ((rd_T91 l0_1 t149).f0), .int .i64 ((rd_T91 l0_1 t149).f1), .int .i64 ((rd_T91 l0_1 t149).f2), .int .i64 ((rd_T91 l0_1 t149).f3), .int .i64 ((rd_T91 l0_1 t149).f4), .int .i64 ((rd_T91 l0_1 t149).f5), .int .i64 ((rd_T91 l0_1 t149).f6), .int .i64 ((rd_T91 l0_1 t149).f7), .int .i64 ((rd_T91 l0_1 t149).f8)] 91 (0, 0))) ∧ Aside0 (Below w.heap.size w w'))
     case atStart => exact ⟨(y152), (0), Za, H', ⟨Nat.le_refl _⟩, ⟨(Zam HO154)⟩, ⟨(Zai BK146)⟩, ⟨(Zai BK148)⟩, ⟨(Zai BK151)⟩, ⟨(Zk GE146 GE148 GE151)⟩⟩
     case round =>
      clear H'
      try clear c1
      try clear p1
      try clear q1
      try clear hx1
      try clear p2
      try clear c3
      try clear c3b0
      try clear c4
      try clear c4b0
      try clear c5
      try clear c6
      try clear c6b0
      try clear c7
      try clear c7b0
      try clear c11
      try clear p14
      try clear q14
      try clear hx14
      try clear p15
      try clear q15
      try clear hx15
      try clear hx147_0
      try clear hx147_1
      try clear hx147_2
      try clear hx147_3
      try clear hx150_0
      try clear hx150_1
      try clear hx150_2
      try clear hx150_3
      try clear hx150_4
      try clear hx150_5
      try clear hx150_6
      try clear hx150_7
      try clear hx150_8
      try clear p147
      try clear p150
      try clear q147
      try clear q150
      obtain ⟨x7_1, x8_1, rfl, HA, HK1, HO_7, BK146, BK148, BK151, HB⟩ := hrel
      cases gk with
      | zero => exact absurd HA.out (by simp [spec_l09Cue.l0])
      | succ k1 =>
       have H := HA.out; clear HA; simp only [spec_l09Cue.l0] at H
       by_cases c28 : x8_1 < ((rd_T91 l0_1 t149).f5)
       ·rw [if_pos c28] at H
        have c28b0 := decide_eq_true c28; clear c28; replace H := Option.bind_eq_some_iff.mp H; obtain ⟨t155, A290, H⟩ := H; have A29 := am_ A290; clear A290; replace H := Option.bind_eq_some_iff.mp H; obtain ⟨t156, A300, H⟩ := H; have A30 := am_ A300; clear A300
        by_cases c31 : 0 < (t156.length : Int)
        ·rw [if_pos c31] at H
         have c31b0 := decide_eq_true c31; have c31b1 : decide (0 < t156.length) = true := decide_eq_true (by omega); clear c31
         by_cases c32 : 1 < (t156.length : Int)
         ·rw [if_pos c32] at H
          have c32b0 := decide_eq_true c32; have c32b1 : decide (1 < t156.length) = true := decide_eq_true (by omega); clear c32; obtain ⟨y161, hy161⟩ : ∃ y_ : List Int, y_ = (([rd t156 0, rd t156 1, a1] : List Int)) := ⟨_, rfl⟩
          (first | (rw [← hy161] at H; with_reducible replace H := bindZ H) | rw [← hy161] at H | skip)
          have Ny161 := am_ hy161; clear hy161
          by_cases c33 : x7_1.length < 5864062014805
          ·rw [if_pos c33] at H
           have LMc33 := am_ c33; clear c33; obtain ⟨y164, hy164⟩ : ∃ y_ : List (List Int), y_ = (x7_1 ++ [y161]) := ⟨_, rfl⟩
           (first | (rw [← hy164] at H; with_reducible replace H := bindZ H) | rw [← hy164] at H | skip)
           have Ny164 := am_ hy164; clear hy164; have H' := am_ H; clear H; have hnb34 := NB151_146.out; have hnc34 := NB146_151.out; have hnb35 := NB151_148.out; have hnc35 := NB148_151.out; refine ci9 BK151 ?_; intros
           try go_wp2
           replace HO_7 := am_ (Kd.S_drew HO_7.out); replace BK146 := am_ (blk_drew BK146.out); replace BK148 := am_ (blk_drew BK148.out); replace BK151 := am_ (blk_drew BK151.out); replace HB := am_ (below_drew1 HB.out); refine start_ (n := 7) (S := fun w' => w'.cell? ⟨gb151, 0, none⟩ = some (.string ((rd_T91 l0_1 t149).f0)) ∧ w'.cell? ⟨gb151, 1, none⟩ = some (.int .i64 ((rd_T91 l0_1 t149).f1)) ∧ w'.cell? ⟨gb151, 2, none⟩ = some (.int .i64 ((rd_T91 l0_1 t149).f2)) ∧ w'.cell? ⟨gb151, 3, none⟩ = some (.int .i64 ((rd_T91 l0_1 t149).f3)) ∧ w'.cell? ⟨gb151, 4, none⟩ = some (.int .i64 ((rd_T91 l0_1 t149).f4)) ∧ w'.cell? ⟨gb151, 5, none⟩ = some (.int .i64 ((rd_T91 l0_1 t149).f5)) ∧ w'.cell? ⟨gb151, 6, none⟩ = some (.int .i64 ((rd_T91 l0_1 t149).f6)) ∧ w'.cell? ⟨gb151, 7, none⟩ = some (.int .i64 ((rd_T91 l0_1 t149).f7)) ∧ w'.cell? ⟨gb151, 8, none⟩ = some (.int .i64 ((rd_T91 l0_1 t149).f8)) ∧ w'.cell? ⟨gb146, 0, none⟩ = some (.slice A0_0 l0_0.length c0_0) ∧ w'.cell? ⟨gb146, 1, none⟩ = some (.slice (some ad150) l0_1.length c0_1) ∧ w'.cell? ⟨gb146, 2, none⟩ = some (.slice (some ad147) l0_2.length c0_2) ∧ w'.cell? ⟨gb148, 0, none⟩ = some (.int .i64 ((rd_T80 l0_2 a1).f0)) ∧ w'.cell? ⟨gb148, 1, none⟩ = some (.int .i64 ((rd_T80 l0_2 a1).f1)) ∧ w'.cell? ⟨gb148, 2, none⟩ = some (.string ((rd_T80 l0_2 a1).f2)) ∧ w'.cell? ⟨gb148, 3, none⟩ = some (.int .i64 ((rd_T80 l0_2 a1).f3))) (ds := []) (bT 7 0) Zi rfl rfl ⟨(blk_cell BK151.out 0).trans rfl, (blk_cell BK151.out 1).trans rfl, (blk_cell BK151.out 2).trans rfl, (blk_cell BK151.out 3).trans rfl, (blk_cell BK151.out 4).trans rfl, (blk_cell BK151.out 5).trans rfl, (blk_cell BK151.out 6).trans rfl, (blk_cell BK151.out 7).trans rfl, (blk_cell BK151.out 8).trans rfl, (blk_cell BK146.out 0).trans rfl, (blk_cell BK146.out 1).trans rfl, (blk_cell BK146.out 2).trans rfl, (blk_cell BK148.out 0).trans rfl, (blk_cell BK148.out 1).trans rfl, (blk_cell BK148.out 2).trans rfl, (blk_cell BK148.out 3).trans rfl⟩ (fun hHeld => ?_); generalize wr.drew = w37 at HO_7 BK146 BK148 BK151 HB hHeld ⊢; refine pure_ (i := 4) (N := some 35) (v := ?_) (a' := ?_) (bB 7 16) rfl rfl Zi (fun _ _ _ h => h) (Or.inl ⟨by rfl, ?_⟩) ?_ ?_; rotate_left
           ·intro w'
            go_simp
            with_reducible rfl
           rotate_left
           ·exact Zput
           refine take_ (i := 0) (N := some 31) (v := ?_) (a' := ?_) (bB 7 17) rfl rfl Zi (fun _ _ _ h => h) (Or.inl ⟨by rfl, ?_⟩) hHeld ?_ ?_; rotate_left
           ·rintro w' ⟨s0, s1, s2, s3, s4, s5, s6, s7, s8, s9, s10, s11, s12, s13, s14, s15⟩
            go_simp
            with_reducible rfl
           rotate_left
           ·exact Zput
           refine take_ (i := 1) (N := some 32) (v := ?_) (a' := ?_) (bB 7 19) rfl rfl Zi (fun _ _ _ h => h) (Or.inl ⟨by rfl, ?_⟩) hHeld ?_ ?_; rotate_left
           ·rintro w' ⟨s0, s1, s2, s3, s4, s5, s6, s7, s8, s9, s10, s11, s12, s13, s14, s15⟩
            go_simp
            with_reducible rfl
           rotate_left
           ·exact Zput
           refine take_ (i := 2) (N := some 33) (v := ?_) (a' := ?_) (bB 7 23) rfl rfl Zi (fun _ _ _ h => h) (Or.inl ⟨by rfl, ?_⟩) hHeld ?_ ?_; rotate_left
           ·rintro w' ⟨s0, s1, s2, s3, s4, s5, s6, s7, s8, s9, s10, s11, s12, s13, s14, s15⟩
            go_simp
            with_reducible rfl
           rotate_left
           ·exact Zput
           refine one_ (i := 3) (N := some 34) (bT 7 5) rfl rfl Zi (by decide) (fun K hK => ?_); refine goes_ Try.func53 Zi rfl #[.agg #[.slice A0_0 l0_0.length c0_0, .slice (some ad150) l0_1.length c0_1, .slice (some ad147) l0_2.length c0_2], .agg #[.int .i64 ((rd_T80 l0_2 a1).f0), .int .i64 ((rd_T80 l0_2 a1).f1), .string ((rd_T80 l0_2 a1).f2), .int .i64 ((rd_T80 l0_2 a1).f3)]] (by rfl) rfl rfl Zr ?_
           with_reducible refine (spec_l08Time.calls k1 _ _ l0_0 _ _ l0_1 _ _ l0_2 ((rd_T80 l0_2 a1).f0) ((rd_T80 l0_2 a1).f1) ((rd_T80 l0_2 a1).f2) ((rd_T80 l0_2 a1).f3) t155 _ ?side1 ?side2 ?side3 ?side4 ?side5 ?side6 A29.out).mono ?_
           (case side1 => exact (Zz HR0_0))
           (case side2 => exact HC0_0.out)
           (case side3 => exact (Zz HR0_1))
           (case side4 => exact HC0_1.out)
           (case side5 => exact (Zz HR0_2))
           (case side6 => exact HC0_2.out)
           rintro e w38 ⟨rfl, hb⟩; refine ⟨_, rfl, ?_⟩; replace HO_7 := am_ (Kd.S_below (Zam HO_7) hb); replace BK146 := (bkZ BK146 hb); replace BK148 := (bkZ BK148 hb); replace BK151 := (bkZ BK151 hb); replace HB := (bsZ (Zk GE146 GE148 GE151) hb)
           (try clear hb)
           (try clear hb2)
           (try clear hk)
           (try clear hi)
           refine hK.out _ _ (Zan BK151 BK146 BK148) (fun hHeld => ?_); clear hK K; refine normZ 34 ?_; refine one_ (i := 5) (N := some 36) (bT 7 6) rfl rfl Zi (by decide) (fun K hK => ?_); refine goes_ Try.func75 Zi rfl #[.agg #[.string ((rd_T91 l0_1 t149).f0), .int .i64 ((rd_T91 l0_1 t149).f1), .int .i64 ((rd_T91 l0_1 t149).f2), .int .i64 ((rd_T91 l0_1 t149).f3), .int .i64 ((rd_T91 l0_1 t149).f4), .int .i64 ((rd_T91 l0_1 t149).f5), .int .i64 ((rd_T91 l0_1 t149).f6), .int .i64 ((rd_T91 l0_1 t149).f7), .int .i64 ((rd_T91 l0_1 t149).f8)], .int .i64 t155, .int .i64 x8_1] (by rfl) rfl rfl Zr ?_
           with_reducible refine (spec_l03Window.calls ((rd_T91 l0_1 t149).f0) ((rd_T91 l0_1 t149).f1) ((rd_T91 l0_1 t149).f2) ((rd_T91 l0_1 t149).f3) ((rd_T91 l0_1 t149).f4) ((rd_T91 l0_1 t149).f5) ((rd_T91 l0_1 t149).f6) ((rd_T91 l0_1 t149).f7) ((rd_T91 l0_1 t149).f8) t155 x8_1 t156 _ A30.out).mono ?_
           rintro e w39 ⟨v157, rfl, ho0, hb⟩; refine ⟨_, rfl, ?_⟩; replace HO_7 := am_ (Kd.S_elder' (Zam HO_7) (Kd.R_base ho0) hb); replace HO158 := am_ (Kd.R_lower ho0 (below_size (Zk GE146 GE148 GE151))); replace BK146 := (bkZ BK146 hb); replace BK148 := (bkZ BK148 hb); replace BK151 := (bkZ BK151 hb); replace HB := (bsZ (Zk GE146 GE148 GE151) hb)
           (try clear hb)
           (try clear hb2)
           (try clear hk)
           (try clear hi)
           (try clear ho0)
           refine hK.out _ _ (Zan BK151 BK146 BK148) (fun hHeld => ?_); clear hK K; refine normZ 36 ?_; refine pure_ (i := 6) (N := some 9) (v := ?_) (a' := ?_) (bT 7 7) rfl rfl Zi (fun _ _ _ h => h) (Or.inl ⟨by rfl, ?_⟩) ?_ ?_; rotate_left
           ·intro w'
            go_simp
            with_reducible rfl
           rotate_left
           ·exact Zput
           refine done_ Zi ?_
           try go_wp2
           replace HO_7 := am_ (Kd.S_drew HO_7.out); replace HO158 := am_ (Kd.R_drew HO158.out); replace BK146 := am_ (blk_drew BK146.out); replace BK148 := am_ (blk_drew BK148.out); replace BK151 := am_ (blk_drew BK151.out); replace HB := am_ (below_drew1 HB.out); obtain ⟨Ao41, co41, eo41⟩ := Kd.R_slice HO158.out
           (first | subst eo41 | (injection eo41 with f1_ f2_ f3_; have f4_ := f1_.symm; have f5_ := f3_.symm; clear f1_ f2_ f3_; subst f4_; subst f5_))
           have p159 : 0 ≤ (0 : Int) := (by omega); have q159 : 0 < (t156.length : Int) := of_decide_eq_true Zn; obtain ⟨ad159, e159, hx159_0⟩ := Kd.at_int (Kd.R_reads' HO158.out).2.2 0 p159 q159
           cases e159
           have qi159 : (0 < t156.length) = True := eq_true (by omega)
           (try rw [show ((0 : Int)).toNat = 0 from rfl] at hx159_0)
           (try rw [Addr.add_zero'] at hx159_0)
           replace p159 := eq_true p159; replace q159 := eq_true q159; have p160 : 0 ≤ (1 : Int) := (by omega); have q160 : 1 < (t156.length : Int) := of_decide_eq_true Zn; obtain ⟨ad160, e160, hx160_0⟩ := Kd.at_int (Kd.R_reads' HO158.out).2.2 1 p160 q160; obtain rfl : ad159 = ad160 := (by injection e160)
           (try simp only [show (1 : Int).toNat = 1 from rfl, Nat.reduceMul, Nat.reduceEqDiff, Go.Addr.add, ↓reduceIte] at hx160_0)
           have qi160 : (1 < t156.length) = True := eq_true (by omega)
           (try rw [show ((1 : Int)).toNat = 1 from rfl] at hx160_0)
           replace p160 := eq_true p160; replace q160 := eq_true q160; refine start_ (n := 12) (S := fun w' => w'.cell? ad159 = some (.int .i64 (rd t156 0)) ∧ w'.cell? ⟨ad159.block, ad159.off + 1, none⟩ = some (.int .i64 (rd t156 1))) (ds := [9, 10]) (bT 12 0) Zi rfl rfl ⟨hx159_0, hx160_0⟩ (fun hHeld => ?_); refine with_tabW spec_l09Cue.tab8 spec_l09Cue.bits8 (fun HT_ HW_ => ?_); generalize w39.drew = w40 at HO_7 HO158 BK146 BK148 BK151 HB hx159_0 hx160_0 hHeld ⊢; refine pureZ HT_ 0 (some 37) (bT 12 1) ?_; refine pureZ HT_ 1 (some 38) (bT 12 2) ?_; refine pureZ HT_ 2 (some 39) (bT 12 3) ?_; refine pureZ HT_ 4 (some 41) (bB 12 23) ?_; refine pureZ HT_ 5 (some 42) (bB 12 55) ?_; refine pureZ HT_ 7 (some 44) (bB 12 183) ?_; refine takeZ2 HT_ HW_ 3 (some 40) (bB 12 191) hHeld ?_; refine takeZ2 HT_ HW_ 6 (some 43) (bT 12 8) hHeld ?_; refine one_ (i := 8) (N := some 45) (bT 12 9) rfl rfl (one_of HT_.out Zi) (by decide) (fun K hK => ?_); refine Kd.R_lit_step (Kd.int .i64) _ 2 ?hg (N := 45) ?hd (xs := ([rd t156 0, rd t156 1, a1] : List Int)) (inner := [.int .i64 (rd t156 0), .int .i64 (rd t156 1), .int .i64 a1]) (ok := fun _ => True) (okp := fun _ => True) ?hr ?hp (fun _ hk => hk) trivial (Below.refl _ _) (Nat.le_refl _) (by simp) ?_; (case hd => rfl); (case hg => rfl); (case hr => first | (go_simp; done) | (go_simp; rfl)); (case hp => exact (Reps.one (show Kd.M (Kd.int .i64) _ _ _ (rd t156 0) [.int .i64 (rd t156 0)] from rfl) (Reps.one (show Kd.M (Kd.int .i64) _ _ _ (rd t156 1) [.int .i64 (rd t156 1)] from rfl) (Reps.one (show Kd.M (Kd.int .i64) _ _ _ a1 [.int .i64 a1] from rfl) (Reps.none _ _))))); intro v162 w42 ho43 hb hg_ hnew_; have HS0_ := (hb.cell (World.block_lt_of_cell? _ _ (hHeld.1))).trans (hHeld.1); have HS1_ := (hb.cell (World.block_lt_of_cell? _ _ (hHeld.2))).trans (hHeld.2); clear hg_ hnew_
           (first | rw [← Ny161.out] at ho43 | (simp only [Int.reduceToNat] at ho43; rw [← Ny161.out] at ho43))
           replace HO_7 := am_ (Kd.S_elder' (Zam HO_7) (Kd.R_base ho43) hb); replace HO163 := am_ (Kd.R_lower (Kd.R_new' ho43 (Kd.R_lt (Zo HO158))) (below_size (Zk GE146 GE148 GE151))); replace HO158 := am_ (Kd.R_elder' (Zo HO158) (Kd.R_base ho43) hb); replace BK146 := (bkZ BK146 hb); replace BK148 := (bkZ BK148 hb); replace BK151 := (bkZ BK151 hb); replace HB := (bsZ (Zk GE146 GE148 GE151) hb); clear hb ho43; obtain ⟨Ao45, co45, eo45⟩ := Kd.R_slice HO163.out
           (first | subst eo45 | (injection eo45 with f1_ f2_ f3_; have f4_ := f1_.symm; have f5_ := f3_.symm; clear f1_ f2_ f3_; subst f4_; subst f5_))
           refine hK.out _ _ ⟨HS0_, HS1_⟩ (fun hHeld => ?_); clear hK K; refine normZ 45 ?_; refine last_ (i := 9) (N := some 46) (bT 12 10) rfl rfl (one_of HT_.out Zi) (by decide) (fun K hK => ?_); refine value_ (w1 := ?_) (v := ?_) (by rfl) rfl ?_ ?_; rotate_left 2
           ·go_simp
            constructor
            ·rfl
            ·rfl
           refine hK.out _ _ ?_; clear hK K; refine normZ 46 ?_; refine last_ (i := 10) (N := some 47) (bT 12 11) rfl rfl (one_of HT_.out Zi) (by decide) (fun K hK => ?_); refine Kd.S_append_step (Kd.slice 2 (Kd.int .i64)) (w0 := w) w.heap.size (by rfl) (.tmp 37) (.tmp 46) 28 47 (.slice none 0 0) 24 rfl Try.underlying28 info47 rfl (by decide) (by omega) u7 x7_1 y161 [.slice Ao45 y161.length co45] (fun k_ => some k_ ≠ (.slice (some ad159) t156.length co41 : Value).ownBlock) (fun k_ => some k_ = (.slice Ao45 y161.length co45 : Value).ownBlock) rfl rfl ?aP (fun k_ hk_ => ((Kd.R_mono (ok' := fun k_ => ((fun k_ => some k_ ≠ (.slice (some ad159) t156.length co41 : Value).ownBlock)) k_ ∧ some k_ ≠ (u7 : Value).ownBlock) (Kd.R_apart' (HO163.out) (Kd.S_typed HO_7.out) (by decide)) (fun k_ hk => ⟨hk.1.2, hk.2⟩))).1 k_ hk_.symm) ?aF ?aO ?aB ?aS ?aL ?_
           (case aP => exact Kd.M_row (Kd.R_mono (Kd.R_tight rfl (Kd.R_mono (ok' := fun k_ => ((fun k_ => some k_ ≠ (.slice (some ad159) t156.length co41 : Value).ownBlock)) k_ ∧ some k_ ≠ (u7 : Value).ownBlock) (Kd.R_apart' (HO163.out) (Kd.S_typed HO_7.out) (by decide)) (fun k_ hk => ⟨hk.1.2, hk.2⟩))) (fun _ h_ => h_)))
           (case aB => exact (Zk GE146 GE148 GE151))
           (case aF => exact (fun k_ hk => Kd.fresh' (Kd.R_lt (Zo HO158)) k_ hk))
           (case aO => exact (by (with_reducible repeat (first | apply Kd.S_alloc | apply Kd.S_drewN | apply Kd.S_drew)); exact Kd.S_mono HO_7.out (fun k_ hk => ⟨hk.1.2, fun e_ => hk.2 e_⟩)))
           (case aS => exact (below_size (Zk GE146 GE148 GE151)))
           (case aL => have := LMc33.out; omega)
           intro v165 w44 ho hb hg hat; rw [← Ny164.out] at ho; replace BK146 := am_ (blk_grown (g := gb146) (b0Z BK146) hg (Kd.S_ne HO_7.out BK146.out (by decide))); replace BK148 := am_ (blk_grown (g := gb148) (b0Z BK148) hg (Kd.S_ne HO_7.out BK148.out (by decide))); replace BK151 := am_ (blk_grown (g := gb151) (b0Z BK151) hg (Kd.S_ne HO_7.out BK151.out (by decide))); replace HO158 := am_ (Kd.R_over' (Zo HO158) (Kd.S_typed (Zam HO_7)) (by decide) hg); replace HB := am_ (hb); replace HO166 := am_ (ho); clear HO_7 HO163; clear ho hb hg hat; refine hK.out _ _ ?_; clear hK K; refine normZ 47 ?_; refine pureZ HT_ 11 (some 7) (bT 12 12) ?_; refine done_ (done_of HT_.out Zi) ?_
           try go_wp2
           go_roundg k1
           case measure => have := HK1.out; omega
           case rel => exact ⟨(y164), (wrap64 (x8_1 + 1)), Za, H', ⟨Zs⟩, ⟨(Zao HO166)⟩, ⟨(Zai BK146)⟩, ⟨(Zai BK148)⟩, ⟨(Zai BK151)⟩, ⟨(Zk GE146 GE148 GE151)⟩⟩
          ·rw [if_neg c33] at H
           exact absurd H (by simp)
         ·rw [if_neg c32] at H
          exact absurd H (by simp)
        ·rw [if_neg c31] at H
         exact absurd H (by simp)
       ·rw [if_neg c28] at H
        have c28b0 := decide_eq_false c28; clear c28; obtain rfl := Option.some.inj H; have hnb46 := NB151_146.out; have hnc46 := NB146_151.out; have hnb47 := NB151_148.out; have hnc47 := NB148_151.out; refine ci9 BK151 ?_; intros
        go_wp2
        go_ret
        exact ⟨_, Zj, (Zam HO_7), (Zk GE146 GE148 GE151)⟩
    ·rw [if_neg c7] at H
     exact absurd H (by simp)
   ·rw [if_neg c6] at H
    exact absurd H (by simp)
  ·rw [if_neg c4] at H
   exact absurd H (by simp)
 ·rw [if_neg c3] at H
  exact absurd H (by simp)
def spec_l09All.l0 : Nat → List (List Int) → Int → List (S87) → List (S91) → List (S80) → Option ((List (List Int)))
 | 0, _, _, _, _, _ => none
 | k + 1, x3, x4, x168000, x168001, x168002 => if x4 < (x168002.length : Int) then ((spec_l09Cue.f k x168000 x168001 x168002 x4).bind fun t171 => (if x3.length + t171.length < 5864062014805 then (spec_l09All.l0 k (x3 ++ t171) (wrap64 (x4 + 1)) x168000 x168001 x168002) else (none))) else (some x3)
def spec_l09All.f (k : Nat) (l0_0 : List (S87)) (l0_1 : List (S91)) (l0_2 : List (S80)) : Option ((List (List Int))) := spec_l09All.l0 k (([] : List (List Int))) 0 l0_0 l0_1 l0_2
set_option maxHeartbeats 8000000 in
set_option maxRecDepth 100000 in
theorem spec_l09All.calls (k : Nat) (A0_0 : Option Addr) (c0_0 : Nat) (l0_0 : List (S87)) (A0_1 : Option Addr) (c0_1 : Nat) (l0_1 : List (S91)) (A0_2 : Option Addr) (c0_2 : Nat) (l0_2 : List (S80)) (r : List (List Int)) (w : World) (hr0_0 : Kd.C k87 w A0_0 l0_0.length l0_0) (hc0_0 : l0_0.length ≤ c0_0) (hr0_1 : Kd.C k91 w A0_1 l0_1.length l0_1) (hc0_1 : l0_1.length ≤ c0_1) (hr0_2 : Kd.C k80 w A0_2 l0_2.length l0_2) (hc0_2 : l0_2.length ≤ c0_2) (h : spec_l09All.f k l0_0 l0_1 l0_2 = some r) :
  Calls Try.prog 25 #[.agg #[.slice A0_0 l0_0.length c0_0, .slice A0_1 l0_1.length c0_1, .slice A0_2 l0_2.length c0_2]] w fun e w' => ∃ v0_ : Value, e = .returned (v0_) ∧ Kd.N (Kd.slice 2 (Kd.int .i64)) 47 w' w.heap.size (fun k_ => (w.heap.size ≤ k_)) v0_ r ∧ Below w.heap.size w w' := by
 have hu35 := Try.underlying35; have HR0_0 := am_ hr0_0; have HC0_0 := am_ hc0_0; clear hr0_0 hc0_0; have HR0_1 := am_ hr0_1; have HC0_1 := am_ hc0_1; clear hr0_1 hc0_1; have HR0_2 := am_ hr0_2; have HC0_2 := am_ hc0_2; clear hr0_2 hc0_2; have HB := am_ (Below.refl w.heap.size w); have H : (spec_l09All.l0 k (([] : List (List Int))) 0 l0_0 l0_1 l0_2) = some r := h; clear h; obtain ⟨y168, hy168⟩ : ∃ y_ : List (List Int), y_ = (([] : List (List Int))) := ⟨_, rfl⟩
 replace H : (spec_l09All.l0 k y168 0 l0_0 l0_1 l0_2) = some r := by (try rw [hy168]); first | with_reducible exact H | with_reducible exact (Option.bind_some _ _).symm.trans H | exact H
 have Ny168 := am_ hy168; clear hy168; have H' := am_ H; clear H
 go_enter Try.func25, Try.ntmps25
 go_wp2_with (first | ((with_reducible refine gate_dst (N := 1) rfl ?_); refine boxZ 1 #[.slice A0_0 l0_0.length c0_0, .slice A0_1 l0_1.length c0_1, .slice A0_2 l0_2.length c0_2] 35 ?_; intro gb167 hg w2 hbox hb; replace BK167 := am_ (hbox); replace GW167 := am_ ((Zc : w.heap.size ≤ gb167)); replace GE167 := GW167; replace HB := (bsZ Zd hb); clear hb hbox hg) | ((with_reducible refine gate_dst (N := 5) rfl ?_); refine Kd.N_lit (Kd.slice 2 (Kd.int .i64)) _ 47 ?hg (N' := 5) ?hd (xs := ([] : List (List Int))) (inner := []) (ok := (fun k_ => (w.heap.size ≤ k_) ∧ k_ ≠ gb167)) (okp := (fun k_ => (w.heap.size ≤ k_) ∧ k_ ≠ gb167)) ?hr ?hp (fun _ hk => hk) ((show ∀ k_, w2.heap.size ≤ k_ → (fun k_ => (w.heap.size ≤ k_) ∧ k_ ≠ gb167) k_ from fun k_ hk => ⟨(Nat.le_trans (below_size (Zf GE167)) hk), Kd.freshB (g := gb167) (b0Z BK167) k_ hk⟩) _ (Nat.le_refl _)) (Below.refl _ _) (Nat.le_refl _) (by simp) ?_; (case hd => rfl); (case hg => rfl); (case hr => first | (go_simp; done) | (go_simp; rfl)); (case hp => exact (Reps.none _ _)); intro v169 w3 ho4 hb hg_ hnew_; clear hg_ hnew_; (first | rw [← Ny168.out] at ho4 | (simp only [Int.reduceToNat] at ho4; rw [← Ny168.out] at ho4)); replace HO170 := am_ (Kd.N_lower ho4 (below_size (Zf GE167))); replace BK167 := (bkZ BK167 hb); replace HB := (bsZ (Zf GE167) hb); clear hb ho4))
 go_loopg [3, 4] k (fun kq v3 v4 w' => ∃ (x3_1 : List (List Int)) (x4_1 : Int), v4 = .int .i64 x4_1 ∧ Aside0 (spec_l09All.l0 kq x3_1 x4_1 l0_0 l0_1 l0_2 = some r) ∧ Aside0 (kq ≤ k) ∧ Aside0 (Kd.N (Kd.slice 2 (Kd.int .i64)) 47 w' w.heap.size (fun k_ => (w.heap.size ≤ k_) ∧ k_ ≠ gb167) v3 x3_1) ∧ Aside0 (w'.heap[gb167]? = some (.cells #[(.slice A0_0 l0_0.length c0_0), (.slice A0_1 l0_1.length c0_1), (.slice A0_2 l0_2.length c0_2)] 35 (0, 0))) ∧ Aside0 (Below w.heap.size w w'))
 case atStart => exact ⟨(y168), (0), Za, H', ⟨Nat.le_refl _⟩, ⟨(Zap HO170)⟩, ⟨(Zai BK167)⟩, ⟨(Zf GE167)⟩⟩
 case round =>
  clear H'
  try clear c2
  try clear p2
  obtain ⟨x3_1, x4_1, rfl, HA, HK1, HO_3, BK167, HB⟩ := hrel
  cases gk with
  | zero => exact absurd HA.out (by simp [spec_l09All.l0])
  | succ k1 =>
   have H := HA.out; clear HA; simp only [spec_l09All.l0] at H
   by_cases c5 : x4_1 < (l0_2.length : Int)
   ·rw [if_pos c5] at H
    have c5b0 := decide_eq_true c5; clear c5; replace H := Option.bind_eq_some_iff.mp H; obtain ⟨t171, A60, H⟩ := H; have A6 := am_ A60; clear A60
    by_cases c7 : x3_1.length + t171.length < 5864062014805
    ·rw [if_pos c7] at H
     have LMc7 := am_ c7; clear c7; obtain ⟨y174, hy174⟩ : ∃ y_ : List (List Int), y_ = (x3_1 ++ t171) := ⟨_, rfl⟩
     (first | (rw [← hy174] at H; with_reducible replace H := bindZ H) | rw [← hy174] at H | skip)
     have Ny174 := am_ hy174; clear hy174; have H' := am_ H; clear H; refine ci3 BK167 ?_; intros
     go_wp2_with (first | ((with_reducible refine gate_callee (f := 54) rfl ?_); refine gZ 16 Try.func54 #[.agg #[.slice A0_0 l0_0.length c0_0, .slice A0_1 l0_1.length c0_1, .slice A0_2 l0_2.length c0_2], .int .i64 x4_1] ?_; (with_reducible refine (spec_l09Cue.calls k1 _ _ l0_0 _ _ l0_1 _ _ l0_2 x4_1 t171 _ ?_ ?_ ?_ ?_ ?_ ?_ A6.out).mono ?_); exact (Zz HR0_0); exact HC0_0.out; exact (Zz HR0_1); exact HC0_1.out; exact (Zz HR0_2); exact HC0_2.out; rintro e w9 ⟨v172, rfl, ho0, hb⟩; refine ⟨_, rfl, ?_⟩; replace HO173 := am_ (Kd.N_lower (Kd.N_mono (ok' := fun k_ => (w.heap.size ≤ k_) ∧ some k_ ≠ (u3 : Value).ownBlock ∧ k_ ≠ gb167) (Kd.S_N (Kd.S_bound ho0)) (fun k_ hk_ => ⟨(Nat.le_trans (below_size (Zf GE167)) hk_.2.1), (Kd.fresh' (Kd.N_lt (Zap HO_3)) k_ hk_.2.1), (Kd.freshB (g := gb167) (b0Z BK167) k_ hk_.2.1)⟩)) (below_size (Zf GE167))); replace HO_3 := am_ (Kd.N_elder' (Zap HO_3) (Kd.S_base ho0) hb); replace BK167 := (bkZ BK167 hb); replace HB := (bsZ (Zf GE167) hb); clear hb ho0; obtain ⟨Ao11, co11, eo11⟩ := Kd.N_slice HO173.out; subst eo11) | ((with_reducible refine gate_builtin (b := .append) (xs := #[.tmp 13, .tmp 16]) rfl ?_); at_builtin; refine Kd.N_append_rows (Kd.slice 2 (Kd.int .i64)) (w0 := w) w.heap.size rfl (.tmp 13) (.tmp 16) 28 47 (.slice none 0 0) 24 rfl Try.underlying28 info47 rfl (by decide) (by omega) u3 x3_1 t171 _ _ _ (fun k_ => (w.heap.size ≤ k_) ∧ k_ ≠ gb167) (fun k_ => ((fun k_ => (w.heap.size ≤ k_) ∧ k_ ≠ gb167)) k_ ∧ some k_ ≠ (u3 : Value).ownBlock) rfl rfl ?aO ?aR (fun _ hk => hk) ?aF ?aB ?aS ?aL ?_; (case aR => exact (by skip; exact Kd.N_F (Kd.N_mono (ok' := (fun k_ => ((fun k_ => (w.heap.size ≤ k_) ∧ k_ ≠ gb167)) k_ ∧ some k_ ≠ (u3 : Value).ownBlock)) (HO173.out) (fun k_ hk => ⟨⟨hk.1, hk.2.2⟩, hk.2.1⟩)))); (case aB => exact (Zf GE167)); (case aF => exact (fun k_ hk => ⟨(Nat.le_trans (below_size (Zf GE167)) hk), Kd.freshB (g := gb167) (b0Z BK167) k_ hk⟩)); (case aO => exact (by (with_reducible repeat (first | apply Kd.N_alloc | apply Kd.N_drewN | apply Kd.N_drew)); exact Kd.N_mono HO_3.out (fun _ hk => ⟨hk.1.1, hk.1.2⟩))); (case aS => exact (below_size (Zf GE167))); (case aL => have := LMc7.out; omega); intro v175 w10 ho hb hg hat; rw [← Ny174.out] at ho; replace BK167 := am_ (blk_grown (g := gb167) (b0Z BK167) hg (Kd.N_ne HO_3.out BK167.out (by decide))); replace HO173 := am_ (Kd.N_afterv (ok := (fun k_ => (w.heap.size ≤ k_) ∧ k_ ≠ gb167)) (by (with_reducible repeat (first | apply Kd.N_alloc | apply Kd.N_drewN | apply Kd.N_drew)); exact Kd.N_mono HO173.out (fun _ hk => ⟨⟨hk.1, hk.2.2⟩, hk.2.1⟩)) hg hat); replace HB := am_ (hb); replace HO176 := am_ (ho); clear HO_3; clear ho hb hg hat))
     go_roundg k1
     case measure => have := HK1.out; omega
     case rel => exact ⟨(y174), (wrap64 (x4_1 + 1)), Za, H', ⟨Zs⟩, ⟨(Zap HO176)⟩, ⟨(Zai BK167)⟩, ⟨(Zf GE167)⟩⟩
    ·rw [if_neg c7] at H
     exact absurd H (by simp)
   ·rw [if_neg c5] at H
    have c5b0 := decide_eq_false c5; clear c5; obtain rfl := Option.some.inj H; refine ci3 BK167 ?_; intros
    go_wp2
    go_ret
    exact ⟨_, Zj, by (with_reducible repeat (first | apply Kd.N_alloc | apply Kd.N_drewN | apply Kd.N_drew)); exact Kd.N_mono HO_3.out (fun _ hk => hk.1), (Zf GE167)⟩
end Go.Proofs.Ytnifblnlpepehaa.F
