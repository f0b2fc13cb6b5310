import Derived.Test.YthhijbdekboahaaJFnCueChanges2
import Derived.Below
import Derived.Deep.Draws
import Derived.Deep.AppendLies
import Derived.Maps.AppendAt
import Derived.OwnWalk
import Derived.Laws.BytesArg
import Derived.Laws.MakeOwn
import Derived.Laws.OwnMore
import Derived.Tactics
import Derived.Lib.ConvBytes
import Derived.Laws.Slices
import Derived.WalkKit
import Derived.KernelRfl
import Derived.RowKit3
import Derived.Deep.LoopGhost
import Derived.Deep.QuietTactic
import Derived.BigQuiet
import Derived.WideLaws
import Derived.Deep.DeepCutAuto
import Derived.Deep.CutBlock
import Derived.Deep.RegionHeld3
import Derived.Lib.AppendStr
import Derived.ArgAppend
import Derived.Laws.IdiomCopy
import Derived.RowKit
import Derived.OrdersHeld
import Derived.Laws.BitsLemmas
import Derived.Laws.StructEq
import Derived.Test.YthhijbdekboahaaProg
import Derived.Laws.Cover1
namespace Go.Proofs.Ythhijbdekboahaa.F
open Go.RowKit Go.Proofs.YthhijbdekboahaaW.PrintWords Go.Proofs.YthhijbdekboahaaW.PrintLast Go.Proofs.YthhijbdekboahaaW.PrintMore
attribute [local go_sem] max2_int min2_int max_two min_two max_three min_three max_four min_four
set_option linter.unusedVariables false
set_option linter.unusedSimpArgs false
def spec_AddCue.f (k : Nat) (l0_0 : List (S104)) (l0_1 : List (S62)) (l0_2 : List (S39)) (a1_0 : Int) (a1_1 : Int) (a1_2 : ByteArray) (a1_3 : Int) : Option ((List (S104)) × (List (S62)) × (List (S39)) × Int) := (spec_IsShow.f k l0_0 l0_1 l0_2).bind fun t169 => (if t169 = true then (if (l0_2.length : Int) = 20 then (some (([] : List (S104)), ([] : List (S62)), ([] : List (S39)), 3)) else ((some (([] : List (S39)) : List (S39))).bind fun y170 => (if y170.length + l0_2.length < 3518437208883 then ((some (y170 ++ l0_2 : List (S39))).bind fun y173 => ((some (([(⟨a1_0, a1_1, a1_2, a1_3⟩ : S39)] : List (S39)) : List (S39))).bind fun y176 => (if y173.length + y176.length < 3518437208883 then ((spec_l08With.f l0_0 l0_1 l0_2 (y173 ++ y176)).bind fun bt182 => ((spec_IsShow.f k bt182.1 bt182.2.1 bt182.2.2).bind fun t192 => (if t192 = true then (some (bt182.1, bt182.2.1, bt182.2.2, 0)) else (some (([] : List (S104)), ([] : List (S62)), ([] : List (S39)), 5))))) else (none)))) else (none)))) else (some (([] : List (S104)), ([] : List (S62)), ([] : List (S39)), 1)))
def spec_AddCue.T5 : Bool × List (List Nat × List Nat) := (true, [([], []), ([], []), ([], []), ([2], [2]), ([1, 3], [1, 3]), ([], []), ([5], [5]), ([4, 6, 4], [4, 6]), ([0, 7, 7], [0, 7]), ([], []), ([9, 8, 8, 0, 1, 2, 3, 4, 5, 6, 7, 8, 9], [8, 9])])
def spec_AddCue.B5 : List Nat := [0, 0, 0, 4, 14, 0, 32, 126, 255, 0, 1023]
theorem spec_AddCue.tab5 : rtab .any (opsOf Try.f18 5) = spec_AddCue.T5 := by kernel_rfl
theorem spec_AddCue.bits5 : waitsOk spec_AddCue.T5.2 spec_AddCue.B5 = true := by kernel_rfl
set_option maxHeartbeats 8000000 in
set_option maxRecDepth 100000 in
theorem spec_AddCue.calls (k : Nat) (A0_0 : Option Addr) (c0_0 : Nat) (l0_0 : List (S104)) (A0_1 : Option Addr) (c0_1 : Nat) (l0_1 : List (S62)) (A0_2 : Option Addr) (c0_2 : Nat) (l0_2 : List (S39)) (a1_0 : Int) (a1_1 : Int) (a1_2 : ByteArray) (a1_3 : Int) (r1 : List (S104)) (r2 : List (S62)) (r3 : List (S39)) (r4 : Int) (w : World) (hr0_0 : Kd.C k104 w A0_0 l0_0.length l0_0) (hc0_0 : l0_0.length ≤ c0_0) (hr0_1 : Kd.C k62 w A0_1 l0_1.length l0_1) (hc0_1 : l0_1.length ≤ c0_1) (hr0_2 : Kd.C k39 w A0_2 l0_2.length l0_2) (hc0_2 : l0_2.length ≤ c0_2) (h : spec_AddCue.f k l0_0 l0_1 l0_2 a1_0 a1_1 a1_2 a1_3 = some (r1, r2, r3, r4)) :
  Calls Try.prog 18 #[.agg #[.slice A0_0 l0_0.length c0_0, .slice A0_1 l0_1.length c0_1, .slice A0_2 l0_2.length c0_2], .agg #[.int .i64 a1_0, .int .i64 a1_1, .string a1_2, .int .i64 a1_3]] w fun e w' => ∃ v0_ v1_ v2_ : Value, e = .returned (.tuple #[.agg #[v0_, v1_, v2_], .int .i64 r4]) ∧ Kd.R k104 104 w' w.heap.size (fun _ => True) v0_ r1 ∧ Kd.R k62 62 w' w.heap.size (fun _ => True) v1_ r2 ∧ Kd.R k39 39 w' w.heap.size (fun _ => True) v2_ r3 ∧ Below w.heap.size w w' := by
 have hu28 := Try.underlying28; have hu39 := Try.underlying39; have HR0_0 := am_ hr0_0; have HC0_0 := am_ hc0_0; clear hr0_0 hc0_0; have HR0_1 := am_ hr0_1; have HC0_1 := am_ hc0_1; clear hr0_1 hc0_1; have HR0_2 := am_ hr0_2; have HC0_2 := am_ hc0_2; clear hr0_2 hc0_2; have HB := am_ (Below.refl w.heap.size w); have H : ((spec_IsShow.f k l0_0 l0_1 l0_2).bind fun t169 => (if t169 = true then (if (l0_2.length : Int) = 20 then (some (([] : List (S104)), ([] : List (S62)), ([] : List (S39)), 3)) else ((some (([] : List (S39)) : List (S39))).bind fun y170 => (if y170.length + l0_2.length < 3518437208883 then ((some (y170 ++ l0_2 : List (S39))).bind fun y173 => ((some (([(⟨a1_0, a1_1, a1_2, a1_3⟩ : S39)] : List (S39)) : List (S39))).bind fun y176 => (if y173.length + y176.length < 3518437208883 then ((spec_l08With.f l0_0 l0_1 l0_2 (y173 ++ y176)).bind fun bt182 => ((spec_IsShow.f k bt182.1 bt182.2.1 bt182.2.2).bind fun t192 => (if t192 = true then (some (bt182.1, bt182.2.1, bt182.2.2, 0)) else (some (([] : List (S104)), ([] : List (S62)), ([] : List (S39)), 5))))) else (none)))) else (none)))) else (some (([] : List (S104)), ([] : List (S62)), ([] : List (S39)), 1)))) = some (r1, r2, r3, r4) := h; clear h; replace H := Option.bind_eq_some_iff.mp H; obtain ⟨t169, A30, H⟩ := H; have A3 := am_ A30; clear A30; have HS_ := am_ H; clear H
 go_enter Try.func18, Try.ntmps18
 go_wp2_with (first | ((with_reducible refine gate_dst (N := 2) rfl ?_); refine boxZ 2 #[.slice A0_0 l0_0.length c0_0, .slice A0_1 l0_1.length c0_1, .slice A0_2 l0_2.length c0_2] 28 ?_; intro gb166 hg w6 hbox hb; replace BK166 := am_ (hbox); replace GW166 := am_ ((Zg : w.heap.size ≤ gb166)); replace GE166 := GW166; replace HB := (bsZ Zh hb); clear hb hbox hg) | ((with_reducible refine gate_dst (N := 3) rfl ?_); refine boxZ 3 #[.int .i64 a1_0, .int .i64 a1_1, .string a1_2, .int .i64 a1_3] 39 ?_; intro gb167 hg w7 hbox hb; replace BK167 := am_ (hbox); replace GW167 := am_ (((Zl GE166) : w.heap.size ≤ gb167)); replace GE167 := GW167; replace HB := (bsZ (Zj GE166) hb); replace NB166_167 := am_ (((Zv BK166) : gb166 ≠ gb167)); replace NB167_166 := am_ (((Zw BK166) : gb167 ≠ gb166)); replace BK166 := (bkZ BK166 hb); clear hb hbox hg) | ((with_reducible refine gate_dst (N := 4) rfl ?_); refine boxZ 4 #[.slice none 0 0, .slice none 0 0, .slice none 0 0] 28 ?_; intro gb168 hg w8 hbox hb; replace BK168 := am_ (hbox); replace GW168 := am_ (((Zx GE166 GE167) : w.heap.size ≤ gb168)); replace GE168 := GW168; replace HB := (bsZ (Zo GE166 GE167) hb); replace NB166_168 := am_ (((Zv BK166) : gb166 ≠ gb168)); replace NB168_166 := am_ (((Zw BK166) : gb168 ≠ gb166)); replace BK166 := (bkZ BK166 hb); replace NB167_168 := am_ (((Zy BK167) : gb167 ≠ gb168)); replace NB168_167 := am_ (((Zz BK167) : gb168 ≠ gb167)); replace BK167 := (bkZ BK167 hb); clear hb hbox hg; have hnb9 := NB166_167.out; have hnc9 := NB167_166.out; have hnb10 := NB166_168.out; have hnc10 := NB168_166.out; refine ci3 BK166 ?_; intros) | ((with_reducible refine gate_callee (f := 56) rfl ?_); refine gZ 8 Try.func56 #[.agg #[.slice A0_0 l0_0.length c0_0, .slice A0_1 l0_1.length c0_1, .slice A0_2 l0_2.length c0_2]] ?_; (with_reducible refine (spec_IsShow.calls k _ _ l0_0 _ _ l0_1 _ _ l0_2 t169 _ ?_ ?_ ?_ ?_ ?_ ?_ A3.out).mono ?_); exact (Zm HR0_0); exact HC0_0.out; exact (Zm HR0_1); exact HC0_1.out; exact (Zm HR0_2); exact HC0_2.out; rintro e w12 ⟨rfl, hb⟩; refine ⟨_, rfl, ?_⟩; replace BK166 := (bkZ BK166 hb); replace BK167 := (bkZ BK167 hb); replace BK168 := (bkZ BK168 hb); replace HB := (bsZ (Zaa GE166 GE167 GE168) hb); clear hb; refine ?roundEnd))
 case roundEnd =>
  by_cases c4 : t169 = true
  ·have H := HS_.out
   clear HS_; subst c4
   have H1 : (if (l0_2.length : Int) = 20 then (some (([] : List (S104)), ([] : List (S62)), ([] : List (S39)), 3)) else ((some (([] : List (S39)) : List (S39))).bind fun y170 => (if y170.length + l0_2.length < 3518437208883 then ((some (y170 ++ l0_2 : List (S39))).bind fun y173 => ((some (([(⟨a1_0, a1_1, a1_2, a1_3⟩ : S39)] : List (S39)) : List (S39))).bind fun y176 => (if y173.length + y176.length < 3518437208883 then ((spec_l08With.f l0_0 l0_1 l0_2 (y173 ++ y176)).bind fun bt182 => ((spec_IsShow.f k bt182.1 bt182.2.1 bt182.2.2).bind fun t192 => (if t192 = true then (some (bt182.1, bt182.2.1, bt182.2.2, 0)) else (some (([] : List (S104)), ([] : List (S62)), ([] : List (S39)), 5))))) else (none)))) else (none)))) = some (r1, r2, r3, r4) := by rw [if_pos rfl] at H; exact H
   clear H; have H := H1; clear H1; have HS_ := am_ H; clear H; refine ci3 BK166 ?_; intros
   by_cases c5 : (l0_2.length : Int) = 20
   ·have H := HS_.out
    clear HS_; rw [if_pos c5] at H; have c5b0 := beq_iff_eq.mpr c5; have c5b1 := bne_eq_false_iff_eq.mpr c5; clear c5; simp only [Option.some.injEq, Prod.mk.injEq] at H; obtain ⟨rfl, rfl, rfl, rfl⟩ := H; have hnb14 := NB168_167.out; have hnc14 := NB167_168.out; refine ci3 BK168 ?_; intros
    go_wp2_with (first | fail)
    refine bodyPost_ret (results_ct rfl _ _ gb168 28 #[.slice none 0 0, .slice none 0 0, .slice none 0 0] (0, 0) _ rfl (bpZ BK168) Try.underlying28 rfl Za) rfl ?_; exact ⟨_, _, _, Zi, Zab, Zab, Zab, (Zaa GE166 GE167 GE168)⟩
   ·have H := HS_.out
    clear HS_; rw [if_neg c5] at H; have c5b0 := beq_eq_false_iff_ne.mpr c5; have c5b1 := bne_iff_ne.mpr c5; obtain ⟨y170, hy170⟩ : ∃ y_ : List (S39), y_ = (([] : List (S39))) := ⟨_, rfl⟩
    replace H : (if y170.length + l0_2.length < 3518437208883 then ((some (y170 ++ l0_2 : List (S39))).bind fun y173 => ((some (([(⟨a1_0, a1_1, a1_2, a1_3⟩ : S39)] : List (S39)) : List (S39))).bind fun y176 => (if y173.length + y176.length < 3518437208883 then ((spec_l08With.f l0_0 l0_1 l0_2 (y173 ++ y176)).bind fun bt182 => ((spec_IsShow.f k bt182.1 bt182.2.1 bt182.2.2).bind fun t192 => (if t192 = true then (some (bt182.1, bt182.2.1, bt182.2.2, 0)) else (some (([] : List (S104)), ([] : List (S62)), ([] : List (S39)), 5))))) else (none)))) else (none)) = some (r1, r2, r3, r4) := by (try rw [hy170]); first | with_reducible exact H | with_reducible exact (Option.bind_some _ _).symm.trans H | exact H
    have Ny170 := am_ hy170; clear hy170
    by_cases c16 : y170.length + l0_2.length < 3518437208883
    ·rw [if_pos c16] at H
     have LMc16 := am_ c16; clear c16; obtain ⟨y173, hy173⟩ : ∃ y_ : List (S39), y_ = (y170 ++ l0_2) := ⟨_, rfl⟩
     (first | (rw [← hy173] at H; with_reducible replace H := bindZ H) | rw [← hy173] at H | skip)
     have Ny173 := am_ hy173; clear hy173; obtain ⟨y176, hy176⟩ : ∃ y_ : List (S39), y_ = (([(⟨a1_0, a1_1, a1_2, a1_3⟩ : S39)] : List (S39))) := ⟨_, rfl⟩
     (first | (rw [← hy176] at H; with_reducible replace H := bindZ H) | rw [← hy176] at H | skip)
     have Ny176 := am_ hy176; clear hy176
     by_cases c17 : y173.length + y176.length < 3518437208883
     ·rw [if_pos c17] at H
      have LMc17 := am_ c17; clear c17; obtain ⟨y179, hy179⟩ : ∃ y_ : List (S39), y_ = (y173 ++ y176) := ⟨_, rfl⟩
      (first | (rw [← hy179] at H; with_reducible replace H := bindZ H) | rw [← hy179] at H | skip)
      have Ny179 := am_ hy179; clear hy179; replace H := Option.bind_eq_some_iff.mp H; obtain ⟨⟨t182, t185, t188⟩, A180, H⟩ := H; replace H : ((spec_IsShow.f k t182 t185 t188).bind fun t192 => (if t192 = true then (some (t182, t185, t188, 0)) else (some (([] : List (S104)), ([] : List (S62)), ([] : List (S39)), 5)))) = some (r1, r2, r3, r4) := H; have A18 := am_ A180; clear A180; replace H := Option.bind_eq_some_iff.mp H; obtain ⟨t192, A190, H⟩ := H; have A19 := am_ A190; clear A190; have HS_ := am_ H; clear H
      try go_wp2_with (first | fail)
      replace BK166 := am_ (blk_drew BK166.out); replace BK167 := am_ (blk_drew BK167.out); replace BK168 := am_ (blk_drew BK168.out); replace HB := am_ (below_drew1 HB.out); refine start_ (n := 11) (S := fun w' => w'.cell? ⟨gb166, 0, none⟩ = some (.slice A0_0 l0_0.length c0_0) ∧ w'.cell? ⟨gb166, 1, none⟩ = some (.slice A0_1 l0_1.length c0_1) ∧ w'.cell? ⟨gb166, 2, none⟩ = some (.slice A0_2 l0_2.length c0_2) ∧ w'.cell? ⟨gb167, 0, none⟩ = some (.int .i64 a1_0) ∧ w'.cell? ⟨gb167, 1, none⟩ = some (.int .i64 a1_1) ∧ w'.cell? ⟨gb167, 2, none⟩ = some (.string a1_2) ∧ w'.cell? ⟨gb167, 3, none⟩ = some (.int .i64 a1_3)) (ds := []) (bT 11 0) Za rfl rfl ⟨(blk_cell BK166.out 0).trans rfl, (blk_cell BK166.out 1).trans rfl, (blk_cell BK166.out 2).trans rfl, (blk_cell BK167.out 0).trans rfl, (blk_cell BK167.out 1).trans rfl, (blk_cell BK167.out 2).trans rfl, (blk_cell BK167.out 3).trans rfl⟩ (fun hHeld => ?_); refine with_tabW spec_AddCue.tab5 spec_AddCue.bits5 (fun HT_ HW_ => ?_); generalize w12.drew = w29 at BK166 BK167 BK168 HB hHeld ⊢; refine pureZ HT_ 2 (some 18) (bB 11 4) ?_; refine takeZ7 HT_ HW_ 0 (some 16) (bB 11 5) hHeld ?_; refine takeZ7 HT_ HW_ 3 (some 19) (bB 11 13) hHeld ?_; refine takeZ7 HT_ HW_ 5 (some 21) (bB 11 45) hHeld ?_; refine join_ (σ := Value × Value × Value × Value × Value × Value × Value × Nat) 1 (bT 11 10) (fun s_ => [(17, s_.1), (20, s_.2.1), (22, s_.2.2.1), (23, s_.2.2.2.1), (24, .agg #[s_.2.2.2.2.1, s_.2.2.2.2.2.1, s_.2.2.2.2.2.2.1]), (6, .pointer (some ⟨s_.2.2.2.2.2.2.2, 0, none⟩))]) (fun s_ w' => (w'.cell? ⟨gb166, 0, none⟩ = some (.slice A0_0 l0_0.length c0_0) ∧ w'.cell? ⟨gb166, 1, none⟩ = some (.slice A0_1 l0_1.length c0_1) ∧ w'.cell? ⟨gb166, 2, none⟩ = some (.slice A0_2 l0_2.length c0_2) ∧ w'.cell? ⟨gb167, 0, none⟩ = some (.int .i64 a1_0) ∧ w'.cell? ⟨gb167, 1, none⟩ = some (.int .i64 a1_1) ∧ w'.cell? ⟨gb167, 2, none⟩ = some (.string a1_2) ∧ w'.cell? ⟨gb167, 3, none⟩ = some (.int .i64 a1_3)) ∧ (Kd.R k39 39 w' w.heap.size (fun k_ => some k_ ≠ (s_.2.2.2.1 : Value).ownBlock ∧ some k_ ≠ (s_.2.2.2.2.2.2.1 : Value).ownBlock ∧ k_ ≠ gb167) s_.2.2.1 y176) ∧ (Kd.R k39 39 w' w.heap.size (fun k_ => some k_ ≠ (s_.2.2.1 : Value).ownBlock ∧ some k_ ≠ (s_.2.2.2.2.2.2.1 : Value).ownBlock ∧ k_ ≠ gb167) s_.2.2.2.1 y179) ∧ (Kd.R k104 104 w' w.heap.size (fun _ => True) s_.2.2.2.2.1 t182) ∧ (Kd.R k62 62 w' w.heap.size (fun _ => True) s_.2.2.2.2.2.1 t185) ∧ (Kd.R k39 39 w' w.heap.size (fun k_ => some k_ ≠ (s_.2.2.1 : Value).ownBlock ∧ some k_ ≠ (s_.2.2.2.1 : Value).ownBlock ∧ k_ ≠ gb167) s_.2.2.2.2.2.2.1 t188) ∧ (w'.heap[gb166]? = some (.cells #[.slice A0_0 l0_0.length c0_0, .slice A0_1 l0_1.length c0_1, .slice A0_2 l0_2.length c0_2] 28 (0, 0))) ∧ (w'.heap[gb167]? = some (.cells #[.int .i64 a1_0, .int .i64 a1_1, .string a1_2, .int .i64 a1_3] 39 (0, 0))) ∧ (w'.heap[gb168]? = some (.cells #[.slice none 0 0, .slice none 0 0, .slice none 0 0] 28 (0, 0))) ∧ (w'.heap[s_.2.2.2.2.2.2.2]? = some (.cells #[.slice none 0 0, .slice none 0 0, .slice none 0 0] 28 (0, 0))) ∧ (w.heap.size ≤ s_.2.2.2.2.2.2.2) ∧ (w.heap.size ≤ s_.2.2.2.2.2.2.2) ∧ (gb166 ≠ s_.2.2.2.2.2.2.2) ∧ (s_.2.2.2.2.2.2.2 ≠ gb166) ∧ (gb167 ≠ s_.2.2.2.2.2.2.2) ∧ (s_.2.2.2.2.2.2.2 ≠ gb167) ∧ (gb168 ≠ s_.2.2.2.2.2.2.2) ∧ (s_.2.2.2.2.2.2.2 ≠ gb168) ∧ (Below w.heap.size w w')) ?_ ?_
      rotate_left
      ·intro hJ1_4_6_7_8_9
       refine join_ (σ := Value × Value × Value × Value × Value × Value × Value) 2 (bT 11 9) (fun s_ => [(17, s_.1), (20, s_.2.1), (22, s_.2.2.1), (23, s_.2.2.2.1), (24, .agg #[s_.2.2.2.2.1, s_.2.2.2.2.2.1, s_.2.2.2.2.2.2])]) (fun s_ w' => (w'.cell? ⟨gb166, 0, none⟩ = some (.slice A0_0 l0_0.length c0_0) ∧ w'.cell? ⟨gb166, 1, none⟩ = some (.slice A0_1 l0_1.length c0_1) ∧ w'.cell? ⟨gb166, 2, none⟩ = some (.slice A0_2 l0_2.length c0_2) ∧ w'.cell? ⟨gb167, 0, none⟩ = some (.int .i64 a1_0) ∧ w'.cell? ⟨gb167, 1, none⟩ = some (.int .i64 a1_1) ∧ w'.cell? ⟨gb167, 2, none⟩ = some (.string a1_2) ∧ w'.cell? ⟨gb167, 3, none⟩ = some (.int .i64 a1_3)) ∧ (Kd.R k39 39 w' w.heap.size (fun k_ => some k_ ≠ (s_.2.2.2.1 : Value).ownBlock ∧ some k_ ≠ (s_.2.2.2.2.2.2 : Value).ownBlock ∧ k_ ≠ gb167) s_.2.2.1 y176) ∧ (Kd.R k39 39 w' w.heap.size (fun k_ => some k_ ≠ (s_.2.2.1 : Value).ownBlock ∧ some k_ ≠ (s_.2.2.2.2.2.2 : Value).ownBlock ∧ k_ ≠ gb167) s_.2.2.2.1 y179) ∧ (Kd.R k104 104 w' w.heap.size (fun _ => True) s_.2.2.2.2.1 t182) ∧ (Kd.R k62 62 w' w.heap.size (fun _ => True) s_.2.2.2.2.2.1 t185) ∧ (Kd.R k39 39 w' w.heap.size (fun k_ => some k_ ≠ (s_.2.2.1 : Value).ownBlock ∧ some k_ ≠ (s_.2.2.2.1 : Value).ownBlock ∧ k_ ≠ gb167) s_.2.2.2.2.2.2 t188) ∧ (w'.heap[gb166]? = some (.cells #[.slice A0_0 l0_0.length c0_0, .slice A0_1 l0_1.length c0_1, .slice A0_2 l0_2.length c0_2] 28 (0, 0))) ∧ (w'.heap[gb167]? = some (.cells #[.int .i64 a1_0, .int .i64 a1_1, .string a1_2, .int .i64 a1_3] 39 (0, 0))) ∧ (w'.heap[gb168]? = some (.cells #[.slice none 0 0, .slice none 0 0, .slice none 0 0] 28 (0, 0))) ∧ (Below w.heap.size w w')) ?_ ?_; rotate_left
       ·intro hJ1_4_6_7_8
        refine join_ (σ := Value × Value × Value × Value × Nat) 2 (bB 11 767) (fun s_ => [(17, s_.1), (20, s_.2.1), (22, s_.2.2.1), (23, s_.2.2.2.1), (6, .pointer (some ⟨s_.2.2.2.2, 0, none⟩))]) (fun s_ w' => (w'.cell? ⟨gb166, 0, none⟩ = some (.slice A0_0 l0_0.length c0_0) ∧ w'.cell? ⟨gb166, 1, none⟩ = some (.slice A0_1 l0_1.length c0_1) ∧ w'.cell? ⟨gb166, 2, none⟩ = some (.slice A0_2 l0_2.length c0_2) ∧ w'.cell? ⟨gb167, 0, none⟩ = some (.int .i64 a1_0) ∧ w'.cell? ⟨gb167, 1, none⟩ = some (.int .i64 a1_1) ∧ w'.cell? ⟨gb167, 2, none⟩ = some (.string a1_2) ∧ w'.cell? ⟨gb167, 3, none⟩ = some (.int .i64 a1_3)) ∧ (Kd.R k39 39 w' w.heap.size (fun k_ => some k_ ≠ (s_.2.2.2.1 : Value).ownBlock ∧ k_ ≠ gb167) s_.2.2.1 y176) ∧ (Kd.R k39 39 w' w.heap.size (fun k_ => some k_ ≠ (s_.2.2.1 : Value).ownBlock ∧ k_ ≠ gb167) s_.2.2.2.1 y179) ∧ (w'.heap[gb166]? = some (.cells #[.slice A0_0 l0_0.length c0_0, .slice A0_1 l0_1.length c0_1, .slice A0_2 l0_2.length c0_2] 28 (0, 0))) ∧ (w'.heap[gb167]? = some (.cells #[.int .i64 a1_0, .int .i64 a1_1, .string a1_2, .int .i64 a1_3] 39 (0, 0))) ∧ (w'.heap[gb168]? = some (.cells #[.slice none 0 0, .slice none 0 0, .slice none 0 0] 28 (0, 0))) ∧ (w'.heap[s_.2.2.2.2]? = some (.cells #[.slice none 0 0, .slice none 0 0, .slice none 0 0] 28 (0, 0))) ∧ (w.heap.size ≤ s_.2.2.2.2) ∧ (w.heap.size ≤ s_.2.2.2.2) ∧ (gb166 ≠ s_.2.2.2.2) ∧ (s_.2.2.2.2 ≠ gb166) ∧ (gb167 ≠ s_.2.2.2.2) ∧ (s_.2.2.2.2 ≠ gb167) ∧ (gb168 ≠ s_.2.2.2.2) ∧ (s_.2.2.2.2 ≠ gb168) ∧ (Below w.heap.size w w')) ?_ ?_; rotate_left
        ·intro hJ1_4_6_7_9
         refine join_ (σ := Value × Value × Value × Value) 3 (bT 11 8) (fun s_ => [(17, s_.1), (20, s_.2.1), (22, s_.2.2.1), (23, s_.2.2.2)]) (fun s_ w' => (w'.cell? ⟨gb166, 0, none⟩ = some (.slice A0_0 l0_0.length c0_0) ∧ w'.cell? ⟨gb166, 1, none⟩ = some (.slice A0_1 l0_1.length c0_1) ∧ w'.cell? ⟨gb166, 2, none⟩ = some (.slice A0_2 l0_2.length c0_2) ∧ w'.cell? ⟨gb167, 0, none⟩ = some (.int .i64 a1_0) ∧ w'.cell? ⟨gb167, 1, none⟩ = some (.int .i64 a1_1) ∧ w'.cell? ⟨gb167, 2, none⟩ = some (.string a1_2) ∧ w'.cell? ⟨gb167, 3, none⟩ = some (.int .i64 a1_3)) ∧ (Kd.R k39 39 w' w.heap.size (fun k_ => some k_ ≠ (s_.2.2.2 : Value).ownBlock ∧ k_ ≠ gb167) s_.2.2.1 y176) ∧ (Kd.R k39 39 w' w.heap.size (fun k_ => some k_ ≠ (s_.2.2.1 : Value).ownBlock ∧ k_ ≠ gb167) s_.2.2.2 y179) ∧ (w'.heap[gb166]? = some (.cells #[.slice A0_0 l0_0.length c0_0, .slice A0_1 l0_1.length c0_1, .slice A0_2 l0_2.length c0_2] 28 (0, 0))) ∧ (w'.heap[gb167]? = some (.cells #[.int .i64 a1_0, .int .i64 a1_1, .string a1_2, .int .i64 a1_3] 39 (0, 0))) ∧ (w'.heap[gb168]? = some (.cells #[.slice none 0 0, .slice none 0 0, .slice none 0 0] 28 (0, 0))) ∧ (Below w.heap.size w w')) ?_ ?_; rotate_left
         ·intro hJ1_4_6_7
          refine join_ (σ := Value × Value × Value × Nat) 3 (bB 11 639) (fun s_ => [(17, s_.1), (20, s_.2.1), (22, s_.2.2.1), (6, .pointer (some ⟨s_.2.2.2, 0, none⟩))]) (fun s_ w' => (w'.cell? ⟨gb166, 0, none⟩ = some (.slice A0_0 l0_0.length c0_0) ∧ w'.cell? ⟨gb166, 1, none⟩ = some (.slice A0_1 l0_1.length c0_1) ∧ w'.cell? ⟨gb166, 2, none⟩ = some (.slice A0_2 l0_2.length c0_2) ∧ w'.cell? ⟨gb167, 0, none⟩ = some (.int .i64 a1_0) ∧ w'.cell? ⟨gb167, 1, none⟩ = some (.int .i64 a1_1) ∧ w'.cell? ⟨gb167, 2, none⟩ = some (.string a1_2) ∧ w'.cell? ⟨gb167, 3, none⟩ = some (.int .i64 a1_3)) ∧ (Kd.R k39 39 w' w.heap.size (fun k_ => some k_ ≠ (s_.2.2.1 : Value).ownBlock ∧ k_ ≠ gb167) s_.2.1 y173) ∧ (Kd.R k39 39 w' w.heap.size (fun k_ => some k_ ≠ (s_.2.1 : Value).ownBlock ∧ k_ ≠ gb167) s_.2.2.1 y176) ∧ (w'.heap[gb166]? = some (.cells #[.slice A0_0 l0_0.length c0_0, .slice A0_1 l0_1.length c0_1, .slice A0_2 l0_2.length c0_2] 28 (0, 0))) ∧ (w'.heap[gb167]? = some (.cells #[.int .i64 a1_0, .int .i64 a1_1, .string a1_2, .int .i64 a1_3] 39 (0, 0))) ∧ (w'.heap[gb168]? = some (.cells #[.slice none 0 0, .slice none 0 0, .slice none 0 0] 28 (0, 0))) ∧ (w'.heap[s_.2.2.2]? = some (.cells #[.slice none 0 0, .slice none 0 0, .slice none 0 0] 28 (0, 0))) ∧ (w.heap.size ≤ s_.2.2.2) ∧ (w.heap.size ≤ s_.2.2.2) ∧ (gb166 ≠ s_.2.2.2) ∧ (s_.2.2.2 ≠ gb166) ∧ (gb167 ≠ s_.2.2.2) ∧ (s_.2.2.2 ≠ gb167) ∧ (gb168 ≠ s_.2.2.2) ∧ (s_.2.2.2 ≠ gb168) ∧ (Below w.heap.size w w')) ?_ ?_; rotate_left
          ·intro hJ1_4_6_9
           refine join_ (σ := Value × Value × Value) 4 (bT 11 7) (fun s_ => [(17, s_.1), (20, s_.2.1), (22, s_.2.2)]) (fun s_ w' => (w'.cell? ⟨gb166, 0, none⟩ = some (.slice A0_0 l0_0.length c0_0) ∧ w'.cell? ⟨gb166, 1, none⟩ = some (.slice A0_1 l0_1.length c0_1) ∧ w'.cell? ⟨gb166, 2, none⟩ = some (.slice A0_2 l0_2.length c0_2) ∧ w'.cell? ⟨gb167, 0, none⟩ = some (.int .i64 a1_0) ∧ w'.cell? ⟨gb167, 1, none⟩ = some (.int .i64 a1_1) ∧ w'.cell? ⟨gb167, 2, none⟩ = some (.string a1_2) ∧ w'.cell? ⟨gb167, 3, none⟩ = some (.int .i64 a1_3)) ∧ (Kd.R k39 39 w' w.heap.size (fun k_ => some k_ ≠ (s_.2.2 : Value).ownBlock ∧ k_ ≠ gb167) s_.2.1 y173) ∧ (Kd.R k39 39 w' w.heap.size (fun k_ => some k_ ≠ (s_.2.1 : Value).ownBlock ∧ k_ ≠ gb167) s_.2.2 y176) ∧ (w'.heap[gb166]? = some (.cells #[.slice A0_0 l0_0.length c0_0, .slice A0_1 l0_1.length c0_1, .slice A0_2 l0_2.length c0_2] 28 (0, 0))) ∧ (w'.heap[gb167]? = some (.cells #[.int .i64 a1_0, .int .i64 a1_1, .string a1_2, .int .i64 a1_3] 39 (0, 0))) ∧ (w'.heap[gb168]? = some (.cells #[.slice none 0 0, .slice none 0 0, .slice none 0 0] 28 (0, 0))) ∧ (Below w.heap.size w w')) ?_ ?_; rotate_left
           ·intro hJ1_4_6
            refine join_ (σ := Value × Value × Nat) 4 (bB 11 575) (fun s_ => [(17, s_.1), (20, s_.2.1), (6, .pointer (some ⟨s_.2.2, 0, none⟩))]) (fun s_ w' => (w'.cell? ⟨gb166, 0, none⟩ = some (.slice A0_0 l0_0.length c0_0) ∧ w'.cell? ⟨gb166, 1, none⟩ = some (.slice A0_1 l0_1.length c0_1) ∧ w'.cell? ⟨gb166, 2, none⟩ = some (.slice A0_2 l0_2.length c0_2) ∧ w'.cell? ⟨gb167, 0, none⟩ = some (.int .i64 a1_0) ∧ w'.cell? ⟨gb167, 1, none⟩ = some (.int .i64 a1_1) ∧ w'.cell? ⟨gb167, 2, none⟩ = some (.string a1_2) ∧ w'.cell? ⟨gb167, 3, none⟩ = some (.int .i64 a1_3)) ∧ (Kd.R k39 39 w' w.heap.size (fun k_ => k_ ≠ gb167) s_.2.1 y173) ∧ (w'.heap[gb166]? = some (.cells #[.slice A0_0 l0_0.length c0_0, .slice A0_1 l0_1.length c0_1, .slice A0_2 l0_2.length c0_2] 28 (0, 0))) ∧ (w'.heap[gb167]? = some (.cells #[.int .i64 a1_0, .int .i64 a1_1, .string a1_2, .int .i64 a1_3] 39 (0, 0))) ∧ (w'.heap[gb168]? = some (.cells #[.slice none 0 0, .slice none 0 0, .slice none 0 0] 28 (0, 0))) ∧ (w'.heap[s_.2.2]? = some (.cells #[.slice none 0 0, .slice none 0 0, .slice none 0 0] 28 (0, 0))) ∧ (w.heap.size ≤ s_.2.2) ∧ (w.heap.size ≤ s_.2.2) ∧ (gb166 ≠ s_.2.2) ∧ (s_.2.2 ≠ gb166) ∧ (gb167 ≠ s_.2.2) ∧ (s_.2.2 ≠ gb167) ∧ (gb168 ≠ s_.2.2) ∧ (s_.2.2 ≠ gb168) ∧ (Below w.heap.size w w')) ?_ ?_; rotate_left
            ·intro hJ1_4_9
             refine join_ (σ := Value × Value × Nat) 4 (bB 11 623) (fun s_ => [(17, s_.1), (22, s_.2.1), (6, .pointer (some ⟨s_.2.2, 0, none⟩))]) (fun s_ w' => (w'.cell? ⟨gb166, 0, none⟩ = some (.slice A0_0 l0_0.length c0_0) ∧ w'.cell? ⟨gb166, 1, none⟩ = some (.slice A0_1 l0_1.length c0_1) ∧ w'.cell? ⟨gb166, 2, none⟩ = some (.slice A0_2 l0_2.length c0_2) ∧ w'.cell? ⟨gb167, 0, none⟩ = some (.int .i64 a1_0) ∧ w'.cell? ⟨gb167, 1, none⟩ = some (.int .i64 a1_1) ∧ w'.cell? ⟨gb167, 2, none⟩ = some (.string a1_2) ∧ w'.cell? ⟨gb167, 3, none⟩ = some (.int .i64 a1_3)) ∧ (Kd.R k39 39 w' w.heap.size (fun k_ => some k_ ≠ (s_.2.1 : Value).ownBlock ∧ k_ ≠ gb167) s_.1 y170) ∧ (Kd.R k39 39 w' w.heap.size (fun k_ => some k_ ≠ (s_.1 : Value).ownBlock ∧ k_ ≠ gb167) s_.2.1 y176) ∧ (w'.heap[gb166]? = some (.cells #[.slice A0_0 l0_0.length c0_0, .slice A0_1 l0_1.length c0_1, .slice A0_2 l0_2.length c0_2] 28 (0, 0))) ∧ (w'.heap[gb167]? = some (.cells #[.int .i64 a1_0, .int .i64 a1_1, .string a1_2, .int .i64 a1_3] 39 (0, 0))) ∧ (w'.heap[gb168]? = some (.cells #[.slice none 0 0, .slice none 0 0, .slice none 0 0] 28 (0, 0))) ∧ (w'.heap[s_.2.2]? = some (.cells #[.slice none 0 0, .slice none 0 0, .slice none 0 0] 28 (0, 0))) ∧ (w.heap.size ≤ s_.2.2) ∧ (w.heap.size ≤ s_.2.2) ∧ (gb166 ≠ s_.2.2) ∧ (s_.2.2 ≠ gb166) ∧ (gb167 ≠ s_.2.2) ∧ (s_.2.2 ≠ gb167) ∧ (gb168 ≠ s_.2.2) ∧ (s_.2.2 ≠ gb168) ∧ (Below w.heap.size w w')) ?_ ?_; rotate_left
             ·intro hJ1_6_9
              refine join_ (σ := Value × Value) 5 (bT 11 6) (fun s_ => [(17, s_.1), (20, s_.2)]) (fun s_ w' => (w'.cell? ⟨gb166, 0, none⟩ = some (.slice A0_0 l0_0.length c0_0) ∧ w'.cell? ⟨gb166, 1, none⟩ = some (.slice A0_1 l0_1.length c0_1) ∧ w'.cell? ⟨gb166, 2, none⟩ = some (.slice A0_2 l0_2.length c0_2) ∧ w'.cell? ⟨gb167, 0, none⟩ = some (.int .i64 a1_0) ∧ w'.cell? ⟨gb167, 1, none⟩ = some (.int .i64 a1_1) ∧ w'.cell? ⟨gb167, 2, none⟩ = some (.string a1_2) ∧ w'.cell? ⟨gb167, 3, none⟩ = some (.int .i64 a1_3)) ∧ (Kd.R k39 39 w' w.heap.size (fun k_ => k_ ≠ gb167) s_.2 y173) ∧ (w'.heap[gb166]? = some (.cells #[.slice A0_0 l0_0.length c0_0, .slice A0_1 l0_1.length c0_1, .slice A0_2 l0_2.length c0_2] 28 (0, 0))) ∧ (w'.heap[gb167]? = some (.cells #[.int .i64 a1_0, .int .i64 a1_1, .string a1_2, .int .i64 a1_3] 39 (0, 0))) ∧ (w'.heap[gb168]? = some (.cells #[.slice none 0 0, .slice none 0 0, .slice none 0 0] 28 (0, 0))) ∧ (Below w.heap.size w w')) ?_ ?_; rotate_left
              ·intro hJ1_4
               refine join_ (σ := Value × Value) 5 (bB 11 111) (fun s_ => [(17, s_.1), (22, s_.2)]) (fun s_ w' => (w'.cell? ⟨gb166, 0, none⟩ = some (.slice A0_0 l0_0.length c0_0) ∧ w'.cell? ⟨gb166, 1, none⟩ = some (.slice A0_1 l0_1.length c0_1) ∧ w'.cell? ⟨gb166, 2, none⟩ = some (.slice A0_2 l0_2.length c0_2) ∧ w'.cell? ⟨gb167, 0, none⟩ = some (.int .i64 a1_0) ∧ w'.cell? ⟨gb167, 1, none⟩ = some (.int .i64 a1_1) ∧ w'.cell? ⟨gb167, 2, none⟩ = some (.string a1_2) ∧ w'.cell? ⟨gb167, 3, none⟩ = some (.int .i64 a1_3)) ∧ (Kd.R k39 39 w' w.heap.size (fun k_ => some k_ ≠ (s_.2 : Value).ownBlock ∧ k_ ≠ gb167) s_.1 y170) ∧ (Kd.R k39 39 w' w.heap.size (fun k_ => some k_ ≠ (s_.1 : Value).ownBlock ∧ k_ ≠ gb167) s_.2 y176) ∧ (w'.heap[gb166]? = some (.cells #[.slice A0_0 l0_0.length c0_0, .slice A0_1 l0_1.length c0_1, .slice A0_2 l0_2.length c0_2] 28 (0, 0))) ∧ (w'.heap[gb167]? = some (.cells #[.int .i64 a1_0, .int .i64 a1_1, .string a1_2, .int .i64 a1_3] 39 (0, 0))) ∧ (w'.heap[gb168]? = some (.cells #[.slice none 0 0, .slice none 0 0, .slice none 0 0] 28 (0, 0))) ∧ (Below w.heap.size w w')) ?_ ?_; rotate_left
               ·intro hJ1_6
                refine join_ (σ := Value × Nat) 5 (bB 11 559) (fun s_ => [(17, s_.1), (6, .pointer (some ⟨s_.2, 0, none⟩))]) (fun s_ w' => (w'.cell? ⟨gb166, 0, none⟩ = some (.slice A0_0 l0_0.length c0_0) ∧ w'.cell? ⟨gb166, 1, none⟩ = some (.slice A0_1 l0_1.length c0_1) ∧ w'.cell? ⟨gb166, 2, none⟩ = some (.slice A0_2 l0_2.length c0_2) ∧ w'.cell? ⟨gb167, 0, none⟩ = some (.int .i64 a1_0) ∧ w'.cell? ⟨gb167, 1, none⟩ = some (.int .i64 a1_1) ∧ w'.cell? ⟨gb167, 2, none⟩ = some (.string a1_2) ∧ w'.cell? ⟨gb167, 3, none⟩ = some (.int .i64 a1_3)) ∧ (Kd.R k39 39 w' w.heap.size (fun k_ => k_ ≠ gb167) s_.1 y170) ∧ (w'.heap[gb166]? = some (.cells #[.slice A0_0 l0_0.length c0_0, .slice A0_1 l0_1.length c0_1, .slice A0_2 l0_2.length c0_2] 28 (0, 0))) ∧ (w'.heap[gb167]? = some (.cells #[.int .i64 a1_0, .int .i64 a1_1, .string a1_2, .int .i64 a1_3] 39 (0, 0))) ∧ (w'.heap[gb168]? = some (.cells #[.slice none 0 0, .slice none 0 0, .slice none 0 0] 28 (0, 0))) ∧ (w'.heap[s_.2]? = some (.cells #[.slice none 0 0, .slice none 0 0, .slice none 0 0] 28 (0, 0))) ∧ (w.heap.size ≤ s_.2) ∧ (w.heap.size ≤ s_.2) ∧ (gb166 ≠ s_.2) ∧ (s_.2 ≠ gb166) ∧ (gb167 ≠ s_.2) ∧ (s_.2 ≠ gb167) ∧ (gb168 ≠ s_.2) ∧ (s_.2 ≠ gb168) ∧ (Below w.heap.size w w')) ?_ ?_; rotate_left
                ·intro hJ1_9
                 refine join_ (σ := Value × Nat) 5 (bB 11 621) (fun s_ => [(22, s_.1), (6, .pointer (some ⟨s_.2, 0, none⟩))]) (fun s_ w' => (w'.cell? ⟨gb166, 0, none⟩ = some (.slice A0_0 l0_0.length c0_0) ∧ w'.cell? ⟨gb166, 1, none⟩ = some (.slice A0_1 l0_1.length c0_1) ∧ w'.cell? ⟨gb166, 2, none⟩ = some (.slice A0_2 l0_2.length c0_2) ∧ w'.cell? ⟨gb167, 0, none⟩ = some (.int .i64 a1_0) ∧ w'.cell? ⟨gb167, 1, none⟩ = some (.int .i64 a1_1) ∧ w'.cell? ⟨gb167, 2, none⟩ = some (.string a1_2) ∧ w'.cell? ⟨gb167, 3, none⟩ = some (.int .i64 a1_3)) ∧ (Kd.R k39 39 w' w.heap.size (fun k_ => k_ ≠ gb167) s_.1 y176) ∧ (w'.heap[gb166]? = some (.cells #[.slice A0_0 l0_0.length c0_0, .slice A0_1 l0_1.length c0_1, .slice A0_2 l0_2.length c0_2] 28 (0, 0))) ∧ (w'.heap[gb167]? = some (.cells #[.int .i64 a1_0, .int .i64 a1_1, .string a1_2, .int .i64 a1_3] 39 (0, 0))) ∧ (w'.heap[gb168]? = some (.cells #[.slice none 0 0, .slice none 0 0, .slice none 0 0] 28 (0, 0))) ∧ (w'.heap[s_.2]? = some (.cells #[.slice none 0 0, .slice none 0 0, .slice none 0 0] 28 (0, 0))) ∧ (w.heap.size ≤ s_.2) ∧ (w.heap.size ≤ s_.2) ∧ (gb166 ≠ s_.2) ∧ (s_.2 ≠ gb166) ∧ (gb167 ≠ s_.2) ∧ (s_.2 ≠ gb167) ∧ (gb168 ≠ s_.2) ∧ (s_.2 ≠ gb168) ∧ (Below w.heap.size w w')) ?_ ?_; rotate_left
                 ·intro hJ6_9
                  refine join_ (σ := Value) 6 (bB 11 47) (fun s_ => [(17, s_)]) (fun s_ w' => (w'.cell? ⟨gb166, 0, none⟩ = some (.slice A0_0 l0_0.length c0_0) ∧ w'.cell? ⟨gb166, 1, none⟩ = some (.slice A0_1 l0_1.length c0_1) ∧ w'.cell? ⟨gb166, 2, none⟩ = some (.slice A0_2 l0_2.length c0_2) ∧ w'.cell? ⟨gb167, 0, none⟩ = some (.int .i64 a1_0) ∧ w'.cell? ⟨gb167, 1, none⟩ = some (.int .i64 a1_1) ∧ w'.cell? ⟨gb167, 2, none⟩ = some (.string a1_2) ∧ w'.cell? ⟨gb167, 3, none⟩ = some (.int .i64 a1_3)) ∧ (Kd.R k39 39 w' w.heap.size (fun k_ => k_ ≠ gb167) s_ y170) ∧ (w'.heap[gb166]? = some (.cells #[.slice A0_0 l0_0.length c0_0, .slice A0_1 l0_1.length c0_1, .slice A0_2 l0_2.length c0_2] 28 (0, 0))) ∧ (w'.heap[gb167]? = some (.cells #[.int .i64 a1_0, .int .i64 a1_1, .string a1_2, .int .i64 a1_3] 39 (0, 0))) ∧ (w'.heap[gb168]? = some (.cells #[.slice none 0 0, .slice none 0 0, .slice none 0 0] 28 (0, 0))) ∧ (Below w.heap.size w w')) ?_ ?_; rotate_left
                  ·intro hJ1
                   refine join_ (σ := Value) 6 (bB 11 109) (fun s_ => [(22, s_)]) (fun s_ w' => (w'.cell? ⟨gb166, 0, none⟩ = some (.slice A0_0 l0_0.length c0_0) ∧ w'.cell? ⟨gb166, 1, none⟩ = some (.slice A0_1 l0_1.length c0_1) ∧ w'.cell? ⟨gb166, 2, none⟩ = some (.slice A0_2 l0_2.length c0_2) ∧ w'.cell? ⟨gb167, 0, none⟩ = some (.int .i64 a1_0) ∧ w'.cell? ⟨gb167, 1, none⟩ = some (.int .i64 a1_1) ∧ w'.cell? ⟨gb167, 2, none⟩ = some (.string a1_2) ∧ w'.cell? ⟨gb167, 3, none⟩ = some (.int .i64 a1_3)) ∧ (Kd.R k39 39 w' w.heap.size (fun k_ => k_ ≠ gb167) s_ y176) ∧ (w'.heap[gb166]? = some (.cells #[.slice A0_0 l0_0.length c0_0, .slice A0_1 l0_1.length c0_1, .slice A0_2 l0_2.length c0_2] 28 (0, 0))) ∧ (w'.heap[gb167]? = some (.cells #[.int .i64 a1_0, .int .i64 a1_1, .string a1_2, .int .i64 a1_3] 39 (0, 0))) ∧ (w'.heap[gb168]? = some (.cells #[.slice none 0 0, .slice none 0 0, .slice none 0 0] 28 (0, 0))) ∧ (Below w.heap.size w w')) ?_ ?_; rotate_left
                   ·intro hJ6
                    refine join_ (σ := Nat) 6 (bB 11 557) (fun s_ => [(6, .pointer (some ⟨s_, 0, none⟩))]) (fun s_ w' => (w'.cell? ⟨gb166, 0, none⟩ = some (.slice A0_0 l0_0.length c0_0) ∧ w'.cell? ⟨gb166, 1, none⟩ = some (.slice A0_1 l0_1.length c0_1) ∧ w'.cell? ⟨gb166, 2, none⟩ = some (.slice A0_2 l0_2.length c0_2) ∧ w'.cell? ⟨gb167, 0, none⟩ = some (.int .i64 a1_0) ∧ w'.cell? ⟨gb167, 1, none⟩ = some (.int .i64 a1_1) ∧ w'.cell? ⟨gb167, 2, none⟩ = some (.string a1_2) ∧ w'.cell? ⟨gb167, 3, none⟩ = some (.int .i64 a1_3)) ∧ (w'.heap[gb166]? = some (.cells #[.slice A0_0 l0_0.length c0_0, .slice A0_1 l0_1.length c0_1, .slice A0_2 l0_2.length c0_2] 28 (0, 0))) ∧ (w'.heap[gb167]? = some (.cells #[.int .i64 a1_0, .int .i64 a1_1, .string a1_2, .int .i64 a1_3] 39 (0, 0))) ∧ (w'.heap[gb168]? = some (.cells #[.slice none 0 0, .slice none 0 0, .slice none 0 0] 28 (0, 0))) ∧ (w'.heap[s_]? = some (.cells #[.slice none 0 0, .slice none 0 0, .slice none 0 0] 28 (0, 0))) ∧ (w.heap.size ≤ s_) ∧ (w.heap.size ≤ s_) ∧ (gb166 ≠ s_) ∧ (s_ ≠ gb166) ∧ (gb167 ≠ s_) ∧ (s_ ≠ gb167) ∧ (gb168 ≠ s_) ∧ (s_ ≠ gb168) ∧ (Below w.heap.size w w')) ?_ ?_; rotate_left
                    ·intro hJ9
                     refine three_ (i := 1) (j := 6) (k := 9) (Ni := some 17) (Nj := some 22) (Nk := some 6) (bB 11 47) (bB 11 109) (bB 11 557) rfl rfl rfl rfl rfl rfl (three_of HT_.out Za) (by decide) (by decide) (by decide) (fun K hK => ?_) (fun K hK => ?_) (fun K hK => ?_)
                     ·skip
                      refine Kd.R_lit_step k39 _ 39 ?hg (N := 17) ?hd (xs := ([] : List (S39))) (inner := []) (ok := fun _ => True) (okp := fun _ => True) ?hr ?hp (fun _ hk => hk) trivial (Below.refl _ _) (Nat.le_refl _) (by simp) ?_; (case hd => rfl); (case hg => rfl); (case hr => first | (go_simp; done) | (go_simp; rfl)); (case hp => exact (Reps.none _ _)); intro v171 w30 ho31 hb hg_ hnew_; clear hg_ hnew_
                      (first | rw [← Ny170.out] at ho31 | (simp only [Int.reduceToNat] at ho31; rw [← Ny170.out] at ho31))
                      replace HO172 := am_ (Kd.R_lower (Kd.R_newB ho31 (g := gb167) (b0Z BK167)) (below_size (Zaa GE166 GE167 GE168))); replace BK166 := (bkZ BK166 hb); replace BK167 := (bkZ BK167 hb); replace BK168 := (bkZ BK168 hb); replace HB := (bsZ (Zaa GE166 GE167 GE168) hb); clear hb ho31; refine hK.out _ _ (Zac BK166 BK167) (fun hHeld => ?_); clear hK K; refine normZ 17 ?_; exact norm_ Zs (hJ1 (v171) _ ⟨hHeld, (Zad HO172), (b0Z BK166), (b0Z BK167), (b0Z BK168), (Zaa GE166 GE167 GE168)⟩)
                     ·skip
                      refine Kd.R_lit_step k39 _ 39 ?hg (N := 22) ?hd (xs := ([(⟨a1_0, a1_1, a1_2, a1_3⟩ : S39)] : List (S39))) (inner := [.int .i64 a1_0, .int .i64 a1_1, .string a1_2, .int .i64 a1_3]) (ok := fun _ => True) (okp := fun _ => True) ?hr ?hp (fun _ hk => hk) trivial (Below.refl _ _) (Nat.le_refl _) (by simp) ?_; (case hd => rfl); (case hg => rfl); (case hr => first | (go_simp; done) | (go_simp; rfl)); (case hp => exact (Reps.c4 (show Kd.M k39 _ _ _ (⟨a1_0, a1_1, a1_2, a1_3⟩ : S39) [.int .i64 a1_0, .int .i64 a1_1, .string a1_2, .int .i64 a1_3] from (k39_mkM _ _ _ (⟨a1_0, a1_1, a1_2, a1_3⟩ : S39) )) (Reps.none _ _))); intro v177 w30 ho31 hb hg_ hnew_; clear hg_ hnew_
                      (first | rw [← Ny176.out] at ho31 | (simp only [Int.reduceToNat] at ho31; rw [← Ny176.out] at ho31))
                      replace HO178 := am_ (Kd.R_lower (Kd.R_newB ho31 (g := gb167) (b0Z BK167)) (below_size (Zaa GE166 GE167 GE168))); replace BK166 := (bkZ BK166 hb); replace BK167 := (bkZ BK167 hb); replace BK168 := (bkZ BK168 hb); replace HB := (bsZ (Zaa GE166 GE167 GE168) hb); clear hb ho31; refine hK.out _ _ (Zac BK166 BK167) (fun hHeld => ?_); clear hK K; refine normZ 22 ?_; exact norm_ Zs (hJ6 (v177) _ ⟨hHeld, (Zad HO178), (b0Z BK166), (b0Z BK167), (b0Z BK168), (Zaa GE166 GE167 GE168)⟩)
                     ·skip
                      refine box_step ?hg (N := 6) ?hd (cs := #[.slice none 0 0, .slice none 0 0, .slice none 0 0]) (t := 28) ?hr ?_; (case hd => rfl); (case hg => rfl); (case hr => first | (go_simp; done) | (go_simp; rfl)); intro gb191 hg w30 hbox hb; replace BK191 := am_ (hbox); replace GW191 := am_ (((Zae GE166 GE167 GE168) : w.heap.size ≤ gb191)); replace GE191 := GW191; replace HB := (bsZ (Zaa GE166 GE167 GE168) hb); replace NB166_191 := am_ (((Zv BK166) : gb166 ≠ gb191)); replace NB191_166 := am_ (((Zw BK166) : gb191 ≠ gb166)); replace BK166 := (bkZ BK166 hb); replace NB167_191 := am_ (((Zy BK167) : gb167 ≠ gb191)); replace NB191_167 := am_ (((Zz BK167) : gb191 ≠ gb167)); replace BK167 := (bkZ BK167 hb); replace NB168_191 := am_ (((Zaf BK168) : gb168 ≠ gb191)); replace NB191_168 := am_ (((Zag BK168) : gb191 ≠ gb168)); replace BK168 := (bkZ BK168 hb); clear hb hbox hg; refine hK.out _ _ (Zac BK166 BK167) (fun hHeld => ?_); clear hK K; refine normZ 6 ?_; exact norm_ Zs (hJ9 (gb191) _ ⟨hHeld, (b0Z BK166), (b0Z BK167), (b0Z BK168), (b0Z BK191), GW191.out, GE191.out, NB166_191.out, NB191_166.out, NB167_191.out, NB191_167.out, NB168_191.out, NB191_168.out, (Zah GE166 GE167 GE168 GE191)⟩)
                    ·skip
                     rintro gb191 w31 ⟨hS_, h0_, h1_, h2_, h3_, h4_, h5_, h6_, h7_, h8_, h9_, h10_, h11_, h12_⟩
                     (try dsimp only at hS_ h0_ h1_ h2_ h3_ h4_ h5_ h6_ h7_ h8_ h9_ h10_ h11_ h12_)
                     replace BK166 := am_ h0_; replace BK167 := am_ h1_; replace BK168 := am_ h2_; replace BK191 := am_ h3_; replace GW191 := am_ h4_; replace GE191 := am_ h5_; replace NB166_191 := am_ h6_; replace NB191_166 := am_ h7_; replace NB167_191 := am_ h8_; replace NB191_167 := am_ h9_; replace NB168_191 := am_ h10_; replace NB191_168 := am_ h11_; replace HB := am_ h12_; clear h0_ h1_ h2_ h3_ h4_ h5_ h6_ h7_ h8_ h9_ h10_ h11_ h12_; have hHeld := hS_; refine normP ?_; refine two_ (i := 1) (j := 6) (Ni := some 17) (Nj := some 22) (bB 11 559) (bB 11 621) rfl rfl rfl rfl (two_of HT_.out Za) (by decide) (by decide) (fun K hK => ?_) (fun K hK => ?_)
                     ·skip
                      refine Kd.R_lit_step k39 _ 39 ?hg (N := 17) ?hd (xs := ([] : List (S39))) (inner := []) (ok := fun _ => True) (okp := fun _ => True) ?hr ?hp (fun _ hk => hk) trivial (Below.refl _ _) (Nat.le_refl _) (by simp) ?_; (case hd => rfl); (case hg => rfl); (case hr => first | (go_simp; done) | (go_simp; rfl)); (case hp => exact (Reps.none _ _)); intro v171 w32 ho33 hb hg_ hnew_; clear hg_ hnew_
                      (first | rw [← Ny170.out] at ho33 | (simp only [Int.reduceToNat] at ho33; rw [← Ny170.out] at ho33))
                      replace HO172 := am_ (Kd.R_lower (Kd.R_newB ho33 (g := gb167) (b0Z BK167)) (below_size (Zah GE166 GE167 GE168 GE191))); replace BK166 := (bkZ BK166 hb); replace BK167 := (bkZ BK167 hb); replace BK168 := (bkZ BK168 hb); replace BK191 := (bkZ BK191 hb); replace HB := (bsZ (Zah GE166 GE167 GE168 GE191) hb); clear hb ho33; refine hK.out _ _ (Zac BK166 BK167) (fun hHeld => ?_); clear hK K; refine normZ 17 ?_; exact norm_ Zs (hJ1_9 (v171, gb191) _ ⟨hHeld, (Zad HO172), (b0Z BK166), (b0Z BK167), (b0Z BK168), (b0Z BK191), GW191.out, GE191.out, NB166_191.out, NB191_166.out, NB167_191.out, NB191_167.out, NB168_191.out, NB191_168.out, (Zah GE166 GE167 GE168 GE191)⟩)
                     ·skip
                      refine Kd.R_lit_step k39 _ 39 ?hg (N := 22) ?hd (xs := ([(⟨a1_0, a1_1, a1_2, a1_3⟩ : S39)] : List (S39))) (inner := [.int .i64 a1_0, .int .i64 a1_1, .string a1_2, .int .i64 a1_3]) (ok := fun _ => True) (okp := fun _ => True) ?hr ?hp (fun _ hk => hk) trivial (Below.refl _ _) (Nat.le_refl _) (by simp) ?_; (case hd => rfl); (case hg => rfl); (case hr => first | (go_simp; done) | (go_simp; rfl)); (case hp => exact (Reps.c4 (show Kd.M k39 _ _ _ (⟨a1_0, a1_1, a1_2, a1_3⟩ : S39) [.int .i64 a1_0, .int .i64 a1_1, .string a1_2, .int .i64 a1_3] from (k39_mkM _ _ _ (⟨a1_0, a1_1, a1_2, a1_3⟩ : S39) )) (Reps.none _ _))); intro v177 w32 ho33 hb hg_ hnew_; clear hg_ hnew_
                      (first | rw [← Ny176.out] at ho33 | (simp only [Int.reduceToNat] at ho33; rw [← Ny176.out] at ho33))
                      replace HO178 := am_ (Kd.R_lower (Kd.R_newB ho33 (g := gb167) (b0Z BK167)) (below_size (Zah GE166 GE167 GE168 GE191))); replace BK166 := (bkZ BK166 hb); replace BK167 := (bkZ BK167 hb); replace BK168 := (bkZ BK168 hb); replace BK191 := (bkZ BK191 hb); replace HB := (bsZ (Zah GE166 GE167 GE168 GE191) hb); clear hb ho33; refine hK.out _ _ (Zac BK166 BK167) (fun hHeld => ?_); clear hK K; refine normZ 22 ?_; exact norm_ Zs (hJ6_9 (v177, gb191) _ ⟨hHeld, (Zad HO178), (b0Z BK166), (b0Z BK167), (b0Z BK168), (b0Z BK191), GW191.out, GE191.out, NB166_191.out, NB191_166.out, NB167_191.out, NB191_167.out, NB168_191.out, NB191_168.out, (Zah GE166 GE167 GE168 GE191)⟩)
                   ·skip
                    rintro v177 w32 ⟨hS_, h0_, h1_, h2_, h3_, h4_⟩
                    (try dsimp only at hS_ h0_ h1_ h2_ h3_ h4_)
                    replace HO178 := am_ h0_; replace BK166 := am_ h1_; replace BK167 := am_ h2_; replace BK168 := am_ h3_; replace HB := am_ h4_; clear h0_ h1_ h2_ h3_ h4_; have hHeld := hS_; refine normP ?_; refine two_ (i := 1) (j := 9) (Ni := some 17) (Nj := some 6) (bB 11 111) (bB 11 621) rfl rfl rfl rfl (two_of HT_.out Za) (by decide) (by decide) (fun K hK => ?_) (fun K hK => ?_)
                    ·skip
                     refine Kd.R_lit_step k39 _ 39 ?hg (N := 17) ?hd (xs := ([] : List (S39))) (inner := []) (ok := fun _ => True) (okp := fun _ => True) ?hr ?hp (fun _ hk => hk) trivial (Below.refl _ _) (Nat.le_refl _) (by simp) ?_; (case hd => rfl); (case hg => rfl); (case hr => first | (go_simp; done) | (go_simp; rfl)); (case hp => exact (Reps.none _ _)); intro v171 w33 ho34 hb hg_ hnew_; clear hg_ hnew_
                     (first | rw [← Ny170.out] at ho34 | (simp only [Int.reduceToNat] at ho34; rw [← Ny170.out] at ho34))
                     replace HO172 := am_ (Kd.R_lower (Kd.R_newB (Kd.R_new' ho34 (Kd.R_lt (Zt HO178))) (g := gb167) (b0Z BK167)) (below_size (Zaa GE166 GE167 GE168))); replace HO178 := am_ (Kd.R_elder' (Zt HO178) (Kd.R_base ho34) hb); replace BK166 := (bkZ BK166 hb); replace BK167 := (bkZ BK167 hb); replace BK168 := (bkZ BK168 hb); replace HB := (bsZ (Zaa GE166 GE167 GE168) hb); clear hb ho34; refine hK.out _ _ (Zac BK166 BK167) (fun hHeld => ?_); clear hK K; refine normZ 17 ?_; exact norm_ Zs (hJ1_6 (v171, v177) _ ⟨hHeld, (Zai HO172), (Zaj HO178), (b0Z BK166), (b0Z BK167), (b0Z BK168), (Zaa GE166 GE167 GE168)⟩)
                    ·skip
                     refine box_step ?hg (N := 6) ?hd (cs := #[.slice none 0 0, .slice none 0 0, .slice none 0 0]) (t := 28) ?hr ?_; (case hd => rfl); (case hg => rfl); (case hr => first | (go_simp; done) | (go_simp; rfl)); intro gb191 hg w33 hbox hb; replace HO178 := (hbZ HO178 hb); replace BK191 := am_ (hbox); replace GW191 := am_ (((Zae GE166 GE167 GE168) : w.heap.size ≤ gb191)); replace GE191 := GW191; replace HB := (bsZ (Zaa GE166 GE167 GE168) hb); replace NB166_191 := am_ (((Zv BK166) : gb166 ≠ gb191)); replace NB191_166 := am_ (((Zw BK166) : gb191 ≠ gb166)); replace BK166 := (bkZ BK166 hb); replace NB167_191 := am_ (((Zy BK167) : gb167 ≠ gb191)); replace NB191_167 := am_ (((Zz BK167) : gb191 ≠ gb167)); replace BK167 := (bkZ BK167 hb); replace NB168_191 := am_ (((Zaf BK168) : gb168 ≠ gb191)); replace NB191_168 := am_ (((Zag BK168) : gb191 ≠ gb168)); replace BK168 := (bkZ BK168 hb); clear hb hbox hg; refine hK.out _ _ (Zac BK166 BK167) (fun hHeld => ?_); clear hK K; refine normZ 6 ?_; exact norm_ Zs (hJ6_9 (v177, gb191) _ ⟨hHeld, (Zt HO178), (b0Z BK166), (b0Z BK167), (b0Z BK168), (b0Z BK191), GW191.out, GE191.out, NB166_191.out, NB191_166.out, NB167_191.out, NB191_167.out, NB168_191.out, NB191_168.out, (Zah GE166 GE167 GE168 GE191)⟩)
                  ·skip
                   rintro v171 w32 ⟨hS_, h0_, h1_, h2_, h3_, h4_⟩
                   (try dsimp only at hS_ h0_ h1_ h2_ h3_ h4_)
                   replace HO172 := am_ h0_; replace BK166 := am_ h1_; replace BK167 := am_ h2_; replace BK168 := am_ h3_; replace HB := am_ h4_; clear h0_ h1_ h2_ h3_ h4_; have hHeld := hS_; refine normP ?_; refine three_ (i := 4) (j := 6) (k := 9) (Ni := some 20) (Nj := some 22) (Nk := some 6) (bT 11 6) (bB 11 111) (bB 11 559) rfl rfl rfl rfl rfl rfl (three_of HT_.out Za) (by decide) (by decide) (by decide) (fun K hK => ?_) (fun K hK => ?_) (fun K hK => ?_)
                   ·skip
                    refine Kd.R_append_rows_step k39 (w0 := w) w.heap.size (by rfl) (.tmp 17) (.tmp 19) 26 39 (.agg #[(.int .i64 0), (.int .i64 0), (.string ⟨#[]⟩), (.int .i64 0)]) 40 rfl Try.underlying26 info39 rfl (by decide) (by omega) v171 y170 l0_2 _ _ _ (fun k_ => k_ ≠ gb167) (fun _ => False) rfl rfl ?aO ?aR (fun _ _ h => h) (fun _ h => h.elim) ?aF ?aB ?aS ?aL ?_
                    (case aR => repeat (first | exact (Kd.C_below HR0_2.out HB.out) | (with_reducible refine Kd.C_alloc ?_ _) | (with_reducible refine Kd.C_drewN ?_ _) | (with_reducible refine Kd.C_drew ?_)))
                    (case aB => exact (Zaa GE166 GE167 GE168))
                    (case aF => exact (fun k_ hk => Kd.freshB (g := gb167) (b0Z BK167) k_ hk))
                    (case aO => exact (Zt HO172))
                    (case aS => exact (below_size (Zaa GE166 GE167 GE168)))
                    (case aL => have := LMc16.out; omega)
                    intro v174 w33 ho hb hg hat; rw [← Ny173.out] at ho; replace BK166 := am_ (blk_grown (g := gb166) (b0Z BK166) hg (Kd.R_ne HO172.out BK166.out (by decide))); replace BK167 := am_ (blk_grown (g := gb167) (b0Z BK167) hg (Kd.R_away HO172.out (fun _ hk => hk))); replace BK168 := am_ (blk_grown (g := gb168) (b0Z BK168) hg (Kd.R_ne HO172.out BK168.out (by decide))); replace HB := am_ (hb); replace HO175 := am_ (ho); clear HO172; clear ho hb hg hat; refine hK.out _ _ (Zac BK166 BK167) (fun hHeld => ?_); clear hK K; refine normZ 20 ?_; exact norm_ Zs (hJ1_4 (v171, v174) _ ⟨hHeld, (Zt HO175), (b0Z BK166), (b0Z BK167), (b0Z BK168), (Zaa GE166 GE167 GE168)⟩)
                   ·skip
                    refine Kd.R_lit_step k39 _ 39 ?hg (N := 22) ?hd (xs := ([(⟨a1_0, a1_1, a1_2, a1_3⟩ : S39)] : List (S39))) (inner := [.int .i64 a1_0, .int .i64 a1_1, .string a1_2, .int .i64 a1_3]) (ok := fun _ => True) (okp := fun _ => True) ?hr ?hp (fun _ hk => hk) trivial (Below.refl _ _) (Nat.le_refl _) (by simp) ?_; (case hd => rfl); (case hg => rfl); (case hr => first | (go_simp; done) | (go_simp; rfl)); (case hp => exact (Reps.c4 (show Kd.M k39 _ _ _ (⟨a1_0, a1_1, a1_2, a1_3⟩ : S39) [.int .i64 a1_0, .int .i64 a1_1, .string a1_2, .int .i64 a1_3] from (k39_mkM _ _ _ (⟨a1_0, a1_1, a1_2, a1_3⟩ : S39) )) (Reps.none _ _))); intro v177 w33 ho34 hb hg_ hnew_; clear hg_ hnew_
                    (first | rw [← Ny176.out] at ho34 | (simp only [Int.reduceToNat] at ho34; rw [← Ny176.out] at ho34))
                    replace HO178 := am_ (Kd.R_lower (Kd.R_newB (Kd.R_new' ho34 (Kd.R_lt (Zt HO172))) (g := gb167) (b0Z BK167)) (below_size (Zaa GE166 GE167 GE168))); replace HO172 := am_ (Kd.R_elder' (Zt HO172) (Kd.R_base ho34) hb); replace BK166 := (bkZ BK166 hb); replace BK167 := (bkZ BK167 hb); replace BK168 := (bkZ BK168 hb); replace HB := (bsZ (Zaa GE166 GE167 GE168) hb); clear hb ho34; refine hK.out _ _ (Zac BK166 BK167) (fun hHeld => ?_); clear hK K; refine normZ 22 ?_; exact norm_ Zs (hJ1_6 (v171, v177) _ ⟨hHeld, (Zaj HO172), (Zai HO178), (b0Z BK166), (b0Z BK167), (b0Z BK168), (Zaa GE166 GE167 GE168)⟩)
                   ·skip
                    refine box_step ?hg (N := 6) ?hd (cs := #[.slice none 0 0, .slice none 0 0, .slice none 0 0]) (t := 28) ?hr ?_; (case hd => rfl); (case hg => rfl); (case hr => first | (go_simp; done) | (go_simp; rfl)); intro gb191 hg w33 hbox hb; replace HO172 := (hbZ HO172 hb); replace BK191 := am_ (hbox); replace GW191 := am_ (((Zae GE166 GE167 GE168) : w.heap.size ≤ gb191)); replace GE191 := GW191; replace HB := (bsZ (Zaa GE166 GE167 GE168) hb); replace NB166_191 := am_ (((Zv BK166) : gb166 ≠ gb191)); replace NB191_166 := am_ (((Zw BK166) : gb191 ≠ gb166)); replace BK166 := (bkZ BK166 hb); replace NB167_191 := am_ (((Zy BK167) : gb167 ≠ gb191)); replace NB191_167 := am_ (((Zz BK167) : gb191 ≠ gb167)); replace BK167 := (bkZ BK167 hb); replace NB168_191 := am_ (((Zaf BK168) : gb168 ≠ gb191)); replace NB191_168 := am_ (((Zag BK168) : gb191 ≠ gb168)); replace BK168 := (bkZ BK168 hb); clear hb hbox hg; refine hK.out _ _ (Zac BK166 BK167) (fun hHeld => ?_); clear hK K; refine normZ 6 ?_; exact norm_ Zs (hJ1_9 (v171, gb191) _ ⟨hHeld, (Zt HO172), (b0Z BK166), (b0Z BK167), (b0Z BK168), (b0Z BK191), GW191.out, GE191.out, NB166_191.out, NB191_166.out, NB167_191.out, NB191_167.out, NB168_191.out, NB191_168.out, (Zah GE166 GE167 GE168 GE191)⟩)
                 ·skip
                  rintro ⟨v177, gb191⟩ w33 ⟨hS_, h0_, h1_, h2_, h3_, h4_, h5_, h6_, h7_, h8_, h9_, h10_, h11_, h12_, h13_⟩
                  (try dsimp only at hS_ h0_ h1_ h2_ h3_ h4_ h5_ h6_ h7_ h8_ h9_ h10_ h11_ h12_ h13_)
                  replace HO178 := am_ h0_; replace BK166 := am_ h1_; replace BK167 := am_ h2_; replace BK168 := am_ h3_; replace BK191 := am_ h4_; replace GW191 := am_ h5_; replace GE191 := am_ h6_; replace NB166_191 := am_ h7_; replace NB191_166 := am_ h8_; replace NB167_191 := am_ h9_; replace NB191_167 := am_ h10_; replace NB168_191 := am_ h11_; replace NB191_168 := am_ h12_; replace HB := am_ h13_; clear h0_ h1_ h2_ h3_ h4_ h5_ h6_ h7_ h8_ h9_ h10_ h11_ h12_ h13_; have hHeld := hS_; refine normP ?_; refine one_ (i := 1) (N := some 17) (bB 11 623) rfl rfl (one_of HT_.out Za) (by decide) (fun K hK => ?_); refine Kd.R_lit_step k39 _ 39 ?hg (N := 17) ?hd (xs := ([] : List (S39))) (inner := []) (ok := fun _ => True) (okp := fun _ => True) ?hr ?hp (fun _ hk => hk) trivial (Below.refl _ _) (Nat.le_refl _) (by simp) ?_; (case hd => rfl); (case hg => rfl); (case hr => first | (go_simp; done) | (go_simp; rfl)); (case hp => exact (Reps.none _ _)); intro v171 w34 ho35 hb hg_ hnew_; clear hg_ hnew_
                  (first | rw [← Ny170.out] at ho35 | (simp only [Int.reduceToNat] at ho35; rw [← Ny170.out] at ho35))
                  replace HO172 := am_ (Kd.R_lower (Kd.R_newB (Kd.R_new' ho35 (Kd.R_lt (Zt HO178))) (g := gb167) (b0Z BK167)) (below_size (Zah GE166 GE167 GE168 GE191))); replace HO178 := am_ (Kd.R_elder' (Zt HO178) (Kd.R_base ho35) hb); replace BK166 := (bkZ BK166 hb); replace BK167 := (bkZ BK167 hb); replace BK168 := (bkZ BK168 hb); replace BK191 := (bkZ BK191 hb); replace HB := (bsZ (Zah GE166 GE167 GE168 GE191) hb); clear hb ho35; refine hK.out _ _ (Zac BK166 BK167) (fun hHeld => ?_); clear hK K; refine normZ 17 ?_; exact norm_ Zs (hJ1_6_9 (v171, v177, gb191) _ ⟨hHeld, (Zai HO172), (Zaj HO178), (b0Z BK166), (b0Z BK167), (b0Z BK168), (b0Z BK191), GW191.out, GE191.out, NB166_191.out, NB191_166.out, NB167_191.out, NB191_167.out, NB168_191.out, NB191_168.out, (Zah GE166 GE167 GE168 GE191)⟩)
                ·skip
                 rintro ⟨v171, gb191⟩ w33 ⟨hS_, h0_, h1_, h2_, h3_, h4_, h5_, h6_, h7_, h8_, h9_, h10_, h11_, h12_, h13_⟩
                 (try dsimp only at hS_ h0_ h1_ h2_ h3_ h4_ h5_ h6_ h7_ h8_ h9_ h10_ h11_ h12_ h13_)
                 replace HO172 := am_ h0_; replace BK166 := am_ h1_; replace BK167 := am_ h2_; replace BK168 := am_ h3_; replace BK191 := am_ h4_; replace GW191 := am_ h5_; replace GE191 := am_ h6_; replace NB166_191 := am_ h7_; replace NB191_166 := am_ h8_; replace NB167_191 := am_ h9_; replace NB191_167 := am_ h10_; replace NB168_191 := am_ h11_; replace NB191_168 := am_ h12_; replace HB := am_ h13_; clear h0_ h1_ h2_ h3_ h4_ h5_ h6_ h7_ h8_ h9_ h10_ h11_ h12_ h13_; have hHeld := hS_; refine normP ?_; refine two_ (i := 4) (j := 6) (Ni := some 20) (Nj := some 22) (bB 11 575) (bB 11 623) rfl rfl rfl rfl (two_of HT_.out Za) (by decide) (by decide) (fun K hK => ?_) (fun K hK => ?_)
                 ·skip
                  refine Kd.R_append_rows_step k39 (w0 := w) w.heap.size (by rfl) (.tmp 17) (.tmp 19) 26 39 (.agg #[(.int .i64 0), (.int .i64 0), (.string ⟨#[]⟩), (.int .i64 0)]) 40 rfl Try.underlying26 info39 rfl (by decide) (by omega) v171 y170 l0_2 _ _ _ (fun k_ => k_ ≠ gb167) (fun _ => False) rfl rfl ?aO ?aR (fun _ _ h => h) (fun _ h => h.elim) ?aF ?aB ?aS ?aL ?_
                  (case aR => repeat (first | exact (Kd.C_below HR0_2.out HB.out) | (with_reducible refine Kd.C_alloc ?_ _) | (with_reducible refine Kd.C_drewN ?_ _) | (with_reducible refine Kd.C_drew ?_)))
                  (case aB => exact (Zah GE166 GE167 GE168 GE191))
                  (case aF => exact (fun k_ hk => Kd.freshB (g := gb167) (b0Z BK167) k_ hk))
                  (case aO => exact (Zt HO172))
                  (case aS => exact (below_size (Zah GE166 GE167 GE168 GE191)))
                  (case aL => have := LMc16.out; omega)
                  intro v174 w34 ho hb hg hat; rw [← Ny173.out] at ho; replace BK166 := am_ (blk_grown (g := gb166) (b0Z BK166) hg (Kd.R_ne HO172.out BK166.out (by decide))); replace BK167 := am_ (blk_grown (g := gb167) (b0Z BK167) hg (Kd.R_away HO172.out (fun _ hk => hk))); replace BK168 := am_ (blk_grown (g := gb168) (b0Z BK168) hg (Kd.R_ne HO172.out BK168.out (by decide))); replace BK191 := am_ (blk_grown (g := gb191) (b0Z BK191) hg (Kd.R_ne HO172.out BK191.out (by decide))); replace HB := am_ (hb); replace HO175 := am_ (ho); clear HO172; clear ho hb hg hat; refine hK.out _ _ (Zac BK166 BK167) (fun hHeld => ?_); clear hK K; refine normZ 20 ?_; exact norm_ Zs (hJ1_4_9 (v171, v174, gb191) _ ⟨hHeld, (Zt HO175), (b0Z BK166), (b0Z BK167), (b0Z BK168), (b0Z BK191), GW191.out, GE191.out, NB166_191.out, NB191_166.out, NB167_191.out, NB191_167.out, NB168_191.out, NB191_168.out, (Zah GE166 GE167 GE168 GE191)⟩)
                 ·skip
                  refine Kd.R_lit_step k39 _ 39 ?hg (N := 22) ?hd (xs := ([(⟨a1_0, a1_1, a1_2, a1_3⟩ : S39)] : List (S39))) (inner := [.int .i64 a1_0, .int .i64 a1_1, .string a1_2, .int .i64 a1_3]) (ok := fun _ => True) (okp := fun _ => True) ?hr ?hp (fun _ hk => hk) trivial (Below.refl _ _) (Nat.le_refl _) (by simp) ?_; (case hd => rfl); (case hg => rfl); (case hr => first | (go_simp; done) | (go_simp; rfl)); (case hp => exact (Reps.c4 (show Kd.M k39 _ _ _ (⟨a1_0, a1_1, a1_2, a1_3⟩ : S39) [.int .i64 a1_0, .int .i64 a1_1, .string a1_2, .int .i64 a1_3] from (k39_mkM _ _ _ (⟨a1_0, a1_1, a1_2, a1_3⟩ : S39) )) (Reps.none _ _))); intro v177 w34 ho35 hb hg_ hnew_; clear hg_ hnew_
                  (first | rw [← Ny176.out] at ho35 | (simp only [Int.reduceToNat] at ho35; rw [← Ny176.out] at ho35))
                  replace HO178 := am_ (Kd.R_lower (Kd.R_newB (Kd.R_new' ho35 (Kd.R_lt (Zt HO172))) (g := gb167) (b0Z BK167)) (below_size (Zah GE166 GE167 GE168 GE191))); replace HO172 := am_ (Kd.R_elder' (Zt HO172) (Kd.R_base ho35) hb); replace BK166 := (bkZ BK166 hb); replace BK167 := (bkZ BK167 hb); replace BK168 := (bkZ BK168 hb); replace BK191 := (bkZ BK191 hb); replace HB := (bsZ (Zah GE166 GE167 GE168 GE191) hb); clear hb ho35; refine hK.out _ _ (Zac BK166 BK167) (fun hHeld => ?_); clear hK K; refine normZ 22 ?_; exact norm_ Zs (hJ1_6_9 (v171, v177, gb191) _ ⟨hHeld, (Zaj HO172), (Zai HO178), (b0Z BK166), (b0Z BK167), (b0Z BK168), (b0Z BK191), GW191.out, GE191.out, NB166_191.out, NB191_166.out, NB167_191.out, NB191_167.out, NB168_191.out, NB191_168.out, (Zah GE166 GE167 GE168 GE191)⟩)
               ·skip
                rintro ⟨v171, v177⟩ w34 ⟨hS_, h0_, h1_, h2_, h3_, h4_, h5_⟩
                (try dsimp only at hS_ h0_ h1_ h2_ h3_ h4_ h5_)
                replace HO172 := am_ h0_; replace HO178 := am_ h1_; replace BK166 := am_ h2_; replace BK167 := am_ h3_; replace BK168 := am_ h4_; replace HB := am_ h5_; clear h0_ h1_ h2_ h3_ h4_ h5_; have hHeld := hS_; refine normP ?_; refine two_ (i := 4) (j := 9) (Ni := some 20) (Nj := some 6) (bT 11 7) (bB 11 623) rfl rfl rfl rfl (two_of HT_.out Za) (by decide) (by decide) (fun K hK => ?_) (fun K hK => ?_)
                ·skip
                 refine Kd.R_append_rows_step k39 (w0 := w) w.heap.size (by rfl) (.tmp 17) (.tmp 19) 26 39 (.agg #[(.int .i64 0), (.int .i64 0), (.string ⟨#[]⟩), (.int .i64 0)]) 40 rfl Try.underlying26 info39 rfl (by decide) (by omega) v171 y170 l0_2 _ _ _ (fun k_ => some k_ ≠ (v177 : Value).ownBlock ∧ k_ ≠ gb167) (fun _ => False) rfl rfl ?aO ?aR (fun _ _ h => h) (fun _ h => h.elim) ?aF ?aB ?aS ?aL ?_
                 (case aR => repeat (first | exact (Kd.C_below HR0_2.out HB.out) | (with_reducible refine Kd.C_alloc ?_ _) | (with_reducible refine Kd.C_drewN ?_ _) | (with_reducible refine Kd.C_drew ?_)))
                 (case aB => exact (Zaa GE166 GE167 GE168))
                 (case aF => exact (fun k_ hk => ⟨Kd.fresh' (Kd.R_lt (Zt HO178)) k_ hk, Kd.freshB (g := gb167) (b0Z BK167) k_ hk⟩))
                 (case aO => exact (Zt HO172))
                 (case aS => exact (below_size (Zaa GE166 GE167 GE168)))
                 (case aL => have := LMc16.out; omega)
                 intro v174 w35 ho hb hg hat; rw [← Ny173.out] at ho; replace BK166 := am_ (blk_grown (g := gb166) (b0Z BK166) hg (Kd.R_ne HO172.out BK166.out (by decide))); replace BK167 := am_ (blk_grown (g := gb167) (b0Z BK167) hg (Kd.R_away HO172.out (fun _ hk => hk.2))); replace BK168 := am_ (blk_grown (g := gb168) (b0Z BK168) hg (Kd.R_ne HO172.out BK168.out (by decide))); replace HO178 := am_ (Kd.R_after (ok := (fun k_ => k_ ≠ gb167)) (Zaj HO178) hg hat); replace HB := am_ (hb); replace HO175 := am_ (ho); clear HO172; clear ho hb hg hat; refine hK.out _ _ (Zac BK166 BK167) (fun hHeld => ?_); clear hK K; refine normZ 20 ?_; exact norm_ Zs (hJ1_4_6 (v171, v174, v177) _ ⟨hHeld, (Zt HO175), (Zaj HO178), (b0Z BK166), (b0Z BK167), (b0Z BK168), (Zaa GE166 GE167 GE168)⟩)
                ·skip
                 refine box_step ?hg (N := 6) ?hd (cs := #[.slice none 0 0, .slice none 0 0, .slice none 0 0]) (t := 28) ?hr ?_; (case hd => rfl); (case hg => rfl); (case hr => first | (go_simp; done) | (go_simp; rfl)); intro gb191 hg w35 hbox hb; replace HO172 := (hbZ HO172 hb); replace HO178 := (hbZ HO178 hb); replace BK191 := am_ (hbox); replace GW191 := am_ (((Zae GE166 GE167 GE168) : w.heap.size ≤ gb191)); replace GE191 := GW191; replace HB := (bsZ (Zaa GE166 GE167 GE168) hb); replace NB166_191 := am_ (((Zv BK166) : gb166 ≠ gb191)); replace NB191_166 := am_ (((Zw BK166) : gb191 ≠ gb166)); replace BK166 := (bkZ BK166 hb); replace NB167_191 := am_ (((Zy BK167) : gb167 ≠ gb191)); replace NB191_167 := am_ (((Zz BK167) : gb191 ≠ gb167)); replace BK167 := (bkZ BK167 hb); replace NB168_191 := am_ (((Zaf BK168) : gb168 ≠ gb191)); replace NB191_168 := am_ (((Zag BK168) : gb191 ≠ gb168)); replace BK168 := (bkZ BK168 hb); clear hb hbox hg; refine hK.out _ _ (Zac BK166 BK167) (fun hHeld => ?_); clear hK K; refine normZ 6 ?_; exact norm_ Zs (hJ1_6_9 (v171, v177, gb191) _ ⟨hHeld, (Zt HO172), (Zt HO178), (b0Z BK166), (b0Z BK167), (b0Z BK168), (b0Z BK191), GW191.out, GE191.out, NB166_191.out, NB191_166.out, NB167_191.out, NB191_167.out, NB168_191.out, NB191_168.out, (Zah GE166 GE167 GE168 GE191)⟩)
              ·skip
               rintro ⟨v171, v174⟩ w33 ⟨hS_, h0_, h1_, h2_, h3_, h4_⟩
               (try dsimp only at hS_ h0_ h1_ h2_ h3_ h4_)
               replace HO175 := am_ h0_; replace BK166 := am_ h1_; replace BK167 := am_ h2_; replace BK168 := am_ h3_; replace HB := am_ h4_; clear h0_ h1_ h2_ h3_ h4_; have hHeld := hS_; refine normP ?_; refine two_ (i := 6) (j := 9) (Ni := some 22) (Nj := some 6) (bT 11 7) (bB 11 575) rfl rfl rfl rfl (two_of HT_.out Za) (by decide) (by decide) (fun K hK => ?_) (fun K hK => ?_)
               ·skip
                refine Kd.R_lit_step k39 _ 39 ?hg (N := 22) ?hd (xs := ([(⟨a1_0, a1_1, a1_2, a1_3⟩ : S39)] : List (S39))) (inner := [.int .i64 a1_0, .int .i64 a1_1, .string a1_2, .int .i64 a1_3]) (ok := fun _ => True) (okp := fun _ => True) ?hr ?hp (fun _ hk => hk) trivial (Below.refl _ _) (Nat.le_refl _) (by simp) ?_; (case hd => rfl); (case hg => rfl); (case hr => first | (go_simp; done) | (go_simp; rfl)); (case hp => exact (Reps.c4 (show Kd.M k39 _ _ _ (⟨a1_0, a1_1, a1_2, a1_3⟩ : S39) [.int .i64 a1_0, .int .i64 a1_1, .string a1_2, .int .i64 a1_3] from (k39_mkM _ _ _ (⟨a1_0, a1_1, a1_2, a1_3⟩ : S39) )) (Reps.none _ _))); intro v177 w34 ho35 hb hg_ hnew_; clear hg_ hnew_
                (first | rw [← Ny176.out] at ho35 | (simp only [Int.reduceToNat] at ho35; rw [← Ny176.out] at ho35))
                replace HO178 := am_ (Kd.R_lower (Kd.R_newB (Kd.R_new' ho35 (Kd.R_lt (Zt HO175))) (g := gb167) (b0Z BK167)) (below_size (Zaa GE166 GE167 GE168))); replace HO175 := am_ (Kd.R_elder' (Zt HO175) (Kd.R_base ho35) hb); replace BK166 := (bkZ BK166 hb); replace BK167 := (bkZ BK167 hb); replace BK168 := (bkZ BK168 hb); replace HB := (bsZ (Zaa GE166 GE167 GE168) hb); clear hb ho35; refine hK.out _ _ (Zac BK166 BK167) (fun hHeld => ?_); clear hK K; refine normZ 22 ?_; exact norm_ Zs (hJ1_4_6 (v171, v174, v177) _ ⟨hHeld, (Zaj HO175), (Zai HO178), (b0Z BK166), (b0Z BK167), (b0Z BK168), (Zaa GE166 GE167 GE168)⟩)
               ·skip
                refine box_step ?hg (N := 6) ?hd (cs := #[.slice none 0 0, .slice none 0 0, .slice none 0 0]) (t := 28) ?hr ?_; (case hd => rfl); (case hg => rfl); (case hr => first | (go_simp; done) | (go_simp; rfl)); intro gb191 hg w34 hbox hb; replace HO175 := (hbZ HO175 hb); replace BK191 := am_ (hbox); replace GW191 := am_ (((Zae GE166 GE167 GE168) : w.heap.size ≤ gb191)); replace GE191 := GW191; replace HB := (bsZ (Zaa GE166 GE167 GE168) hb); replace NB166_191 := am_ (((Zv BK166) : gb166 ≠ gb191)); replace NB191_166 := am_ (((Zw BK166) : gb191 ≠ gb166)); replace BK166 := (bkZ BK166 hb); replace NB167_191 := am_ (((Zy BK167) : gb167 ≠ gb191)); replace NB191_167 := am_ (((Zz BK167) : gb191 ≠ gb167)); replace BK167 := (bkZ BK167 hb); replace NB168_191 := am_ (((Zaf BK168) : gb168 ≠ gb191)); replace NB191_168 := am_ (((Zag BK168) : gb191 ≠ gb168)); replace BK168 := (bkZ BK168 hb); clear hb hbox hg; refine hK.out _ _ (Zac BK166 BK167) (fun hHeld => ?_); clear hK K; refine normZ 6 ?_; exact norm_ Zs (hJ1_4_9 (v171, v174, gb191) _ ⟨hHeld, (Zt HO175), (b0Z BK166), (b0Z BK167), (b0Z BK168), (b0Z BK191), GW191.out, GE191.out, NB166_191.out, NB191_166.out, NB167_191.out, NB191_167.out, NB168_191.out, NB191_168.out, (Zah GE166 GE167 GE168 GE191)⟩)
             ·skip
              rintro ⟨v171, v177, gb191⟩ w35 ⟨hS_, h0_, h1_, h2_, h3_, h4_, h5_, h6_, h7_, h8_, h9_, h10_, h11_, h12_, h13_, h14_⟩
              (try dsimp only at hS_ h0_ h1_ h2_ h3_ h4_ h5_ h6_ h7_ h8_ h9_ h10_ h11_ h12_ h13_ h14_)
              replace HO172 := am_ h0_; replace HO178 := am_ h1_; replace BK166 := am_ h2_; replace BK167 := am_ h3_; replace BK168 := am_ h4_; replace BK191 := am_ h5_; replace GW191 := am_ h6_; replace GE191 := am_ h7_; replace NB166_191 := am_ h8_; replace NB191_166 := am_ h9_; replace NB167_191 := am_ h10_; replace NB191_167 := am_ h11_; replace NB168_191 := am_ h12_; replace NB191_168 := am_ h13_; replace HB := am_ h14_; clear h0_ h1_ h2_ h3_ h4_ h5_ h6_ h7_ h8_ h9_ h10_ h11_ h12_ h13_ h14_; have hHeld := hS_; refine normP ?_; refine one_ (i := 4) (N := some 20) (bB 11 639) rfl rfl (one_of HT_.out Za) (by decide) (fun K hK => ?_); refine Kd.R_append_rows_step k39 (w0 := w) w.heap.size (by rfl) (.tmp 17) (.tmp 19) 26 39 (.agg #[(.int .i64 0), (.int .i64 0), (.string ⟨#[]⟩), (.int .i64 0)]) 40 rfl Try.underlying26 info39 rfl (by decide) (by omega) v171 y170 l0_2 _ _ _ (fun k_ => some k_ ≠ (v177 : Value).ownBlock ∧ k_ ≠ gb167) (fun _ => False) rfl rfl ?aO ?aR (fun _ _ h => h) (fun _ h => h.elim) ?aF ?aB ?aS ?aL ?_
              (case aR => repeat (first | exact (Kd.C_below HR0_2.out HB.out) | (with_reducible refine Kd.C_alloc ?_ _) | (with_reducible refine Kd.C_drewN ?_ _) | (with_reducible refine Kd.C_drew ?_)))
              (case aB => exact (Zah GE166 GE167 GE168 GE191))
              (case aF => exact (fun k_ hk => ⟨Kd.fresh' (Kd.R_lt (Zt HO178)) k_ hk, Kd.freshB (g := gb167) (b0Z BK167) k_ hk⟩))
              (case aO => exact (Zt HO172))
              (case aS => exact (below_size (Zah GE166 GE167 GE168 GE191)))
              (case aL => have := LMc16.out; omega)
              intro v174 w36 ho hb hg hat; rw [← Ny173.out] at ho; replace BK166 := am_ (blk_grown (g := gb166) (b0Z BK166) hg (Kd.R_ne HO172.out BK166.out (by decide))); replace BK167 := am_ (blk_grown (g := gb167) (b0Z BK167) hg (Kd.R_away HO172.out (fun _ hk => hk.2))); replace BK168 := am_ (blk_grown (g := gb168) (b0Z BK168) hg (Kd.R_ne HO172.out BK168.out (by decide))); replace HO178 := am_ (Kd.R_after (ok := (fun k_ => k_ ≠ gb167)) (Zaj HO178) hg hat); replace BK191 := am_ (blk_grown (g := gb191) (b0Z BK191) hg (Kd.R_ne HO172.out BK191.out (by decide))); replace HB := am_ (hb); replace HO175 := am_ (ho); clear HO172; clear ho hb hg hat; refine hK.out _ _ (Zac BK166 BK167) (fun hHeld => ?_); clear hK K; refine normZ 20 ?_; exact norm_ Zs (hJ1_4_6_9 (v171, v174, v177, gb191) _ ⟨hHeld, (Zt HO175), (Zaj HO178), (b0Z BK166), (b0Z BK167), (b0Z BK168), (b0Z BK191), GW191.out, GE191.out, NB166_191.out, NB191_166.out, NB167_191.out, NB191_167.out, NB168_191.out, NB191_168.out, (Zah GE166 GE167 GE168 GE191)⟩)
            ·skip
             rintro ⟨v171, v174, gb191⟩ w34 ⟨hS_, h0_, h1_, h2_, h3_, h4_, h5_, h6_, h7_, h8_, h9_, h10_, h11_, h12_, h13_⟩
             (try dsimp only at hS_ h0_ h1_ h2_ h3_ h4_ h5_ h6_ h7_ h8_ h9_ h10_ h11_ h12_ h13_)
             replace HO175 := am_ h0_; replace BK166 := am_ h1_; replace BK167 := am_ h2_; replace BK168 := am_ h3_; replace BK191 := am_ h4_; replace GW191 := am_ h5_; replace GE191 := am_ h6_; replace NB166_191 := am_ h7_; replace NB191_166 := am_ h8_; replace NB167_191 := am_ h9_; replace NB191_167 := am_ h10_; replace NB168_191 := am_ h11_; replace NB191_168 := am_ h12_; replace HB := am_ h13_; clear h0_ h1_ h2_ h3_ h4_ h5_ h6_ h7_ h8_ h9_ h10_ h11_ h12_ h13_; have hHeld := hS_; refine normP ?_; refine one_ (i := 6) (N := some 22) (bB 11 639) rfl rfl (one_of HT_.out Za) (by decide) (fun K hK => ?_); refine Kd.R_lit_step k39 _ 39 ?hg (N := 22) ?hd (xs := ([(⟨a1_0, a1_1, a1_2, a1_3⟩ : S39)] : List (S39))) (inner := [.int .i64 a1_0, .int .i64 a1_1, .string a1_2, .int .i64 a1_3]) (ok := fun _ => True) (okp := fun _ => True) ?hr ?hp (fun _ hk => hk) trivial (Below.refl _ _) (Nat.le_refl _) (by simp) ?_; (case hd => rfl); (case hg => rfl); (case hr => first | (go_simp; done) | (go_simp; rfl)); (case hp => exact (Reps.c4 (show Kd.M k39 _ _ _ (⟨a1_0, a1_1, a1_2, a1_3⟩ : S39) [.int .i64 a1_0, .int .i64 a1_1, .string a1_2, .int .i64 a1_3] from (k39_mkM _ _ _ (⟨a1_0, a1_1, a1_2, a1_3⟩ : S39) )) (Reps.none _ _))); intro v177 w35 ho36 hb hg_ hnew_; clear hg_ hnew_
             (first | rw [← Ny176.out] at ho36 | (simp only [Int.reduceToNat] at ho36; rw [← Ny176.out] at ho36))
             replace HO178 := am_ (Kd.R_lower (Kd.R_newB (Kd.R_new' ho36 (Kd.R_lt (Zt HO175))) (g := gb167) (b0Z BK167)) (below_size (Zah GE166 GE167 GE168 GE191))); replace HO175 := am_ (Kd.R_elder' (Zt HO175) (Kd.R_base ho36) hb); replace BK166 := (bkZ BK166 hb); replace BK167 := (bkZ BK167 hb); replace BK168 := (bkZ BK168 hb); replace BK191 := (bkZ BK191 hb); replace HB := (bsZ (Zah GE166 GE167 GE168 GE191) hb); clear hb ho36; refine hK.out _ _ (Zac BK166 BK167) (fun hHeld => ?_); clear hK K; refine normZ 22 ?_; exact norm_ Zs (hJ1_4_6_9 (v171, v174, v177, gb191) _ ⟨hHeld, (Zaj HO175), (Zai HO178), (b0Z BK166), (b0Z BK167), (b0Z BK168), (b0Z BK191), GW191.out, GE191.out, NB166_191.out, NB191_166.out, NB167_191.out, NB191_167.out, NB168_191.out, NB191_168.out, (Zah GE166 GE167 GE168 GE191)⟩)
           ·skip
            rintro ⟨v171, v174, v177⟩ w35 ⟨hS_, h0_, h1_, h2_, h3_, h4_, h5_⟩
            (try dsimp only at hS_ h0_ h1_ h2_ h3_ h4_ h5_)
            replace HO175 := am_ h0_; replace HO178 := am_ h1_; replace BK166 := am_ h2_; replace BK167 := am_ h3_; replace BK168 := am_ h4_; replace HB := am_ h5_; clear h0_ h1_ h2_ h3_ h4_ h5_; have hHeld := hS_; obtain ⟨Ao37, co37, eo37⟩ := Kd.R_slice HO178.out
            (first | subst eo37 | (injection eo37 with f1_ f2_ f3_; have f4_ := f1_.symm; have f5_ := f3_.symm; clear f1_ f2_ f3_; subst f4_; subst f5_))
            refine normP ?_; refine two_ (i := 7) (j := 9) (Ni := some 23) (Nj := some 6) (bT 11 8) (bB 11 639) rfl rfl rfl rfl (two_of HT_.out Za) (by decide) (by decide) (fun K hK => ?_) (fun K hK => ?_)
            ·skip
             refine Kd.R_append_rows_step k39 (w0 := w) w.heap.size (by rfl) (.tmp 20) (.tmp 22) 26 39 (.agg #[(.int .i64 0), (.int .i64 0), (.string ⟨#[]⟩), (.int .i64 0)]) 40 rfl Try.underlying26 info39 rfl (by decide) (by omega) v174 y173 y176 _ _ _ (fun k_ => some k_ ≠ (.slice Ao37 y176.length co37 : Value).ownBlock ∧ k_ ≠ gb167) (fun _ => False) rfl rfl ?aO ?aR (fun _ _ h => h) (fun _ h => h.elim) ?aF ?aB ?aS ?aL ?_
             (case aR => repeat (first | exact (Kd.R_reads' HO178.out).2.2 | (with_reducible refine Kd.C_alloc ?_ _) | (with_reducible refine Kd.C_drewN ?_ _) | (with_reducible refine Kd.C_drew ?_)))
             (case aB => exact (Zaa GE166 GE167 GE168))
             (case aF => exact (fun k_ hk => ⟨Kd.fresh' (Kd.R_lt (Zt HO178)) k_ hk, Kd.freshB (g := gb167) (b0Z BK167) k_ hk⟩))
             (case aO => exact (Zt HO175))
             (case aS => exact (below_size (Zaa GE166 GE167 GE168)))
             (case aL => have := LMc17.out; omega)
             intro v180 w36 ho hb hg hat; rw [← Ny179.out] at ho; replace BK166 := am_ (blk_grown (g := gb166) (b0Z BK166) hg (Kd.R_ne HO175.out BK166.out (by decide))); replace BK167 := am_ (blk_grown (g := gb167) (b0Z BK167) hg (Kd.R_away HO175.out (fun _ hk => hk.2))); replace BK168 := am_ (blk_grown (g := gb168) (b0Z BK168) hg (Kd.R_ne HO175.out BK168.out (by decide))); replace HO178 := am_ (Kd.R_after (ok := (fun k_ => k_ ≠ gb167)) (Zaj HO178) hg hat); replace HB := am_ (hb); replace HO181 := am_ (ho); clear HO175; clear ho hb hg hat; refine hK.out _ _ (Zac BK166 BK167) (fun hHeld => ?_); clear hK K; refine normZ 23 ?_; exact norm_ Zs (hJ1_4_6_7 (v171, v174, .slice Ao37 y176.length co37, v180) _ ⟨hHeld, (Zaj HO178), (Zt HO181), (b0Z BK166), (b0Z BK167), (b0Z BK168), (Zaa GE166 GE167 GE168)⟩)
            ·skip
             refine box_step ?hg (N := 6) ?hd (cs := #[.slice none 0 0, .slice none 0 0, .slice none 0 0]) (t := 28) ?hr ?_; (case hd => rfl); (case hg => rfl); (case hr => first | (go_simp; done) | (go_simp; rfl)); intro gb191 hg w36 hbox hb; replace HO175 := (hbZ HO175 hb); replace HO178 := (hbZ HO178 hb); replace BK191 := am_ (hbox); replace GW191 := am_ (((Zae GE166 GE167 GE168) : w.heap.size ≤ gb191)); replace GE191 := GW191; replace HB := (bsZ (Zaa GE166 GE167 GE168) hb); replace NB166_191 := am_ (((Zv BK166) : gb166 ≠ gb191)); replace NB191_166 := am_ (((Zw BK166) : gb191 ≠ gb166)); replace BK166 := (bkZ BK166 hb); replace NB167_191 := am_ (((Zy BK167) : gb167 ≠ gb191)); replace NB191_167 := am_ (((Zz BK167) : gb191 ≠ gb167)); replace BK167 := (bkZ BK167 hb); replace NB168_191 := am_ (((Zaf BK168) : gb168 ≠ gb191)); replace NB191_168 := am_ (((Zag BK168) : gb191 ≠ gb168)); replace BK168 := (bkZ BK168 hb); clear hb hbox hg; refine hK.out _ _ (Zac BK166 BK167) (fun hHeld => ?_); clear hK K; refine normZ 6 ?_; exact norm_ Zs (hJ1_4_6_9 (v171, v174, (.slice Ao37 y176.length co37), gb191) _ ⟨hHeld, (Zt HO175), (Zt HO178), (b0Z BK166), (b0Z BK167), (b0Z BK168), (b0Z BK191), GW191.out, GE191.out, NB166_191.out, NB191_166.out, NB167_191.out, NB191_167.out, NB168_191.out, NB191_168.out, (Zah GE166 GE167 GE168 GE191)⟩)
          ·skip
           rintro ⟨v171, v174, v177, gb191⟩ w36 ⟨hS_, h0_, h1_, h2_, h3_, h4_, h5_, h6_, h7_, h8_, h9_, h10_, h11_, h12_, h13_, h14_⟩
           (try dsimp only at hS_ h0_ h1_ h2_ h3_ h4_ h5_ h6_ h7_ h8_ h9_ h10_ h11_ h12_ h13_ h14_)
           replace HO175 := am_ h0_; replace HO178 := am_ h1_; replace BK166 := am_ h2_; replace BK167 := am_ h3_; replace BK168 := am_ h4_; replace BK191 := am_ h5_; replace GW191 := am_ h6_; replace GE191 := am_ h7_; replace NB166_191 := am_ h8_; replace NB191_166 := am_ h9_; replace NB167_191 := am_ h10_; replace NB191_167 := am_ h11_; replace NB168_191 := am_ h12_; replace NB191_168 := am_ h13_; replace HB := am_ h14_; clear h0_ h1_ h2_ h3_ h4_ h5_ h6_ h7_ h8_ h9_ h10_ h11_ h12_ h13_ h14_; have hHeld := hS_; obtain ⟨Ao38, co38, eo38⟩ := Kd.R_slice HO178.out
           (first | subst eo38 | (injection eo38 with f1_ f2_ f3_; have f4_ := f1_.symm; have f5_ := f3_.symm; clear f1_ f2_ f3_; subst f4_; subst f5_))
           refine normP ?_; refine one_ (i := 7) (N := some 23) (bB 11 767) rfl rfl (one_of HT_.out Za) (by decide) (fun K hK => ?_); refine Kd.R_append_rows_step k39 (w0 := w) w.heap.size (by rfl) (.tmp 20) (.tmp 22) 26 39 (.agg #[(.int .i64 0), (.int .i64 0), (.string ⟨#[]⟩), (.int .i64 0)]) 40 rfl Try.underlying26 info39 rfl (by decide) (by omega) v174 y173 y176 _ _ _ (fun k_ => some k_ ≠ (.slice Ao38 y176.length co38 : Value).ownBlock ∧ k_ ≠ gb167) (fun _ => False) rfl rfl ?aO ?aR (fun _ _ h => h) (fun _ h => h.elim) ?aF ?aB ?aS ?aL ?_
           (case aR => repeat (first | exact (Kd.R_reads' HO178.out).2.2 | (with_reducible refine Kd.C_alloc ?_ _) | (with_reducible refine Kd.C_drewN ?_ _) | (with_reducible refine Kd.C_drew ?_)))
           (case aB => exact (Zah GE166 GE167 GE168 GE191))
           (case aF => exact (fun k_ hk => ⟨Kd.fresh' (Kd.R_lt (Zt HO178)) k_ hk, Kd.freshB (g := gb167) (b0Z BK167) k_ hk⟩))
           (case aO => exact (Zt HO175))
           (case aS => exact (below_size (Zah GE166 GE167 GE168 GE191)))
           (case aL => have := LMc17.out; omega)
           intro v180 w37 ho hb hg hat; rw [← Ny179.out] at ho; replace BK166 := am_ (blk_grown (g := gb166) (b0Z BK166) hg (Kd.R_ne HO175.out BK166.out (by decide))); replace BK167 := am_ (blk_grown (g := gb167) (b0Z BK167) hg (Kd.R_away HO175.out (fun _ hk => hk.2))); replace BK168 := am_ (blk_grown (g := gb168) (b0Z BK168) hg (Kd.R_ne HO175.out BK168.out (by decide))); replace HO178 := am_ (Kd.R_after (ok := (fun k_ => k_ ≠ gb167)) (Zaj HO178) hg hat); replace BK191 := am_ (blk_grown (g := gb191) (b0Z BK191) hg (Kd.R_ne HO175.out BK191.out (by decide))); replace HB := am_ (hb); replace HO181 := am_ (ho); clear HO175; clear ho hb hg hat; refine hK.out _ _ (Zac BK166 BK167) (fun hHeld => ?_); clear hK K; refine normZ 23 ?_; exact norm_ Zs (hJ1_4_6_7_9 (v171, v174, .slice Ao38 y176.length co38, v180, gb191) _ ⟨hHeld, (Zaj HO178), (Zt HO181), (b0Z BK166), (b0Z BK167), (b0Z BK168), (b0Z BK191), GW191.out, GE191.out, NB166_191.out, NB191_166.out, NB167_191.out, NB191_167.out, NB168_191.out, NB191_168.out, (Zah GE166 GE167 GE168 GE191)⟩)
         ·skip
          rintro ⟨v171, v174, v177, v180⟩ w37 ⟨hS_, h0_, h1_, h2_, h3_, h4_, h5_⟩
          (try dsimp only at hS_ h0_ h1_ h2_ h3_ h4_ h5_)
          replace HO178 := am_ h0_; replace HO181 := am_ h1_; replace BK166 := am_ h2_; replace BK167 := am_ h3_; replace BK168 := am_ h4_; replace HB := am_ h5_; clear h0_ h1_ h2_ h3_ h4_ h5_; have hHeld := hS_; obtain ⟨Ao38, co38, eo38⟩ := Kd.R_slice HO181.out
          (first | subst eo38 | (injection eo38 with f1_ f2_ f3_; have f4_ := f1_.symm; have f5_ := f3_.symm; clear f1_ f2_ f3_; subst f4_; subst f5_))
          refine normP ?_; refine two_ (i := 8) (j := 9) (Ni := some 24) (Nj := some 6) (bT 11 9) (bB 11 767) rfl rfl rfl rfl (two_of HT_.out Za) (by decide) (by decide) (fun K hK => ?_) (fun K hK => ?_)
          ·skip
           refine goes_ Try.func61 Za rfl #[.agg #[.slice A0_0 l0_0.length c0_0, .slice A0_1 l0_1.length c0_1, .slice A0_2 l0_2.length c0_2], .slice Ao38 y179.length co38] (by rfl) rfl rfl Zk ?_
           with_reducible refine (spec_l08With.calls _ _ l0_0 _ _ l0_1 _ _ l0_2 _ _ y179 t182 t185 t188 _ ?side1 ?side2 ?side3 ?side4 ?side5 ?side6 ?side7 ?side8 A18.out).mono ?_
           (case side1 => exact (Zm HR0_0))
           (case side2 => exact HC0_0.out)
           (case side3 => exact (Zm HR0_1))
           (case side4 => exact HC0_1.out)
           (case side5 => exact (Zm HR0_2))
           (case side6 => exact HC0_2.out)
           (case side7 => exact (Zak HO181))
           (case side8 => exact (Kd.R_reads' HO181.out).2.1)
           rintro e w39 ⟨v183, v186, v189, rfl, ho0, ho1, ho2, hb⟩; refine ⟨_, rfl, ?_⟩; replace HO184 := am_ (Kd.R_lower ho0 (below_size (Zaa GE166 GE167 GE168))); replace HO187 := am_ (Kd.R_lower ho1 (below_size (Zaa GE166 GE167 GE168))); replace HO190 := am_ (Kd.R_lower (Kd.R_newB (Kd.R_new' (Kd.R_new' ho2 (Kd.R_lt (Zt HO178))) (Kd.R_lt (Zt HO181))) (g := gb167) (b0Z BK167)) (below_size (Zaa GE166 GE167 GE168))); replace HO178 := am_ (Kd.R_elder' (Zt HO178) (Kd.R_base ho2) hb); replace HO181 := am_ (Kd.R_elder' (Zt HO181) (Kd.R_base ho2) hb); replace BK166 := (bkZ BK166 hb); replace BK167 := (bkZ BK167 hb); replace BK168 := (bkZ BK168 hb); replace HB := (bsZ (Zaa GE166 GE167 GE168) hb)
           (try clear hb)
           (try clear hb2)
           (try clear hk)
           (try clear hi)
           (try clear ho0)
           (try clear ho1)
           (try clear ho2)
           refine hK.out _ _ (Zac BK166 BK167) (fun hHeld => ?_); clear hK K; refine normZ 24 ?_; exact norm_ Zs (hJ1_4_6_7_8 (v171, v174, v177, .slice Ao38 y179.length co38, v183, v186, v189) _ ⟨hHeld, (Zal HO178), (Zal HO181), (Zt HO184), (Zt HO187), (by (with_reducible repeat (first | apply Kd.R_alloc | apply Kd.R_drewN | apply Kd.R_drew)); exact Kd.R_mono HO190.out (fun _ hk => ⟨hk.1.1.2, ⟨hk.1.2, hk.2⟩⟩)), (b0Z BK166), (b0Z BK167), (b0Z BK168), (Zaa GE166 GE167 GE168)⟩)
          ·skip
           refine box_step ?hg (N := 6) ?hd (cs := #[.slice none 0 0, .slice none 0 0, .slice none 0 0]) (t := 28) ?hr ?_; (case hd => rfl); (case hg => rfl); (case hr => first | (go_simp; done) | (go_simp; rfl)); intro gb191 hg w38 hbox hb; replace HO178 := (hbZ HO178 hb); replace HO181 := (hbZ HO181 hb); replace BK191 := am_ (hbox); replace GW191 := am_ (((Zae GE166 GE167 GE168) : w.heap.size ≤ gb191)); replace GE191 := GW191; replace HB := (bsZ (Zaa GE166 GE167 GE168) hb); replace NB166_191 := am_ (((Zv BK166) : gb166 ≠ gb191)); replace NB191_166 := am_ (((Zw BK166) : gb191 ≠ gb166)); replace BK166 := (bkZ BK166 hb); replace NB167_191 := am_ (((Zy BK167) : gb167 ≠ gb191)); replace NB191_167 := am_ (((Zz BK167) : gb191 ≠ gb167)); replace BK167 := (bkZ BK167 hb); replace NB168_191 := am_ (((Zaf BK168) : gb168 ≠ gb191)); replace NB191_168 := am_ (((Zag BK168) : gb191 ≠ gb168)); replace BK168 := (bkZ BK168 hb); clear hb hbox hg; refine hK.out _ _ (Zac BK166 BK167) (fun hHeld => ?_); clear hK K; refine normZ 6 ?_; exact norm_ Zs (hJ1_4_6_7_9 (v171, v174, v177, (.slice Ao38 y179.length co38), gb191) _ ⟨hHeld, (Zt HO178), (Zt HO181), (b0Z BK166), (b0Z BK167), (b0Z BK168), (b0Z BK191), GW191.out, GE191.out, NB166_191.out, NB191_166.out, NB167_191.out, NB191_167.out, NB168_191.out, NB191_168.out, (Zah GE166 GE167 GE168 GE191)⟩)
        ·skip
         rintro ⟨v171, v174, v177, v180, gb191⟩ w38 ⟨hS_, h0_, h1_, h2_, h3_, h4_, h5_, h6_, h7_, h8_, h9_, h10_, h11_, h12_, h13_, h14_⟩
         (try dsimp only at hS_ h0_ h1_ h2_ h3_ h4_ h5_ h6_ h7_ h8_ h9_ h10_ h11_ h12_ h13_ h14_)
         replace HO178 := am_ h0_; replace HO181 := am_ h1_; replace BK166 := am_ h2_; replace BK167 := am_ h3_; replace BK168 := am_ h4_; replace BK191 := am_ h5_; replace GW191 := am_ h6_; replace GE191 := am_ h7_; replace NB166_191 := am_ h8_; replace NB191_166 := am_ h9_; replace NB167_191 := am_ h10_; replace NB191_167 := am_ h11_; replace NB168_191 := am_ h12_; replace NB191_168 := am_ h13_; replace HB := am_ h14_; clear h0_ h1_ h2_ h3_ h4_ h5_ h6_ h7_ h8_ h9_ h10_ h11_ h12_ h13_ h14_; have hHeld := hS_; obtain ⟨Ao39, co39, eo39⟩ := Kd.R_slice HO181.out
         (first | subst eo39 | (injection eo39 with f1_ f2_ f3_; have f4_ := f1_.symm; have f5_ := f3_.symm; clear f1_ f2_ f3_; subst f4_; subst f5_))
         refine normP ?_; refine one_ (i := 8) (N := some 24) (bT 11 10) rfl rfl (one_of HT_.out Za) (by decide) (fun K hK => ?_); refine goes_ Try.func61 Za rfl #[.agg #[.slice A0_0 l0_0.length c0_0, .slice A0_1 l0_1.length c0_1, .slice A0_2 l0_2.length c0_2], .slice Ao39 y179.length co39] (by rfl) rfl rfl Zk ?_
         with_reducible refine (spec_l08With.calls _ _ l0_0 _ _ l0_1 _ _ l0_2 _ _ y179 t182 t185 t188 _ ?side1 ?side2 ?side3 ?side4 ?side5 ?side6 ?side7 ?side8 A18.out).mono ?_
         (case side1 => exact (Zm HR0_0))
         (case side2 => exact HC0_0.out)
         (case side3 => exact (Zm HR0_1))
         (case side4 => exact HC0_1.out)
         (case side5 => exact (Zm HR0_2))
         (case side6 => exact HC0_2.out)
         (case side7 => exact (Zak HO181))
         (case side8 => exact (Kd.R_reads' HO181.out).2.1)
         rintro e w40 ⟨v183, v186, v189, rfl, ho0, ho1, ho2, hb⟩; refine ⟨_, rfl, ?_⟩; replace HO184 := am_ (Kd.R_lower ho0 (below_size (Zah GE166 GE167 GE168 GE191))); replace HO187 := am_ (Kd.R_lower ho1 (below_size (Zah GE166 GE167 GE168 GE191))); replace HO190 := am_ (Kd.R_lower (Kd.R_newB (Kd.R_new' (Kd.R_new' ho2 (Kd.R_lt (Zt HO178))) (Kd.R_lt (Zt HO181))) (g := gb167) (b0Z BK167)) (below_size (Zah GE166 GE167 GE168 GE191))); replace HO178 := am_ (Kd.R_elder' (Zt HO178) (Kd.R_base ho2) hb); replace HO181 := am_ (Kd.R_elder' (Zt HO181) (Kd.R_base ho2) hb); replace BK166 := (bkZ BK166 hb); replace BK167 := (bkZ BK167 hb); replace BK168 := (bkZ BK168 hb); replace BK191 := (bkZ BK191 hb); replace HB := (bsZ (Zah GE166 GE167 GE168 GE191) hb)
         (try clear hb)
         (try clear hb2)
         (try clear hk)
         (try clear hi)
         (try clear ho0)
         (try clear ho1)
         (try clear ho2)
         refine hK.out _ _ (Zac BK166 BK167) (fun hHeld => ?_); clear hK K; refine normZ 24 ?_; exact norm_ Zs (hJ1_4_6_7_8_9 (v171, v174, v177, .slice Ao39 y179.length co39, v183, v186, v189, gb191) _ ⟨hHeld, (Zal HO178), (Zal HO181), (Zt HO184), (Zt HO187), (by (with_reducible repeat (first | apply Kd.R_alloc | apply Kd.R_drewN | apply Kd.R_drew)); exact Kd.R_mono HO190.out (fun _ hk => ⟨hk.1.1.2, ⟨hk.1.2, hk.2⟩⟩)), (b0Z BK166), (b0Z BK167), (b0Z BK168), (b0Z BK191), GW191.out, GE191.out, NB166_191.out, NB191_166.out, NB167_191.out, NB191_167.out, NB168_191.out, NB191_168.out, (Zah GE166 GE167 GE168 GE191)⟩)
       ·skip
        rintro ⟨v171, v174, v177, v180, v183, v186, v189⟩ w39 ⟨hS_, h0_, h1_, h2_, h3_, h4_, h5_, h6_, h7_, h8_⟩
        (try dsimp only at hS_ h0_ h1_ h2_ h3_ h4_ h5_ h6_ h7_ h8_)
        replace HO178 := am_ h0_; replace HO181 := am_ h1_; replace HO184 := am_ h2_; replace HO187 := am_ h3_; replace HO190 := am_ h4_; replace BK166 := am_ h5_; replace BK167 := am_ h6_; replace BK168 := am_ h7_; replace HB := am_ h8_; clear h0_ h1_ h2_ h3_ h4_ h5_ h6_ h7_ h8_; have hHeld := hS_; refine normP ?_; refine one_ (i := 9) (N := some 6) (bT 11 10) rfl rfl (one_of HT_.out Za) (by decide) (fun K hK => ?_); refine box_step ?hg (N := 6) ?hd (cs := #[.slice none 0 0, .slice none 0 0, .slice none 0 0]) (t := 28) ?hr ?_; (case hd => rfl); (case hg => rfl); (case hr => first | (go_simp; done) | (go_simp; rfl)); intro gb191 hg w40 hbox hb; replace HO178 := (hbZ HO178 hb); replace HO181 := (hbZ HO181 hb); replace HO184 := (hbZ HO184 hb); replace HO187 := (hbZ HO187 hb); replace HO190 := (hbZ HO190 hb); replace BK191 := am_ (hbox); replace GW191 := am_ (((Zae GE166 GE167 GE168) : w.heap.size ≤ gb191)); replace GE191 := GW191; replace HB := (bsZ (Zaa GE166 GE167 GE168) hb); replace NB166_191 := am_ (((Zv BK166) : gb166 ≠ gb191)); replace NB191_166 := am_ (((Zw BK166) : gb191 ≠ gb166)); replace BK166 := (bkZ BK166 hb); replace NB167_191 := am_ (((Zy BK167) : gb167 ≠ gb191)); replace NB191_167 := am_ (((Zz BK167) : gb191 ≠ gb167)); replace BK167 := (bkZ BK167 hb); replace NB168_191 := am_ (((Zaf BK168) : gb168 ≠ gb191)); replace NB191_168 := am_ (((Zag BK168) : gb191 ≠ gb168)); replace BK168 := (bkZ BK168 hb); clear hb hbox hg; refine hK.out _ _ (Zac BK166 BK167) (fun hHeld => ?_); clear hK K; refine normZ 6 ?_; exact norm_ Zs (hJ1_4_6_7_8_9 (v171, v174, v177, v180, v183, v186, v189, gb191) _ ⟨hHeld, (Zt HO178), (Zt HO181), (Zt HO184), (Zt HO187), (Zt HO190), (b0Z BK166), (b0Z BK167), (b0Z BK168), (b0Z BK191), GW191.out, GE191.out, NB166_191.out, NB191_166.out, NB167_191.out, NB191_167.out, NB168_191.out, NB191_168.out, (Zah GE166 GE167 GE168 GE191)⟩)
      rintro ⟨v171, v174, v177, v180, v183, v186, v189, gb191⟩ w40 ⟨hS_, h0_, h1_, h2_, h3_, h4_, h5_, h6_, h7_, h8_, h9_, h10_, h11_, h12_, h13_, h14_, h15_, h16_, h17_⟩
      (try dsimp only at hS_ h0_ h1_ h2_ h3_ h4_ h5_ h6_ h7_ h8_ h9_ h10_ h11_ h12_ h13_ h14_ h15_ h16_ h17_)
      replace HO178 := am_ h0_; replace HO181 := am_ h1_; replace HO184 := am_ h2_; replace HO187 := am_ h3_; replace HO190 := am_ h4_; replace BK166 := am_ h5_; replace BK167 := am_ h6_; replace BK168 := am_ h7_; replace BK191 := am_ h8_; replace GW191 := am_ h9_; replace GE191 := am_ h10_; replace NB166_191 := am_ h11_; replace NB191_166 := am_ h12_; replace NB167_191 := am_ h13_; replace NB191_167 := am_ h14_; replace NB168_191 := am_ h15_; replace NB191_168 := am_ h16_; replace HB := am_ h17_; clear h0_ h1_ h2_ h3_ h4_ h5_ h6_ h7_ h8_ h9_ h10_ h11_ h12_ h13_ h14_ h15_ h16_ h17_; have hHeld := hS_; obtain ⟨Ao41, co41, eo41⟩ := Kd.R_slice HO184.out
      (first | subst eo41 | (injection eo41 with f1_ f2_ f3_; have f4_ := f1_.symm; have f5_ := f3_.symm; clear f1_ f2_ f3_; subst f4_; subst f5_))
      obtain ⟨Ao43, co43, eo43⟩ := Kd.R_slice HO187.out
      (first | subst eo43 | (injection eo43 with f1_ f2_ f3_; have f4_ := f1_.symm; have f5_ := f3_.symm; clear f1_ f2_ f3_; subst f4_; subst f5_))
      obtain ⟨Ao45, co45, eo45⟩ := Kd.R_slice HO190.out
      (first | subst eo45 | (injection eo45 with f1_ f2_ f3_; have f4_ := f1_.symm; have f5_ := f3_.symm; clear f1_ f2_ f3_; subst f4_; subst f5_))
      refine normP ?_; refine one_ (i := 10) (N := none) (bT 11 11) rfl rfl (one_of HT_.out Za) (by decide) (fun K hK => ?_); have hs42 : w40.cell? ⟨gb191, 0, none⟩ = some (.slice none 0 0) := (blk_cell BK191.out 0).trans rfl; have hfs42 := blk_frozen BK191.out 0; have hns42_0 := NB166_191.out; have hns42_1 := NB167_191.out; have hns42_2 := NB168_191.out; have hms42_0 := NB191_166.out; have hms42_1 := NB191_167.out; have hms42_2 := NB191_168.out; have hs44 : w40.cell? ⟨gb191, 1, none⟩ = some (.slice none 0 0) := (blk_cell BK191.out 1).trans rfl; have hfs44 := blk_frozen BK191.out 1; have hns44_0 := NB166_191.out; have hns44_1 := NB167_191.out; have hns44_2 := NB168_191.out; have hms44_0 := NB191_166.out; have hms44_1 := NB191_167.out; have hms44_2 := NB191_168.out; have hs46 : w40.cell? ⟨gb191, 2, none⟩ = some (.slice none 0 0) := (blk_cell BK191.out 2).trans rfl; have hfs46 := blk_frozen BK191.out 2; have hns46_0 := NB166_191.out; have hns46_1 := NB167_191.out; have hns46_2 := NB168_191.out; have hms46_0 := NB191_166.out; have hms46_1 := NB191_167.out; have hms46_2 := NB191_168.out; refine skip_ (w1 := ?_) (by rfl) rfl ?_ ?_; rotate_left
      ·go_simp
       rfl
      refine hK.out _ _ ⟨(cg1 (hHeld.1) NB166_191), (cg1 (hHeld.2.1) NB166_191), (cg1 (hHeld.2.2.1) NB166_191), (cg1 (hHeld.2.2.2.1) NB167_191), (cg1 (hHeld.2.2.2.2.1) NB167_191), (cg1 (hHeld.2.2.2.2.2.1) NB167_191), (cg1 (hHeld.2.2.2.2.2.2) NB167_191)⟩ (fun hHeld => ?_); clear hK K; refine done_ (done_of HT_.out Za) ?_; have hnb47 := NB191_166.out; have hnc47 := NB166_191.out; have hnb48 := NB191_167.out; have hnc48 := NB167_191.out; have hnb49 := NB191_168.out; have hnc49 := NB168_191.out; refine ci3 BK191 ?_; intros
      try go_wp2_with (first | ((with_reducible refine gate_callee (f := 56) rfl ?_); refine gZ 26 Try.func56 #[.agg #[.slice Ao41 t182.length co41, .slice Ao43 t185.length co43, .slice Ao45 t188.length co45]] ?_; (with_reducible refine (spec_IsShow.calls k _ _ t182 _ _ t185 _ _ t188 t192 _ ?_ ?_ ?_ ?_ ?_ ?_ A19.out).mono ?_); refine (Kd.R_reads' (e := 104) (base := w.heap.size) (ok := fun k_ => True) (n := t182.length) (c := co41) ?_).2.2; exact (Zam HO184 BK191); exact (Kd.R_reads' HO184.out).2.1; refine (Kd.R_reads' (e := 62) (base := w.heap.size) (ok := fun k_ => True) (n := t185.length) (c := co43) ?_).2.2; exact (Zam HO187 BK191); exact (Kd.R_reads' HO187.out).2.1; refine (Kd.R_reads' (e := 39) (base := w.heap.size) (ok := fun k_ => (some k_ ≠ (v177 : Value).ownBlock ∧ (some k_ ≠ (v180 : Value).ownBlock ∧ k_ ≠ gb167))) (n := t188.length) (c := co45) ?_).2.2; exact (Zam HO190 BK191); exact (Kd.R_reads' HO190.out).2.1; rintro e w51 ⟨rfl, hb⟩; refine ⟨_, rfl, ?_⟩; replace HO178 := am_ (Kd.R_below (Zam HO178 BK191) hb); replace HO181 := am_ (Kd.R_below (Zam HO181 BK191) hb); replace HO184 := am_ (Kd.R_below (Zam HO184 BK191) hb); replace HO187 := am_ (Kd.R_below (Zam HO187 BK191) hb); replace HO190 := am_ (Kd.R_below (Zam HO190 BK191) hb); replace BK166 := am_ (blk_below (g := gb166) (bfZ BK166 NB166_191) hb); replace BK167 := am_ (blk_below (g := gb167) (bfZ BK167 NB167_191) hb); replace BK168 := am_ (blk_below (g := gb168) (bfZ BK168 NB168_191) hb); replace BK191 := am_ (blk_below (g := gb191) (o := .cells #[.slice Ao41 t182.length co41, .slice Ao43 t185.length co43, .slice Ao45 t188.length co45] 28 (0, 0)) (bpZ BK191) hb); replace HB := (bsZ (Zah GE166 GE167 GE168 GE191) hb); clear hb; refine ?roundEnd))
      case roundEnd =>
       by_cases c20 : t192 = true
       ·have H := HS_.out
        clear HS_; subst c20
        have H1 : (some (t182, t185, t188, 0)) = some (r1, r2, r3, r4) := by rw [if_pos rfl] at H; exact H
        clear H; have H := H1; clear H1; simp only [Option.some.injEq, Prod.mk.injEq] at H; obtain ⟨rfl, rfl, rfl, rfl⟩ := H; refine ci3 BK191 ?_; intros; have hnb53 := NB168_167.out; have hnc53 := NB167_168.out; refine ci3 BK168 ?_; intros
        try go_wp2_with (first | fail)
        refine bodyPost_ret (results_ct rfl _ _ gb168 28 #[.slice Ao41 t182.length co41, .slice Ao43 t185.length co43, .slice Ao45 t188.length co45] (0, 0) _ rfl (bpZ BK168) Try.underlying28 rfl Za) rfl ?_; exact ⟨_, _, _, Zi, (Zu HO184 BK168), (Zu HO187 BK168), (Zu HO190 BK168), (Zah GE166 GE167 GE168 GE191)⟩
       ·have H := HS_.out
        clear HS_; replace c20 := Bool.eq_false_iff.mpr c20; subst c20
        have H1 : (some (([] : List (S104)), ([] : List (S62)), ([] : List (S39)), 5)) = some (r1, r2, r3, r4) := by rw [if_neg (show ¬ (false = true) by decide)] at H; exact H
        clear H; have H := H1; clear H1; simp only [Option.some.injEq, Prod.mk.injEq] at H; obtain ⟨rfl, rfl, rfl, rfl⟩ := H; have hnb86 := NB168_167.out; have hnc86 := NB167_168.out; refine ci3 BK168 ?_; intros
        try go_wp2_with (first | fail)
        refine bodyPost_ret (results_ct rfl _ _ gb168 28 #[.slice none 0 0, .slice none 0 0, .slice none 0 0] (0, 0) _ rfl (bpZ BK168) Try.underlying28 rfl Za) rfl ?_; exact ⟨_, _, _, Zi, Zab, Zab, Zab, (Zah GE166 GE167 GE168 GE191)⟩
     ·rw [if_neg c17] at H
      exact absurd H (by simp)
    ·rw [if_neg c16] at H
     exact absurd H (by simp)
  ·have H := HS_.out
   clear HS_; replace c4 := Bool.eq_false_iff.mpr c4; subst c4
   have H1 : (some (([] : List (S104)), ([] : List (S62)), ([] : List (S39)), 1)) = some (r1, r2, r3, r4) := by rw [if_neg (show ¬ (false = true) by decide)] at H; exact H
   clear H; have H := H1; clear H1; simp only [Option.some.injEq, Prod.mk.injEq] at H; obtain ⟨rfl, rfl, rfl, rfl⟩ := H; have hnb95 := NB168_167.out; have hnc95 := NB167_168.out; refine ci3 BK168 ?_; intros
   go_wp2_with (first | fail)
   refine bodyPost_ret (results_ct rfl _ _ gb168 28 #[.slice none 0 0, .slice none 0 0, .slice none 0 0] (0, 0) _ rfl (bpZ BK168) Try.underlying28 rfl Za) rfl ?_; exact ⟨_, _, _, Zi, Zab, Zab, Zab, (Zaa GE166 GE167 GE168)⟩
def impl_within.f (a0 : Int) (a1 : Int) (a2 : Int) : Option (Bool) := if a1 ≤ a0 then (some (decide (a0 ≤ a2))) else (some false)
set_option maxHeartbeats 8000000 in
set_option maxRecDepth 100000 in
theorem impl_within.calls (a0 : Int) (a1 : Int) (a2 : Int) (r : Bool) (w : World) (h : impl_within.f a0 a1 a2 = some r) :
  Calls Try.prog 53 #[.int .i64 a0, .int .i64 a1, .int .i64 a2] w fun e w' => e = .returned (.bool r) ∧ Drawn0 w w' := by
 have H : (if a1 ≤ a0 then (some (decide (a0 ≤ a2))) else (some false)) = some r := h; clear h
 by_cases c4 : a1 ≤ a0
 ·rw [if_pos c4] at H
  have c4b0 := decide_eq_true c4; clear c4; obtain rfl := Option.some.inj H
  go_enter Try.func53, Try.ntmps53
  go_wp2
  go_ret
  exact ⟨Zc, Zd⟩
 ·rw [if_neg c4] at H
  have c4b0 := decide_eq_false c4; clear c4; obtain rfl := Option.some.inj H
  go_enter Try.func53, Try.ntmps53
  go_wp2
  go_ret
  exact ⟨Zc, Zd⟩
mutual
def impl_IsScore.j0 : Nat → List (S104) → Bool → Option (Bool)
 | 0, _, _ => none
 | k + 1, x0, x12 => if x12 = true then (some false) else (impl_IsScore.l0 k x0 (x0.length : Int) 0)
def impl_IsScore.l0 : Nat → List (S104) → Int → Int → Option (Bool)
 | 0, _, _, _ => none
 | k + 1, x13, x14, x15 => if x15 < x14 then (if 0 ≤ x15 then (if x15 < (x13.length : Int) then ((impl_within.f ((rd_T104 x13 x15).f0) 1 16).bind fun t537 => (if t537 = true then ((impl_within.f ((rd_T104 x13 x15).f1) 100 5000).bind fun t538 => (if t538 = true then (impl_IsScore.l0 k x13 x14 (wrap64 (x15 + 1))) else (some false))) else (some false))) else (none)) else (none)) else (some true)
end
def impl_IsScore.f (k : Nat) (l0 : List (S104)) : Option (Bool) := if (l0.length : Int) < 1 then (impl_IsScore.j0 k l0 true) else (impl_IsScore.j0 k l0 (decide ((l0.length : Int) > 20)))
set_option maxHeartbeats 8000000 in
set_option maxRecDepth 100000 in
theorem impl_IsScore.calls (k : Nat) (A0 : Option Addr) (c0 : Nat) (l0 : List (S104)) (r : Bool) (w : World) (hr0 : Kd.C k104 w A0 l0.length l0) (hc0 : l0.length ≤ c0) (h : impl_IsScore.f k l0 = some r) :
  Calls Try.prog 68 #[.slice A0 l0.length c0] w fun e w' => e = .returned (.bool r) ∧ Below w.heap.size w w' := by
 have hu104 := Try.underlying104; have HR0 := am_ hr0; have HC0 := am_ hc0; clear hr0 hc0; have HB := am_ (Below.refl w.heap.size w); have H : (if (l0.length : Int) < 1 then (impl_IsScore.j0 k l0 true) else (impl_IsScore.j0 k l0 (decide ((l0.length : Int) > 20)))) = some r := h; clear h; have HC2 := am_ H; clear H
 go_enter Try.func68, Try.ntmps68
 go_upto_region 1 with (fail)
 go_cut [12] (fun v12 wc => ∃ (kq : Nat) (x12_1 : Bool), v12 = .bool x12_1 ∧ Aside0 (impl_IsScore.j0 kq l0 x12_1 = some r) ∧ Aside0 (kq ≤ k) ∧ Aside0 (Below w.heap.size w wc))
 case first =>
  have H := HC2.out; clear HC2
  by_cases c3 : (l0.length : Int) < 1
  ·rw [if_pos c3] at H
   have c3b0 := decide_eq_true c3; have c3b1 : decide (l0.length < 1) = true := decide_eq_true (by omega); clear c3
   (first | rw [c3b0] | (simp only [i64_w, i32_w]; rw [c3b0]) | skip)
   have H' := am_ H; clear H
   go_wp2
   go_meet
   case rel => exact ⟨_, (true), Zc, H', ⟨Zp⟩, ⟨Zh⟩⟩
  ·rw [if_neg c3] at H
   have c3b0 := decide_eq_false c3; have c3b1 : decide (l0.length < 1) = false := decide_eq_false (by omega); clear c3
   (first | rw [c3b0] | (simp only [i64_w, i32_w]; rw [c3b0]) | skip)
   have H' := am_ H; clear H
   go_wp2
   go_meet
   case rel => exact ⟨_, (decide ((l0.length : Int) > 20)), Zc, H', ⟨Zp⟩, ⟨Zh⟩⟩
 case rest =>
  clear HC2
  try clear p2
  try clear c3
  try clear c3b0
  try clear c3b1
  obtain ⟨kq, x12_1, rfl, HA, HJ1, HB⟩ := hcut
  cases kq with
  | zero => exact absurd HA.out (by simp [impl_IsScore.j0])
  | succ kj1 =>
   have H := HA.out; clear HA; simp only [impl_IsScore.j0] at H
   by_cases c4 : x12_1 = true
   ·subst c4
    have H1 : (some false) = some r := by rw [if_pos rfl] at H; exact H
    clear H; have H := H1; clear H1; obtain rfl := Option.some.inj H
    go_wp2
    go_ret
    exact ⟨Zi, Zh⟩
   ·replace c4 := Bool.eq_false_iff.mpr c4
    subst c4
    have H1 : (impl_IsScore.l0 kj1 l0 (l0.length : Int) 0) = some r := by rw [if_neg (show ¬ (false = true) by decide)] at H; exact H
    clear H; have H := H1; clear H1; have H' := am_ H; clear H
    go_wp2
    go_loopg [15] kj1 (fun kq v15 w' => ∃ (x15_2 : Int), v15 = .int .i64 x15_2 ∧ Aside0 (impl_IsScore.l0 kq l0 (l0.length : Int) x15_2 = some r) ∧ Aside0 (kq ≤ kj1) ∧ Aside0 (Below w.heap.size w w'))
    case atStart => exact ⟨(0), Zc, H', ⟨Nat.le_refl _⟩, ⟨Zh⟩⟩
    case round =>
     clear H'
     try clear p2
     try clear c3
     try clear c3b0
     try clear c3b1
     try clear c4
     try clear p2
     obtain ⟨x15_2, rfl, HA, HK2, HB⟩ := hrel
     cases gk with
     | zero => exact absurd HA.out (by simp [impl_IsScore.l0])
     | succ k2 =>
      have H := HA.out; clear HA; simp only [impl_IsScore.l0] at H
      by_cases c5 : x15_2 < (l0.length : Int)
      ·rw [if_pos c5] at H
       have c5b0 := decide_eq_true c5; clear c5
       by_cases c6 : 0 ≤ x15_2
       ·rw [if_pos c6] at H
        have c6b0 := decide_eq_true c6; clear c6
        by_cases c7 : x15_2 < (l0.length : Int)
        ·rw [if_pos c7] at H
         have c7b0 := decide_eq_true c7; clear c7; replace H := Option.bind_eq_some_iff.mp H; obtain ⟨t537, A80, H⟩ := H; have A8 := am_ A80; clear A80; have HS_ := am_ H; clear H; have p535 : 0 ≤ (x15_2 : Int) := of_decide_eq_true Ze; have q535 : x15_2 < (l0.length : Int) := of_decide_eq_true Ze; obtain ⟨ad535, e535, hx535_0, hx535_1⟩ := at_T104 HR0.out x15_2 p535 q535
         cases e535
         replace hx535_0 := cbH HB hx535_0; replace hx535_1 := cbH HB hx535_1; replace p535 := eq_true p535; replace q535 := eq_true q535
         go_wp2_with (first | ((with_reducible refine gate_dst (N := 4) rfl ?_); (try (refine gate_guard (by rfl) ?_; dsimp only)); refine boxZ 4 #[.int .i64 0, .int .i64 0] 104 ?_; intro gb536 hg w12 hbox hb; replace BK536 := am_ (hbox); replace GW536 := am_ ((Zg : w.heap.size ≤ gb536)); replace GE536 := GW536; replace HB := (bsZ Zh hb); clear hb hbox hg; refine ci2 BK536 ?_; intros) | ((with_reducible refine gate_callee (f := 53) rfl ?_); refine gZ 21 Try.func53 #[.int .i64 ((rd_T104 l0 x15_2).f0), .int .i64 1, .int .i64 16] ?_; (with_reducible refine (impl_within.calls ((rd_T104 l0 x15_2).f0) 1 16 t537 _ A8.out).mono ?_); rintro e w' ⟨rfl, ⟨nd, rfl⟩⟩; refine ⟨_, rfl, ?_⟩; refine ?roundEnd))
         case roundEnd =>
          by_cases c9 : t537 = true
          ·have H := HS_.out
           clear HS_; subst c9
           have H1 : ((impl_within.f ((rd_T104 l0 x15_2).f1) 100 5000).bind fun t538 => (if t538 = true then (impl_IsScore.l0 k2 l0 (l0.length : Int) (wrap64 (x15_2 + 1))) else (some false))) = some r := by rw [if_pos rfl] at H; exact H
           clear H; have H := H1; clear H1; replace H := Option.bind_eq_some_iff.mp H; obtain ⟨t538, A100, H⟩ := H; have A10 := am_ A100; clear A100; have HS_ := am_ H; clear H
           go_wp2_with (first | (go_at_call 53; (with_reducible refine (impl_within.calls ((rd_T104 l0 x15_2).f1) 100 5000 t538 _ A10.out).mono ?_); rintro e w' ⟨rfl, ⟨nd, rfl⟩⟩; refine ?roundEnd))
           case roundEnd =>
            by_cases c11 : t538 = true
            ·have H := HS_.out
             clear HS_; subst c11
             have H1 : (impl_IsScore.l0 k2 l0 (l0.length : Int) (wrap64 (x15_2 + 1))) = some r := by rw [if_pos rfl] at H; exact H
             clear H; have H := H1; clear H1; have H' := am_ H; clear H
             go_wp2_with (first | fail)
             go_roundg k2
             case measure => have := HJ1.out; have := HK2.out; omega
             case rel => exact ⟨(wrap64 (x15_2 + 1)), Zc, H', ⟨by have := HJ1.out; have := HK2.out; omega⟩, ⟨(Zj GE536)⟩⟩
            ·have H := HS_.out
             clear HS_; replace c11 := Bool.eq_false_iff.mpr c11; subst c11
             have H1 : (some false) = some r := by rw [if_neg (show ¬ (false = true) by decide)] at H; exact H
             clear H; have H := H1; clear H1; obtain rfl := Option.some.inj H
             go_wp2_with (first | fail)
             go_ret
             exact ⟨Zi, (Zj GE536)⟩
          ·have H := HS_.out
           clear HS_; replace c9 := Bool.eq_false_iff.mpr c9; subst c9
           have H1 : (some false) = some r := by rw [if_neg (show ¬ (false = true) by decide)] at H; exact H
           clear H; have H := H1; clear H1; obtain rfl := Option.some.inj H
           go_wp2_with (first | fail)
           go_ret
           exact ⟨Zi, (Zj GE536)⟩
        ·rw [if_neg c7] at H
         exact absurd H (by simp)
       ·rw [if_neg c6] at H
        exact absurd H (by simp)
      ·rw [if_neg c5] at H
       have c5b0 := decide_eq_false c5; clear c5; obtain rfl := Option.some.inj H
       go_wp2
       go_ret
       exact ⟨Zi, Zh⟩
mutual
def impl_IsWord.j0 : Nat → ByteArray → Bool → Option (Bool)
 | 0, _, _ => none
 | k + 1, x0, x11 => if x11 = true then (some false) else (impl_IsWord.l0 k x0 0)
def impl_IsWord.l0 : Nat → ByteArray → Int → Option (Bool)
 | 0, _, _ => none
 | k + 1, x0, x3 => if x3 < (x0.size : Int) then (if 0 ≤ x3 then (if (bt x0 x3) < 97 then (some false) else (if (bt x0 x3) > 122 then (some false) else (impl_IsWord.l0 k x0 (wrap64 (x3 + 1))))) else (none)) else (some true)
end
def impl_IsWord.f (k : Nat) (a0 : ByteArray) : Option (Bool) := if (a0.size : Int) < 1 then (impl_IsWord.j0 k a0 true) else (impl_IsWord.j0 k a0 (decide ((a0.size : Int) > 16)))
set_option maxHeartbeats 8000000 in
set_option maxRecDepth 100000 in
theorem impl_IsWord.calls (k : Nat) (a0 : ByteArray) (r : Bool) (w : World) (h : impl_IsWord.f k a0 = some r) :
  Calls Try.prog 100 #[.string a0] w fun e w' => e = .returned (.bool r) ∧ Drawn0 w w' := by
 have H : (if (a0.size : Int) < 1 then (impl_IsWord.j0 k a0 true) else (impl_IsWord.j0 k a0 (decide ((a0.size : Int) > 16)))) = some r := h; clear h; have HC2 := am_ H; clear H
 go_enter Try.func100, Try.ntmps100
 go_upto_region 1 with (fail)
 go_cut [11] (fun v11 wc => ∃ (kq : Nat) (x11_1 : Bool), v11 = .bool x11_1 ∧ Aside0 (impl_IsWord.j0 kq a0 x11_1 = some r) ∧ Aside0 (kq ≤ k) ∧ Drawn0 w wc)
 case first =>
  have H := HC2.out; clear HC2
  by_cases c3 : (a0.size : Int) < 1
  ·rw [if_pos c3] at H
   have c3b0 := decide_eq_true c3; have c3b1 : decide (a0.size < 1) = true := decide_eq_true (by omega); clear c3
   (first | rw [c3b0] | (simp only [i64_w, i32_w]; rw [c3b0]) | skip)
   have H' := am_ H; clear H
   go_wp2
   go_meet
   case rel => exact ⟨_, (true), Zc, H', ⟨Zp⟩, Zd⟩
  ·rw [if_neg c3] at H
   have c3b0 := decide_eq_false c3; have c3b1 : decide (a0.size < 1) = false := decide_eq_false (by omega); clear c3
   (first | rw [c3b0] | (simp only [i64_w, i32_w]; rw [c3b0]) | skip)
   have H' := am_ H; clear H
   go_wp2
   go_meet
   case rel => exact ⟨_, (decide ((a0.size : Int) > 16)), Zc, H', ⟨Zp⟩, Zd⟩
 case rest =>
  clear HC2
  try clear c1
  try clear p2
  try clear c3
  try clear c3b0
  try clear c3b1
  obtain ⟨kq, x11_1, rfl, HA, HJ1, ⟨mc1, rfl⟩⟩ := hcut
  cases kq with
  | zero => exact absurd HA.out (by simp [impl_IsWord.j0])
  | succ kj1 =>
   have H := HA.out; clear HA; simp only [impl_IsWord.j0] at H
   by_cases c4 : x11_1 = true
   ·subst c4
    have H1 : (some false) = some r := by rw [if_pos rfl] at H; exact H
    clear H; have H := H1; clear H1; obtain rfl := Option.some.inj H
    go_wp2
    go_ret
    exact ⟨Zc, Zd⟩
   ·replace c4 := Bool.eq_false_iff.mpr c4
    subst c4
    have H1 : (impl_IsWord.l0 kj1 a0 0) = some r := by rw [if_neg (show ¬ (false = true) by decide)] at H; exact H
    clear H; have H := H1; clear H1; have H' := am_ H; clear H
    go_wp2
    go_loopg [3] kj1 (fun kq v3 w' => ∃ (x3_2 : Int), v3 = .int .i64 x3_2 ∧ Aside0 (impl_IsWord.l0 kq a0 x3_2 = some r) ∧ Aside0 (kq ≤ kj1) ∧ Drawn0 w w')
    case atStart => exact ⟨(0), Zc, H', ⟨Nat.le_refl _⟩, Zd⟩
    case round =>
     clear H'
     try clear c1
     try clear p2
     try clear c3
     try clear c3b0
     try clear c3b1
     try clear c4
     try clear p2
     obtain ⟨x3_2, rfl, HA, HK2, ⟨m2, rfl⟩⟩ := hrel
     cases gk with
     | zero => exact absurd HA.out (by simp [impl_IsWord.l0])
     | succ k2 =>
      have H := HA.out; clear HA; simp only [impl_IsWord.l0] at H
      by_cases c5 : x3_2 < (a0.size : Int)
      ·rw [if_pos c5] at H
       have c5b0 := decide_eq_true c5; clear c5
       by_cases c6 : 0 ≤ x3_2
       ·rw [if_pos c6] at H
        have c6b0 := decide_eq_true c6; clear c6
        by_cases c8 : (bt a0 x3_2) < 97
        ·rw [if_pos c8] at H
         have c8b0 := decide_eq_true c8; clear c8; obtain rfl := Option.some.inj H; have p7 : 0 ≤ (x3_2 : Int) := of_decide_eq_true Ze; have q7 : x3_2 < (a0.size : Int) := of_decide_eq_true Ze; have hx7 := bt_at a0 x3_2; replace p7 := eq_true p7; replace q7 := eq_true q7
         go_wp2
         go_ret
         exact ⟨Zc, Zd⟩
        ·rw [if_neg c8] at H
         have c8b0 := decide_eq_false c8; clear c8
         by_cases c10 : (bt a0 x3_2) > 122
         ·rw [if_pos c10] at H
          have c10b0 : decide (122 < (bt a0 x3_2)) = true := decide_eq_true c10; clear c10; obtain rfl := Option.some.inj H; have p7 : 0 ≤ (x3_2 : Int) := of_decide_eq_true Ze; have q7 : x3_2 < (a0.size : Int) := of_decide_eq_true Ze; have hx7 := bt_at a0 x3_2; replace p7 := eq_true p7; replace q7 := eq_true q7; have p9 : 0 ≤ (x3_2 : Int) := of_decide_eq_true Ze; have q9 : x3_2 < (a0.size : Int) := of_decide_eq_true Ze; have hx9 := bt_at a0 x3_2; replace p9 := eq_true p9; replace q9 := eq_true q9
          go_wp2
          go_ret
          exact ⟨Zc, Zd⟩
         ·rw [if_neg c10] at H
          have c10b0 : decide (122 < (bt a0 x3_2)) = false := decide_eq_false c10; clear c10; have H' := am_ H; clear H; have p7 : 0 ≤ (x3_2 : Int) := of_decide_eq_true Ze; have q7 : x3_2 < (a0.size : Int) := of_decide_eq_true Ze; have hx7 := bt_at a0 x3_2; replace p7 := eq_true p7; replace q7 := eq_true q7; have p9 : 0 ≤ (x3_2 : Int) := of_decide_eq_true Ze; have q9 : x3_2 < (a0.size : Int) := of_decide_eq_true Ze; have hx9 := bt_at a0 x3_2; replace p9 := eq_true p9; replace q9 := eq_true q9
          go_wp2
          go_roundg k2
          case measure => have := HJ1.out; have := HK2.out; omega
          case rel => exact ⟨(wrap64 (x3_2 + 1)), Zc, H', ⟨by have := HJ1.out; have := HK2.out; omega⟩, Zd⟩
       ·rw [if_neg c6] at H
        exact absurd H (by simp)
      ·rw [if_neg c5] at H
       have c5b0 := decide_eq_false c5; clear c5; obtain rfl := Option.some.inj H
       go_wp2
       go_ret
       exact ⟨Zc, Zd⟩
def impl_IsArticle.f (k : Nat) (a0_0 : ByteArray) (a0_1 : Int) (a0_2 : Int) (a0_3 : Int) (a0_4 : Int) (a0_5 : Int) (a0_6 : Int) (a0_7 : Int) (a0_8 : Int) : Option (Bool) := (impl_IsWord.f k a0_0).bind fun t540 => (if t540 = true then ((impl_within.f a0_1 0 3).bind fun t541 => (if t541 = true then ((impl_within.f a0_2 20 300).bind fun t542 => (if t542 = true then ((impl_within.f a0_3 0 10000).bind fun t543 => (if t543 = true then ((impl_within.f a0_4 0 a0_3).bind fun t544 => (if t544 = true then ((impl_within.f a0_5 1 50).bind fun t545 => (if t545 = true then ((impl_within.f a0_6 0 10000).bind fun t546 => (if t546 = true then ((impl_within.f a0_7 1 100000).bind fun t547 => (if t547 = true then ((impl_within.f a0_8 0 3).bind fun t548 => (some t548)) else (some false))) else (some false))) else (some false))) else (some false))) else (some false))) else (some false))) else (some false))) else (some false))
set_option maxHeartbeats 8000000 in
set_option maxRecDepth 100000 in
theorem impl_IsArticle.calls (k : Nat) (a0_0 : ByteArray) (a0_1 : Int) (a0_2 : Int) (a0_3 : Int) (a0_4 : Int) (a0_5 : Int) (a0_6 : Int) (a0_7 : Int) (a0_8 : Int) (r : Bool) (w : World) (h : impl_IsArticle.f k a0_0 a0_1 a0_2 a0_3 a0_4 a0_5 a0_6 a0_7 a0_8 = some r) :
  Calls Try.prog 91 #[.agg #[.string a0_0, .int .i64 a0_1, .int .i64 a0_2, .int .i64 a0_3, .int .i64 a0_4, .int .i64 a0_5, .int .i64 a0_6, .int .i64 a0_7, .int .i64 a0_8]] w fun e w' => e = .returned (.bool r) ∧ Below w.heap.size w w' := by
 have hu62 := Try.underlying62; have HB := am_ (Below.refl w.heap.size w); have H : ((impl_IsWord.f k a0_0).bind fun t540 => (if t540 = true then ((impl_within.f a0_1 0 3).bind fun t541 => (if t541 = true then ((impl_within.f a0_2 20 300).bind fun t542 => (if t542 = true then ((impl_within.f a0_3 0 10000).bind fun t543 => (if t543 = true then ((impl_within.f a0_4 0 a0_3).bind fun t544 => (if t544 = true then ((impl_within.f a0_5 1 50).bind fun t545 => (if t545 = true then ((impl_within.f a0_6 0 10000).bind fun t546 => (if t546 = true then ((impl_within.f a0_7 1 100000).bind fun t547 => (if t547 = true then ((impl_within.f a0_8 0 3).bind fun t548 => (some t548)) else (some false))) else (some false))) else (some false))) else (some false))) else (some false))) else (some false))) else (some false))) else (some false))) = some r := h; clear h; replace H := Option.bind_eq_some_iff.mp H; obtain ⟨t540, A20, H⟩ := H; have A2 := am_ A20; clear A20; have HS_ := am_ H; clear H
 go_enter Try.func91, Try.ntmps91
 go_wp2_with (first | ((with_reducible refine gate_dst (N := 1) rfl ?_); refine boxZ 1 #[.string a0_0, .int .i64 a0_1, .int .i64 a0_2, .int .i64 a0_3, .int .i64 a0_4, .int .i64 a0_5, .int .i64 a0_6, .int .i64 a0_7, .int .i64 a0_8] 62 ?_; intro gb539 hg w19 hbox hb; replace BK539 := am_ (hbox); replace GW539 := am_ ((Zg : w.heap.size ≤ gb539)); replace GE539 := GW539; replace HB := (bsZ Zh hb); clear hb hbox hg; refine ci9 BK539 ?_; intros) | ((with_reducible refine gate_callee (f := 100) rfl ?_); refine gZ 5 Try.func100 #[.string a0_0] ?_; (with_reducible refine (impl_IsWord.calls k a0_0 t540 _ A2.out).mono ?_); rintro e w' ⟨rfl, ⟨nd, rfl⟩⟩; refine ⟨_, rfl, ?_⟩; refine ?roundEnd))
 case roundEnd =>
  by_cases c3 : t540 = true
  ·have H := HS_.out
   clear HS_; subst c3
   have H1 : ((impl_within.f a0_1 0 3).bind fun t541 => (if t541 = true then ((impl_within.f a0_2 20 300).bind fun t542 => (if t542 = true then ((impl_within.f a0_3 0 10000).bind fun t543 => (if t543 = true then ((impl_within.f a0_4 0 a0_3).bind fun t544 => (if t544 = true then ((impl_within.f a0_5 1 50).bind fun t545 => (if t545 = true then ((impl_within.f a0_6 0 10000).bind fun t546 => (if t546 = true then ((impl_within.f a0_7 1 100000).bind fun t547 => (if t547 = true then ((impl_within.f a0_8 0 3).bind fun t548 => (some t548)) else (some false))) else (some false))) else (some false))) else (some false))) else (some false))) else (some false))) else (some false))) = some r := by rw [if_pos rfl] at H; exact H
   clear H; have H := H1; clear H1; replace H := Option.bind_eq_some_iff.mp H; obtain ⟨t541, A40, H⟩ := H; have A4 := am_ A40; clear A40; have HS_ := am_ H; clear H
   go_wp2_with (first | (go_at_call 53; (with_reducible refine (impl_within.calls a0_1 0 3 t541 _ A4.out).mono ?_); rintro e w' ⟨rfl, ⟨nd, rfl⟩⟩; refine ?roundEnd))
   case roundEnd =>
    by_cases c5 : t541 = true
    ·have H := HS_.out
     clear HS_; subst c5
     have H1 : ((impl_within.f a0_2 20 300).bind fun t542 => (if t542 = true then ((impl_within.f a0_3 0 10000).bind fun t543 => (if t543 = true then ((impl_within.f a0_4 0 a0_3).bind fun t544 => (if t544 = true then ((impl_within.f a0_5 1 50).bind fun t545 => (if t545 = true then ((impl_within.f a0_6 0 10000).bind fun t546 => (if t546 = true then ((impl_within.f a0_7 1 100000).bind fun t547 => (if t547 = true then ((impl_within.f a0_8 0 3).bind fun t548 => (some t548)) else (some false))) else (some false))) else (some false))) else (some false))) else (some false))) else (some false))) = some r := by rw [if_pos rfl] at H; exact H
     clear H; have H := H1; clear H1; replace H := Option.bind_eq_some_iff.mp H; obtain ⟨t542, A60, H⟩ := H; have A6 := am_ A60; clear A60; have HS_ := am_ H; clear H
     go_wp2_with (first | (go_at_call 53; (with_reducible refine (impl_within.calls a0_2 20 300 t542 _ A6.out).mono ?_); rintro e w' ⟨rfl, ⟨nd, rfl⟩⟩; refine ?roundEnd))
     case roundEnd =>
      by_cases c7 : t542 = true
      ·have H := HS_.out
       clear HS_; subst c7
       have H1 : ((impl_within.f a0_3 0 10000).bind fun t543 => (if t543 = true then ((impl_within.f a0_4 0 a0_3).bind fun t544 => (if t544 = true then ((impl_within.f a0_5 1 50).bind fun t545 => (if t545 = true then ((impl_within.f a0_6 0 10000).bind fun t546 => (if t546 = true then ((impl_within.f a0_7 1 100000).bind fun t547 => (if t547 = true then ((impl_within.f a0_8 0 3).bind fun t548 => (some t548)) else (some false))) else (some false))) else (some false))) else (some false))) else (some false))) = some r := by rw [if_pos rfl] at H; exact H
       clear H; have H := H1; clear H1; replace H := Option.bind_eq_some_iff.mp H; obtain ⟨t543, A80, H⟩ := H; have A8 := am_ A80; clear A80; have HS_ := am_ H; clear H
       go_wp2_with (first | (go_at_call 53; (with_reducible refine (impl_within.calls a0_3 0 10000 t543 _ A8.out).mono ?_); rintro e w' ⟨rfl, ⟨nd, rfl⟩⟩; refine ?roundEnd))
       case roundEnd =>
        by_cases c9 : t543 = true
        ·have H := HS_.out
         clear HS_; subst c9
         have H1 : ((impl_within.f a0_4 0 a0_3).bind fun t544 => (if t544 = true then ((impl_within.f a0_5 1 50).bind fun t545 => (if t545 = true then ((impl_within.f a0_6 0 10000).bind fun t546 => (if t546 = true then ((impl_within.f a0_7 1 100000).bind fun t547 => (if t547 = true then ((impl_within.f a0_8 0 3).bind fun t548 => (some t548)) else (some false))) else (some false))) else (some false))) else (some false))) = some r := by rw [if_pos rfl] at H; exact H
         clear H; have H := H1; clear H1; replace H := Option.bind_eq_some_iff.mp H; obtain ⟨t544, A100, H⟩ := H; have A10 := am_ A100; clear A100; have HS_ := am_ H; clear H
         go_wp2_with (first | (go_at_call 53; (with_reducible refine (impl_within.calls a0_4 0 a0_3 t544 _ A10.out).mono ?_); rintro e w' ⟨rfl, ⟨nd, rfl⟩⟩; refine ?roundEnd))
         case roundEnd =>
          by_cases c11 : t544 = true
          ·have H := HS_.out
           clear HS_; subst c11
           have H1 : ((impl_within.f a0_5 1 50).bind fun t545 => (if t545 = true then ((impl_within.f a0_6 0 10000).bind fun t546 => (if t546 = true then ((impl_within.f a0_7 1 100000).bind fun t547 => (if t547 = true then ((impl_within.f a0_8 0 3).bind fun t548 => (some t548)) else (some false))) else (some false))) else (some false))) = some r := by rw [if_pos rfl] at H; exact H
           clear H; have H := H1; clear H1; replace H := Option.bind_eq_some_iff.mp H; obtain ⟨t545, A120, H⟩ := H; have A12 := am_ A120; clear A120; have HS_ := am_ H; clear H
           go_wp2_with (first | (go_at_call 53; (with_reducible refine (impl_within.calls a0_5 1 50 t545 _ A12.out).mono ?_); rintro e w' ⟨rfl, ⟨nd, rfl⟩⟩; refine ?roundEnd))
           case roundEnd =>
            by_cases c13 : t545 = true
            ·have H := HS_.out
             clear HS_; subst c13
             have H1 : ((impl_within.f a0_6 0 10000).bind fun t546 => (if t546 = true then ((impl_within.f a0_7 1 100000).bind fun t547 => (if t547 = true then ((impl_within.f a0_8 0 3).bind fun t548 => (some t548)) else (some false))) else (some false))) = some r := by rw [if_pos rfl] at H; exact H
             clear H; have H := H1; clear H1; replace H := Option.bind_eq_some_iff.mp H; obtain ⟨t546, A140, H⟩ := H; have A14 := am_ A140; clear A140; have HS_ := am_ H; clear H
             go_wp2_with (first | (go_at_call 53; (with_reducible refine (impl_within.calls a0_6 0 10000 t546 _ A14.out).mono ?_); rintro e w' ⟨rfl, ⟨nd, rfl⟩⟩; refine ?roundEnd))
             case roundEnd =>
              by_cases c15 : t546 = true
              ·have H := HS_.out
               clear HS_; subst c15
               have H1 : ((impl_within.f a0_7 1 100000).bind fun t547 => (if t547 = true then ((impl_within.f a0_8 0 3).bind fun t548 => (some t548)) else (some false))) = some r := by rw [if_pos rfl] at H; exact H
               clear H; have H := H1; clear H1; replace H := Option.bind_eq_some_iff.mp H; obtain ⟨t547, A160, H⟩ := H; have A16 := am_ A160; clear A160; have HS_ := am_ H; clear H
               go_wp2_with (first | (go_at_call 53; (with_reducible refine (impl_within.calls a0_7 1 100000 t547 _ A16.out).mono ?_); rintro e w' ⟨rfl, ⟨nd, rfl⟩⟩; refine ?roundEnd))
               case roundEnd =>
                by_cases c17 : t547 = true
                ·have H := HS_.out
                 clear HS_; subst c17
                 have H1 : ((impl_within.f a0_8 0 3).bind fun t548 => (some t548)) = some r := by rw [if_pos rfl] at H; exact H
                 clear H; have H := H1; clear H1; replace H := Option.bind_eq_some_iff.mp H; obtain ⟨t548, A180, H⟩ := H; have A18 := am_ A180; clear A180; obtain rfl := Option.some.inj H
                 go_wp2_with (first | (go_at_call 53; (with_reducible refine (impl_within.calls a0_8 0 3 t548 _ A18.out).mono ?_); rintro e w' ⟨rfl, ⟨nd, rfl⟩⟩))
                 go_ret
                 exact ⟨Zi, (Zj GE539)⟩
                ·have H := HS_.out
                 clear HS_; replace c17 := Bool.eq_false_iff.mpr c17; subst c17
                 have H1 : (some false) = some r := by rw [if_neg (show ¬ (false = true) by decide)] at H; exact H
                 clear H; have H := H1; clear H1; obtain rfl := Option.some.inj H
                 go_wp2_with (first | fail)
                 go_ret
                 exact ⟨Zi, (Zj GE539)⟩
              ·have H := HS_.out
               clear HS_; replace c15 := Bool.eq_false_iff.mpr c15; subst c15
               have H1 : (some false) = some r := by rw [if_neg (show ¬ (false = true) by decide)] at H; exact H
               clear H; have H := H1; clear H1; obtain rfl := Option.some.inj H
               go_wp2_with (first | fail)
               go_ret
               exact ⟨Zi, (Zj GE539)⟩
            ·have H := HS_.out
             clear HS_; replace c13 := Bool.eq_false_iff.mpr c13; subst c13
             have H1 : (some false) = some r := by rw [if_neg (show ¬ (false = true) by decide)] at H; exact H
             clear H; have H := H1; clear H1; obtain rfl := Option.some.inj H
             go_wp2_with (first | fail)
             go_ret
             exact ⟨Zi, (Zj GE539)⟩
          ·have H := HS_.out
           clear HS_; replace c11 := Bool.eq_false_iff.mpr c11; subst c11
           have H1 : (some false) = some r := by rw [if_neg (show ¬ (false = true) by decide)] at H; exact H
           clear H; have H := H1; clear H1; obtain rfl := Option.some.inj H
           go_wp2_with (first | fail)
           go_ret
           exact ⟨Zi, (Zj GE539)⟩
        ·have H := HS_.out
         clear HS_; replace c9 := Bool.eq_false_iff.mpr c9; subst c9
         have H1 : (some false) = some r := by rw [if_neg (show ¬ (false = true) by decide)] at H; exact H
         clear H; have H := H1; clear H1; obtain rfl := Option.some.inj H
         go_wp2_with (first | fail)
         go_ret
         exact ⟨Zi, (Zj GE539)⟩
      ·have H := HS_.out
       clear HS_; replace c7 := Bool.eq_false_iff.mpr c7; subst c7
       have H1 : (some false) = some r := by rw [if_neg (show ¬ (false = true) by decide)] at H; exact H
       clear H; have H := H1; clear H1; obtain rfl := Option.some.inj H
       go_wp2_with (first | fail)
       go_ret
       exact ⟨Zi, (Zj GE539)⟩
    ·have H := HS_.out
     clear HS_; replace c5 := Bool.eq_false_iff.mpr c5; subst c5
     have H1 : (some false) = some r := by rw [if_neg (show ¬ (false = true) by decide)] at H; exact H
     clear H; have H := H1; clear H1; obtain rfl := Option.some.inj H
     go_wp2_with (first | fail)
     go_ret
     exact ⟨Zi, (Zj GE539)⟩
  ·have H := HS_.out
   clear HS_; replace c3 := Bool.eq_false_iff.mpr c3; subst c3
   have H1 : (some false) = some r := by rw [if_neg (show ¬ (false = true) by decide)] at H; exact H
   clear H; have H := H1; clear H1; obtain rfl := Option.some.inj H
   go_wp2_with (first | fail)
   go_ret
   exact ⟨Zi, (Zj GE539)⟩
def impl_AreArticles.l0 : Nat → List (S62) → List (S62) → Int → Int → Option (Bool)
 | 0, _, _, _, _ => none
 | k + 1, x0, x8, x9, x10 => if x10 < x9 then (if 0 ≤ x10 then (if x10 < (x8.length : Int) then ((impl_IsArticle.f k ((rd_T62 x8 x10).f0) ((rd_T62 x8 x10).f1) ((rd_T62 x8 x10).f2) ((rd_T62 x8 x10).f3) ((rd_T62 x8 x10).f4) ((rd_T62 x8 x10).f5) ((rd_T62 x8 x10).f6) ((rd_T62 x8 x10).f7) ((rd_T62 x8 x10).f8)).bind fun t551 => (if t551 = true then (if x10 > 0 then (if 0 ≤ (wrap64 (x10 - 1)) then (if (wrap64 (x10 - 1)) < (x0.length : Int) then (if ((Op.bytesLess (((rd_T62 x0 (wrap64 (x10 - 1))).f0).toList) (((rd_T62 x8 x10).f0).toList)) = true) then (impl_AreArticles.l0 k x0 x8 x9 (wrap64 (x10 + 1))) else (some false)) else (none)) else (none)) else (impl_AreArticles.l0 k x0 x8 x9 (wrap64 (x10 + 1)))) else (some false))) else (none)) else (none)) else (some true)
def impl_AreArticles.f (k : Nat) (l0 : List (S62)) : Option (Bool) := if (l0.length : Int) > 12 then (some false) else (impl_AreArticles.l0 k l0 l0 (l0.length : Int) 0)
def impl_AreArticles.T6 : Bool × List (List Nat × List Nat) := (true, [([], []), ([0], [0]), ([1], [1]), ([2, 1], [2]), ([3], [3]), ([4, 3], [3, 4]), ([5, 3, 3], [3, 5]), ([6], [6]), ([6], [6]), ([8, 6], [6, 8]), ([7, 9, 6], [6, 7, 9]), ([10, 6], [6, 10]), ([11, 6], [6, 11]), ([6], [6]), ([13, 6], [6, 13]), ([12, 14, 6], [6, 12, 14]), ([6, 15, 3], [3, 6, 15]), ([3, 16], [3, 16])])
def impl_AreArticles.B6 : List Nat := [0, 1, 3, 7, 15, 31, 63, 127, 127, 383, 1023, 2047, 4095, 127, 8319, 32767, 65535, 131071]
theorem impl_AreArticles.tab6 : rtab .any (opsOf Try.f69 6) = impl_AreArticles.T6 := by kernel_rfl
theorem impl_AreArticles.bits6 : waitsOk impl_AreArticles.T6.2 impl_AreArticles.B6 = true := by kernel_rfl
set_option maxHeartbeats 8000000 in
set_option maxRecDepth 100000 in
theorem impl_AreArticles.calls (k : Nat) (A0 : Option Addr) (c0 : Nat) (l0 : List (S62)) (r : Bool) (w : World) (hr0 : Kd.C k62 w A0 l0.length l0) (hc0 : l0.length ≤ c0) (h : impl_AreArticles.f k l0 = some r) :
  Calls Try.prog 69 #[.slice A0 l0.length c0] w fun e w' => e = .returned (.bool r) ∧ Below w.heap.size w w' := by
 have hu62 := Try.underlying62; have HR0 := am_ hr0; have HC0 := am_ hc0; clear hr0 hc0; have HB := am_ (Below.refl w.heap.size w); have H : (if (l0.length : Int) > 12 then (some false) else (impl_AreArticles.l0 k l0 l0 (l0.length : Int) 0)) = some r := h; clear h
 by_cases c2 : (l0.length : Int) > 12
 ·rw [if_pos c2] at H
  have c2b0 : decide (12 < (l0.length : Int)) = true := decide_eq_true c2; have c2b1 : decide (12 < l0.length) = true := decide_eq_true (by omega); clear c2; obtain rfl := Option.some.inj H
  go_enter Try.func69, Try.ntmps69
  go_wp2
  go_ret
  exact ⟨Zi, Zh⟩
 ·rw [if_neg c2] at H
  have c2b0 : decide (12 < (l0.length : Int)) = false := decide_eq_false c2; have c2b1 : decide (12 < l0.length) = false := decide_eq_false (by omega); clear c2; have H' := am_ H; clear H
  go_enter Try.func69, Try.ntmps69
  go_wp2
  go_loopg [10] k (fun kq v10 w' => ∃ (x10_1 : Int), v10 = .int .i64 x10_1 ∧ Aside0 (impl_AreArticles.l0 kq l0 l0 (l0.length : Int) x10_1 = some r) ∧ Aside0 (kq ≤ k) ∧ Aside0 (Below w.heap.size w w'))
  case atStart => exact ⟨(0), Zc, H', ⟨Nat.le_refl _⟩, ⟨Zh⟩⟩
  case round =>
   clear H'
   try clear c2
   try clear c2b0
   try clear c2b1
   try clear p2
   obtain ⟨x10_1, rfl, HA, HK1, HB⟩ := hrel
   cases gk with
   | zero => exact absurd HA.out (by simp [impl_AreArticles.l0])
   | succ k1 =>
    have H := HA.out; clear HA; simp only [impl_AreArticles.l0] at H
    by_cases c3 : x10_1 < (l0.length : Int)
    ·rw [if_pos c3] at H
     have c3b0 := decide_eq_true c3; clear c3
     by_cases c4 : 0 ≤ x10_1
     ·rw [if_pos c4] at H
      have c4b0 := decide_eq_true c4; clear c4
      by_cases c5 : x10_1 < (l0.length : Int)
      ·rw [if_pos c5] at H
       have c5b0 := decide_eq_true c5; clear c5; replace H := Option.bind_eq_some_iff.mp H; obtain ⟨t551, A60, H⟩ := H; have A6 := am_ A60; clear A60
       by_cases c7 : t551 = true
       ·subst c7
        have H1 : (if x10_1 > 0 then (if 0 ≤ (wrap64 (x10_1 - 1)) then (if (wrap64 (x10_1 - 1)) < (l0.length : Int) then (if ((Op.bytesLess (((rd_T62 l0 (wrap64 (x10_1 - 1))).f0).toList) (((rd_T62 l0 x10_1).f0).toList)) = true) then (impl_AreArticles.l0 k1 l0 l0 (l0.length : Int) (wrap64 (x10_1 + 1))) else (some false)) else (none)) else (none)) else (impl_AreArticles.l0 k1 l0 l0 (l0.length : Int) (wrap64 (x10_1 + 1)))) = some r := by rw [if_pos rfl] at H; exact H
        clear H; have H := H1; clear H1
        by_cases c8 : x10_1 > 0
        ·rw [if_pos c8] at H
         have c8b0 : decide (0 < x10_1) = true := decide_eq_true c8; clear c8; obtain ⟨ji9, hji9⟩ : ∃ j_ : Int, (wrap64 (x10_1 - 1)) = j_ := ⟨_, rfl⟩
         replace H : (if 0 ≤ (ji9) then (if (ji9) < (l0.length : Int) then (if ((Op.bytesLess (((rd_T62 l0 (ji9)).f0).toList) (((rd_T62 l0 x10_1).f0).toList)) = true) then (impl_AreArticles.l0 k1 l0 l0 (l0.length : Int) (wrap64 (x10_1 + 1))) else (some false)) else (none)) else (none)) = some r := by first | (rw [hji9] at H; exact H) | (simp only [hji9] at H ⊢; exact H)
         (try rw [hji9] at A6)
         have hji9w : (IntKind.i64.wrap (x10_1 - 1)) = ji9 := (i64_w _).trans hji9
         by_cases c10 : 0 ≤ (ji9)
         ·rw [if_pos c10] at H
          have c10b0 := decide_eq_true c10; clear c10
          by_cases c11 : (ji9) < (l0.length : Int)
          ·rw [if_pos c11] at H
           have c11b0 := decide_eq_true c11; clear c11; have HS_ := am_ H; clear H; have p549 : 0 ≤ (x10_1 : Int) := of_decide_eq_true Ze; have q549 : x10_1 < (l0.length : Int) := of_decide_eq_true Ze; obtain ⟨ad549, e549, hx549_0, hx549_1, hx549_2, hx549_3, hx549_4, hx549_5, hx549_6, hx549_7, hx549_8⟩ := at_T62 HR0.out x10_1 p549 q549
           cases e549
           replace hx549_0 := cbH HB hx549_0; replace hx549_1 := cbH HB hx549_1; replace hx549_2 := cbH HB hx549_2; replace hx549_3 := cbH HB hx549_3; replace hx549_4 := cbH HB hx549_4; replace hx549_5 := cbH HB hx549_5; replace hx549_6 := cbH HB hx549_6; replace hx549_7 := cbH HB hx549_7; replace hx549_8 := cbH HB hx549_8; replace p549 := eq_true p549; replace q549 := eq_true q549
           try go_wp2_with (first | ((with_reducible refine gate_dst (N := 4) rfl ?_); refine boxZ 4 #[.string (⟨#[]⟩ : ByteArray), .int .i64 0, .int .i64 0, .int .i64 0, .int .i64 0, .int .i64 0, .int .i64 0, .int .i64 0, .int .i64 0] 62 ?_; intro gb550 hg w13 hbox hb; replace BK550 := am_ (hbox); replace GW550 := am_ ((Zg : w.heap.size ≤ gb550)); replace GE550 := GW550; replace HB := (bsZ Zh hb); clear hb hbox hg; refine ci9 BK550 ?_; intros))
           have n0_ : Aside0 ((((((((((w13.setCell ⟨gb550, 0, none⟩ (.string ((rd_T62 l0 x10_1).f0))).setCell ⟨gb550, 1, none⟩ (.int .i64 ((rd_T62 l0 x10_1).f1))).setCell ⟨gb550, 2, none⟩ (.int .i64 ((rd_T62 l0 x10_1).f2))).setCell ⟨gb550, 3, none⟩ (.int .i64 ((rd_T62 l0 x10_1).f3))).setCell ⟨gb550, 4, none⟩ (.int .i64 ((rd_T62 l0 x10_1).f4))).setCell ⟨gb550, 5, none⟩ (.int .i64 ((rd_T62 l0 x10_1).f5))).setCell ⟨gb550, 6, none⟩ (.int .i64 ((rd_T62 l0 x10_1).f6))).setCell ⟨gb550, 7, none⟩ (.int .i64 ((rd_T62 l0 x10_1).f7))).setCell ⟨gb550, 8, none⟩ (.int .i64 ((rd_T62 l0 x10_1).f8))).heap[gb550]? = some (.cells #[.string ((rd_T62 l0 x10_1).f0), .int .i64 ((rd_T62 l0 x10_1).f1), .int .i64 ((rd_T62 l0 x10_1).f2), .int .i64 ((rd_T62 l0 x10_1).f3), .int .i64 ((rd_T62 l0 x10_1).f4), .int .i64 ((rd_T62 l0 x10_1).f5), .int .i64 ((rd_T62 l0 x10_1).f6), .int .i64 ((rd_T62 l0 x10_1).f7), .int .i64 ((rd_T62 l0 x10_1).f8)] 62 (0, 0))) := ⟨(Zan BK550)⟩; have n1_ : Aside0 (Below w.heap.size w (((((((((w13.setCell ⟨gb550, 0, none⟩ (.string ((rd_T62 l0 x10_1).f0))).setCell ⟨gb550, 1, none⟩ (.int .i64 ((rd_T62 l0 x10_1).f1))).setCell ⟨gb550, 2, none⟩ (.int .i64 ((rd_T62 l0 x10_1).f2))).setCell ⟨gb550, 3, none⟩ (.int .i64 ((rd_T62 l0 x10_1).f3))).setCell ⟨gb550, 4, none⟩ (.int .i64 ((rd_T62 l0 x10_1).f4))).setCell ⟨gb550, 5, none⟩ (.int .i64 ((rd_T62 l0 x10_1).f5))).setCell ⟨gb550, 6, none⟩ (.int .i64 ((rd_T62 l0 x10_1).f6))).setCell ⟨gb550, 7, none⟩ (.int .i64 ((rd_T62 l0 x10_1).f7))).setCell ⟨gb550, 8, none⟩ (.int .i64 ((rd_T62 l0 x10_1).f8)))) := ⟨(Zj GE550)⟩
           (try clear BK550)
           (try clear HB)
           generalize (((((((((w13.setCell ⟨gb550, 0, none⟩ (.string ((rd_T62 l0 x10_1).f0))).setCell ⟨gb550, 1, none⟩ (.int .i64 ((rd_T62 l0 x10_1).f1))).setCell ⟨gb550, 2, none⟩ (.int .i64 ((rd_T62 l0 x10_1).f2))).setCell ⟨gb550, 3, none⟩ (.int .i64 ((rd_T62 l0 x10_1).f3))).setCell ⟨gb550, 4, none⟩ (.int .i64 ((rd_T62 l0 x10_1).f4))).setCell ⟨gb550, 5, none⟩ (.int .i64 ((rd_T62 l0 x10_1).f5))).setCell ⟨gb550, 6, none⟩ (.int .i64 ((rd_T62 l0 x10_1).f6))).setCell ⟨gb550, 7, none⟩ (.int .i64 ((rd_T62 l0 x10_1).f7))).setCell ⟨gb550, 8, none⟩ (.int .i64 ((rd_T62 l0 x10_1).f8))) = w15 at n0_ n1_ ⊢; have BK550 := n0_; have HB := n1_; clear n0_ n1_; replace BK550 := am_ (blk_drew BK550.out); replace HB := am_ (below_drew1 HB.out); have p552 : 0 ≤ ((ji9) : Int) := of_decide_eq_true Ze; have q552 : (ji9) < (l0.length : Int) := of_decide_eq_true Ze; obtain ⟨ad552, e552, hx552_0, hx552_1, hx552_2, hx552_3, hx552_4, hx552_5, hx552_6, hx552_7, hx552_8⟩ := at_T62 HR0.out (ji9) p552 q552; have hw552_8 := hx552_8; have hw552_7 := hx552_7; have hw552_6 := hx552_6; have hw552_5 := hx552_5; have hw552_4 := hx552_4; have hw552_3 := hx552_3; have hw552_2 := hx552_2; have hw552_1 := hx552_1; have hw552_0 := hx552_0; obtain rfl : ad549 = ad552 := (by injection e552); replace hx552_0 := cbH HB hx552_0; replace hx552_1 := cbH HB hx552_1; replace hx552_2 := cbH HB hx552_2; replace hx552_3 := cbH HB hx552_3; replace hx552_4 := cbH HB hx552_4; replace hx552_5 := cbH HB hx552_5; replace hx552_6 := cbH HB hx552_6; replace hx552_7 := cbH HB hx552_7; replace hx552_8 := cbH HB hx552_8; replace p552 := eq_true p552; replace q552 := eq_true q552; refine start_ (n := 18) (S := fun w' => w'.cell? ⟨gb550, 0, none⟩ = some (.string ((rd_T62 l0 x10_1).f0)) ∧ w'.cell? ⟨gb550, 1, none⟩ = some (.int .i64 ((rd_T62 l0 x10_1).f1)) ∧ w'.cell? ⟨gb550, 2, none⟩ = some (.int .i64 ((rd_T62 l0 x10_1).f2)) ∧ w'.cell? ⟨gb550, 3, none⟩ = some (.int .i64 ((rd_T62 l0 x10_1).f3)) ∧ w'.cell? ⟨gb550, 4, none⟩ = some (.int .i64 ((rd_T62 l0 x10_1).f4)) ∧ w'.cell? ⟨gb550, 5, none⟩ = some (.int .i64 ((rd_T62 l0 x10_1).f5)) ∧ w'.cell? ⟨gb550, 6, none⟩ = some (.int .i64 ((rd_T62 l0 x10_1).f6)) ∧ w'.cell? ⟨gb550, 7, none⟩ = some (.int .i64 ((rd_T62 l0 x10_1).f7)) ∧ w'.cell? ⟨gb550, 8, none⟩ = some (.int .i64 ((rd_T62 l0 x10_1).f8)) ∧ w'.cell? (ad549.add (((ji9)).toNat * 9)) = some (.string ((rd_T62 l0 (ji9)).f0)) ∧ w'.cell? ⟨(ad549.add (((ji9)).toNat * 9)).block, (ad549.add (((ji9)).toNat * 9)).off + 1, none⟩ = some (.int .i64 ((rd_T62 l0 (ji9)).f1)) ∧ w'.cell? ⟨(ad549.add (((ji9)).toNat * 9)).block, (ad549.add (((ji9)).toNat * 9)).off + 2, none⟩ = some (.int .i64 ((rd_T62 l0 (ji9)).f2)) ∧ w'.cell? ⟨(ad549.add (((ji9)).toNat * 9)).block, (ad549.add (((ji9)).toNat * 9)).off + 3, none⟩ = some (.int .i64 ((rd_T62 l0 (ji9)).f3)) ∧ w'.cell? ⟨(ad549.add (((ji9)).toNat * 9)).block, (ad549.add (((ji9)).toNat * 9)).off + 4, none⟩ = some (.int .i64 ((rd_T62 l0 (ji9)).f4)) ∧ w'.cell? ⟨(ad549.add (((ji9)).toNat * 9)).block, (ad549.add (((ji9)).toNat * 9)).off + 5, none⟩ = some (.int .i64 ((rd_T62 l0 (ji9)).f5)) ∧ w'.cell? ⟨(ad549.add (((ji9)).toNat * 9)).block, (ad549.add (((ji9)).toNat * 9)).off + 6, none⟩ = some (.int .i64 ((rd_T62 l0 (ji9)).f6)) ∧ w'.cell? ⟨(ad549.add (((ji9)).toNat * 9)).block, (ad549.add (((ji9)).toNat * 9)).off + 7, none⟩ = some (.int .i64 ((rd_T62 l0 (ji9)).f7)) ∧ w'.cell? ⟨(ad549.add (((ji9)).toNat * 9)).block, (ad549.add (((ji9)).toNat * 9)).off + 8, none⟩ = some (.int .i64 ((rd_T62 l0 (ji9)).f8))) (ds := []) (bT 18 0) Za rfl rfl ⟨(blk_cell BK550.out 0).trans rfl, (blk_cell BK550.out 1).trans rfl, (blk_cell BK550.out 2).trans rfl, (blk_cell BK550.out 3).trans rfl, (blk_cell BK550.out 4).trans rfl, (blk_cell BK550.out 5).trans rfl, (blk_cell BK550.out 6).trans rfl, (blk_cell BK550.out 7).trans rfl, (blk_cell BK550.out 8).trans rfl, (cbH HB hw552_0 :), (cbH HB hw552_1 :), (cbH HB hw552_2 :), (cbH HB hw552_3 :), (cbH HB hw552_4 :), (cbH HB hw552_5 :), (cbH HB hw552_6 :), (cbH HB hw552_7 :), (cbH HB hw552_8 :)⟩ (fun hHeld => ?_); refine with_tabW impl_AreArticles.tab6 impl_AreArticles.bits6 (fun HT_ HW_ => ?_)
           generalize w15.drew = w16 at BK550 HB hx552_0 hx552_1 hx552_2 hx552_3 hx552_4 hx552_5 hx552_6 hx552_7 hx552_8 hHeld ⊢; refine takeZ18 HT_ HW_ 0 (some 15) (bT 18 1) hHeld ?_; refine one_ (i := 1) (N := some 16) (bT 18 2) rfl rfl (one_of HT_.out Za) (by decide) (fun K hK => ?_); refine goes_ Try.func91 Za rfl #[.agg #[.string ((rd_T62 l0 x10_1).f0), .int .i64 ((rd_T62 l0 x10_1).f1), .int .i64 ((rd_T62 l0 x10_1).f2), .int .i64 ((rd_T62 l0 x10_1).f3), .int .i64 ((rd_T62 l0 x10_1).f4), .int .i64 ((rd_T62 l0 x10_1).f5), .int .i64 ((rd_T62 l0 x10_1).f6), .int .i64 ((rd_T62 l0 x10_1).f7), .int .i64 ((rd_T62 l0 x10_1).f8)]] (by rfl) rfl rfl Zk ?_
           with_reducible refine (impl_IsArticle.calls k1 ((rd_T62 l0 x10_1).f0) ((rd_T62 l0 x10_1).f1) ((rd_T62 l0 x10_1).f2) ((rd_T62 l0 x10_1).f3) ((rd_T62 l0 x10_1).f4) ((rd_T62 l0 x10_1).f5) ((rd_T62 l0 x10_1).f6) ((rd_T62 l0 x10_1).f7) ((rd_T62 l0 x10_1).f8) true _ A6.out).mono ?_
           rintro e w17 ⟨rfl, hb⟩; refine ⟨_, rfl, ?_⟩; replace BK550 := (bkZ BK550 hb); replace HB := (bsZ (Zj GE550) hb)
           (try clear hb)
           (try clear hb2)
           (try clear hk)
           (try clear hi)
           refine hK.out _ _ (by exact ⟨(blk_cell BK550.out 0).trans rfl, (blk_cell BK550.out 1).trans rfl, (blk_cell BK550.out 2).trans rfl, (blk_cell BK550.out 3).trans rfl, (blk_cell BK550.out 4).trans rfl, (blk_cell BK550.out 5).trans rfl, (blk_cell BK550.out 6).trans rfl, (blk_cell BK550.out 7).trans rfl, (blk_cell BK550.out 8).trans rfl, (cbH HB hw552_0 :), (cbH HB hw552_1 :), (cbH HB hw552_2 :), (cbH HB hw552_3 :), (cbH HB hw552_4 :), (cbH HB hw552_5 :), (cbH HB hw552_6 :), (cbH HB hw552_7 :), (cbH HB hw552_8 :)⟩) (fun hHeld => ?_); clear hK K; refine normZ 16 ?_; refine pureZ HT_ 2 (some 17) (bT 18 3) ?_; refine pureZ HT_ 3 (some 18) (bT 18 4) ?_; refine pureZ HT_ 4 (some 19) (bT 18 5) ?_; refine pureZ HT_ 5 (some 20) (bT 18 6) ?_; refine pureZ HT_ 6 (some 21) (bT 18 7) ?_; refine pureZ HT_ 7 (some 22) (bT 18 8) ?_; refine pureZ HT_ 8 (some 23) (bT 18 9) ?_; refine pureZ HT_ 9 (some 24) (bT 18 10) ?_; refine pureZ HT_ 10 (some 25) (bT 18 11) ?_; refine pureZ HT_ 11 (some 26) (bT 18 12) ?_; refine pureZ HT_ 13 (some 28) (bB 18 12287) ?_; refine takeZ18 HT_ HW_ 12 (some 27) (bT 18 14) hHeld ?_; refine takeZ18 HT_ HW_ 14 (some 29) (bT 18 15) hHeld ?_; refine pureZ HT_ 15 (some 30) (bT 18 16) ?_; refine pureZ HT_ 16 (some 31) (bT 18 17) ?_; refine pureZ HT_ 17 (some 32) (bT 18 18) ?_; refine done_ (done_of HT_.out Za) ?_
           by_cases c12 : ((Op.bytesLess (((rd_T62 l0 (ji9)).f0).toList) (((rd_T62 l0 x10_1).f0).toList)) = true)
           ·have H := HS_.out
            clear HS_; rw [if_pos c12] at H; have c12b0 : (Op.bytesLess (((rd_T62 l0 (ji9)).f0).toList) (((rd_T62 l0 x10_1).f0).toList)) = true := c12; clear c12; have H' := am_ H; clear H
            (try simp only [c12b0, Bool.not_true, Bool.not_false])
            try go_wp2
            go_roundg k1
            case measure => have := HK1.out; omega
            case rel => exact ⟨(wrap64 (x10_1 + 1)), Zc, H', ⟨Zf⟩, ⟨(Zj GE550)⟩⟩
           ·have H := HS_.out
            clear HS_; rw [if_neg c12] at H
            have c12b0 : (Op.bytesLess (((rd_T62 l0 (ji9)).f0).toList) (((rd_T62 l0 x10_1).f0).toList)) = false := by simpa using c12
            clear c12; obtain rfl := Option.some.inj H
            (try simp only [c12b0, Bool.not_true, Bool.not_false])
            try go_wp2
            go_ret
            exact ⟨by first | rfl | (simp [errW_none, errW_some] <;> rfl) | (simp only [← hji9]; first | rfl | (simp [errW_none, errW_some] <;> rfl)) | (simp [*, errW_none, errW_some] <;> rfl), (Zj GE550)⟩
          ·rw [if_neg c11] at H
           exact absurd H (by simp)
         ·rw [if_neg c10] at H
          exact absurd H (by simp)
        ·rw [if_neg c8] at H
         have c8b0 : decide (0 < x10_1) = false := decide_eq_false c8; clear c8; have H' := am_ H; clear H; have p549 : 0 ≤ (x10_1 : Int) := of_decide_eq_true Ze; have q549 : x10_1 < (l0.length : Int) := of_decide_eq_true Ze; obtain ⟨ad549, e549, hx549_0, hx549_1, hx549_2, hx549_3, hx549_4, hx549_5, hx549_6, hx549_7, hx549_8⟩ := at_T62 HR0.out x10_1 p549 q549
         cases e549
         replace hx549_0 := cbH HB hx549_0; replace hx549_1 := cbH HB hx549_1; replace hx549_2 := cbH HB hx549_2; replace hx549_3 := cbH HB hx549_3; replace hx549_4 := cbH HB hx549_4; replace hx549_5 := cbH HB hx549_5; replace hx549_6 := cbH HB hx549_6; replace hx549_7 := cbH HB hx549_7; replace hx549_8 := cbH HB hx549_8; replace p549 := eq_true p549; replace q549 := eq_true q549
         try go_wp2_with (first | ((with_reducible refine gate_dst (N := 4) rfl ?_); refine boxZ 4 #[.string (⟨#[]⟩ : ByteArray), .int .i64 0, .int .i64 0, .int .i64 0, .int .i64 0, .int .i64 0, .int .i64 0, .int .i64 0, .int .i64 0] 62 ?_; intro gb550 hg w23 hbox hb; replace BK550 := am_ (hbox); replace GW550 := am_ ((Zg : w.heap.size ≤ gb550)); replace GE550 := GW550; replace HB := (bsZ Zh hb); clear hb hbox hg; refine ci9 BK550 ?_; intros))
         have n0_ : Aside0 ((((((((((w23.setCell ⟨gb550, 0, none⟩ (.string ((rd_T62 l0 x10_1).f0))).setCell ⟨gb550, 1, none⟩ (.int .i64 ((rd_T62 l0 x10_1).f1))).setCell ⟨gb550, 2, none⟩ (.int .i64 ((rd_T62 l0 x10_1).f2))).setCell ⟨gb550, 3, none⟩ (.int .i64 ((rd_T62 l0 x10_1).f3))).setCell ⟨gb550, 4, none⟩ (.int .i64 ((rd_T62 l0 x10_1).f4))).setCell ⟨gb550, 5, none⟩ (.int .i64 ((rd_T62 l0 x10_1).f5))).setCell ⟨gb550, 6, none⟩ (.int .i64 ((rd_T62 l0 x10_1).f6))).setCell ⟨gb550, 7, none⟩ (.int .i64 ((rd_T62 l0 x10_1).f7))).setCell ⟨gb550, 8, none⟩ (.int .i64 ((rd_T62 l0 x10_1).f8))).heap[gb550]? = some (.cells #[.string ((rd_T62 l0 x10_1).f0), .int .i64 ((rd_T62 l0 x10_1).f1), .int .i64 ((rd_T62 l0 x10_1).f2), .int .i64 ((rd_T62 l0 x10_1).f3), .int .i64 ((rd_T62 l0 x10_1).f4), .int .i64 ((rd_T62 l0 x10_1).f5), .int .i64 ((rd_T62 l0 x10_1).f6), .int .i64 ((rd_T62 l0 x10_1).f7), .int .i64 ((rd_T62 l0 x10_1).f8)] 62 (0, 0))) := ⟨(Zan BK550)⟩; have n1_ : Aside0 (Below w.heap.size w (((((((((w23.setCell ⟨gb550, 0, none⟩ (.string ((rd_T62 l0 x10_1).f0))).setCell ⟨gb550, 1, none⟩ (.int .i64 ((rd_T62 l0 x10_1).f1))).setCell ⟨gb550, 2, none⟩ (.int .i64 ((rd_T62 l0 x10_1).f2))).setCell ⟨gb550, 3, none⟩ (.int .i64 ((rd_T62 l0 x10_1).f3))).setCell ⟨gb550, 4, none⟩ (.int .i64 ((rd_T62 l0 x10_1).f4))).setCell ⟨gb550, 5, none⟩ (.int .i64 ((rd_T62 l0 x10_1).f5))).setCell ⟨gb550, 6, none⟩ (.int .i64 ((rd_T62 l0 x10_1).f6))).setCell ⟨gb550, 7, none⟩ (.int .i64 ((rd_T62 l0 x10_1).f7))).setCell ⟨gb550, 8, none⟩ (.int .i64 ((rd_T62 l0 x10_1).f8)))) := ⟨(Zj GE550)⟩
         (try clear BK550)
         (try clear HB)
         generalize (((((((((w23.setCell ⟨gb550, 0, none⟩ (.string ((rd_T62 l0 x10_1).f0))).setCell ⟨gb550, 1, none⟩ (.int .i64 ((rd_T62 l0 x10_1).f1))).setCell ⟨gb550, 2, none⟩ (.int .i64 ((rd_T62 l0 x10_1).f2))).setCell ⟨gb550, 3, none⟩ (.int .i64 ((rd_T62 l0 x10_1).f3))).setCell ⟨gb550, 4, none⟩ (.int .i64 ((rd_T62 l0 x10_1).f4))).setCell ⟨gb550, 5, none⟩ (.int .i64 ((rd_T62 l0 x10_1).f5))).setCell ⟨gb550, 6, none⟩ (.int .i64 ((rd_T62 l0 x10_1).f6))).setCell ⟨gb550, 7, none⟩ (.int .i64 ((rd_T62 l0 x10_1).f7))).setCell ⟨gb550, 8, none⟩ (.int .i64 ((rd_T62 l0 x10_1).f8))) = w25 at n0_ n1_ ⊢; have BK550 := n0_; have HB := n1_; clear n0_ n1_; replace BK550 := am_ (blk_drew BK550.out); replace HB := am_ (below_drew1 HB.out); refine start_ (n := 18) (S := fun w' => w'.cell? ⟨gb550, 0, none⟩ = some (.string ((rd_T62 l0 x10_1).f0)) ∧ w'.cell? ⟨gb550, 1, none⟩ = some (.int .i64 ((rd_T62 l0 x10_1).f1)) ∧ w'.cell? ⟨gb550, 2, none⟩ = some (.int .i64 ((rd_T62 l0 x10_1).f2)) ∧ w'.cell? ⟨gb550, 3, none⟩ = some (.int .i64 ((rd_T62 l0 x10_1).f3)) ∧ w'.cell? ⟨gb550, 4, none⟩ = some (.int .i64 ((rd_T62 l0 x10_1).f4)) ∧ w'.cell? ⟨gb550, 5, none⟩ = some (.int .i64 ((rd_T62 l0 x10_1).f5)) ∧ w'.cell? ⟨gb550, 6, none⟩ = some (.int .i64 ((rd_T62 l0 x10_1).f6)) ∧ w'.cell? ⟨gb550, 7, none⟩ = some (.int .i64 ((rd_T62 l0 x10_1).f7)) ∧ w'.cell? ⟨gb550, 8, none⟩ = some (.int .i64 ((rd_T62 l0 x10_1).f8))) (ds := []) (bT 18 0) Za rfl rfl ⟨(blk_cell BK550.out 0).trans rfl, (blk_cell BK550.out 1).trans rfl, (blk_cell BK550.out 2).trans rfl, (blk_cell BK550.out 3).trans rfl, (blk_cell BK550.out 4).trans rfl, (blk_cell BK550.out 5).trans rfl, (blk_cell BK550.out 6).trans rfl, (blk_cell BK550.out 7).trans rfl, (blk_cell BK550.out 8).trans rfl⟩ (fun hHeld => ?_); refine with_tabW impl_AreArticles.tab6 impl_AreArticles.bits6 (fun HT_ HW_ => ?_); generalize w25.drew = w26 at BK550 HB hHeld ⊢; refine takeZ9 HT_ HW_ 0 (some 15) (bT 18 1) hHeld ?_; refine one_ (i := 1) (N := some 16) (bT 18 2) rfl rfl (one_of HT_.out Za) (by decide) (fun K hK => ?_); refine goes_ Try.func91 Za rfl #[.agg #[.string ((rd_T62 l0 x10_1).f0), .int .i64 ((rd_T62 l0 x10_1).f1), .int .i64 ((rd_T62 l0 x10_1).f2), .int .i64 ((rd_T62 l0 x10_1).f3), .int .i64 ((rd_T62 l0 x10_1).f4), .int .i64 ((rd_T62 l0 x10_1).f5), .int .i64 ((rd_T62 l0 x10_1).f6), .int .i64 ((rd_T62 l0 x10_1).f7), .int .i64 ((rd_T62 l0 x10_1).f8)]] (by rfl) rfl rfl Zk ?_
         with_reducible refine (impl_IsArticle.calls k1 ((rd_T62 l0 x10_1).f0) ((rd_T62 l0 x10_1).f1) ((rd_T62 l0 x10_1).f2) ((rd_T62 l0 x10_1).f3) ((rd_T62 l0 x10_1).f4) ((rd_T62 l0 x10_1).f5) ((rd_T62 l0 x10_1).f6) ((rd_T62 l0 x10_1).f7) ((rd_T62 l0 x10_1).f8) true _ A6.out).mono ?_
         rintro e w27 ⟨rfl, hb⟩; refine ⟨_, rfl, ?_⟩; replace BK550 := (bkZ BK550 hb); replace HB := (bsZ (Zj GE550) hb)
         (try clear hb)
         (try clear hb2)
         (try clear hk)
         (try clear hi)
         refine hK.out _ _ (Zao BK550) (fun hHeld => ?_); clear hK K; refine normZ 16 ?_; refine pureZ HT_ 2 (some 17) (bT 18 3) ?_; refine pureZ HT_ 3 (some 18) (bT 18 4) ?_; refine pureZ HT_ 4 (some 19) (bT 18 5) ?_; refine pureZ HT_ 5 (some 20) (bT 18 6) ?_; refine pureZ HT_ 6 (some 21) (bT 18 7) ?_; refine pureU HT_ 7 (some 22) (bT 18 8) ?_; refine pureU HT_ 8 (some 23) (bT 18 9) ?_; refine pureU HT_ 9 (some 24) (bT 18 10) ?_; refine pureU HT_ 10 (some 25) (bT 18 11) ?_; refine pureU HT_ 11 (some 26) (bT 18 12) ?_; refine pureU HT_ 12 (some 27) (bT 18 13) ?_; refine pureU HT_ 13 (some 28) (bT 18 14) ?_; refine pureU HT_ 14 (some 29) (bT 18 15) ?_; refine pureU HT_ 15 (some 30) (bT 18 16) ?_; refine pureZ HT_ 16 (some 31) (bT 18 17) ?_; refine pureZ HT_ 17 (some 32) (bT 18 18) ?_; refine done_ (done_of HT_.out Za) ?_
         try go_wp2
         go_roundg k1
         case measure => have := HK1.out; omega
         case rel => exact ⟨(wrap64 (x10_1 + 1)), Zc, H', ⟨Zf⟩, ⟨(Zj GE550)⟩⟩
       ·replace c7 := Bool.eq_false_iff.mpr c7
        subst c7
        have H1 : (some false) = some r := by rw [if_neg (show ¬ (false = true) by decide)] at H; exact H
        clear H; have H := H1; clear H1; obtain rfl := Option.some.inj H; have p549 : 0 ≤ (x10_1 : Int) := of_decide_eq_true Ze; have q549 : x10_1 < (l0.length : Int) := of_decide_eq_true Ze; obtain ⟨ad549, e549, hx549_0, hx549_1, hx549_2, hx549_3, hx549_4, hx549_5, hx549_6, hx549_7, hx549_8⟩ := at_T62 HR0.out x10_1 p549 q549
        cases e549
        replace hx549_0 := cbH HB hx549_0; replace hx549_1 := cbH HB hx549_1; replace hx549_2 := cbH HB hx549_2; replace hx549_3 := cbH HB hx549_3; replace hx549_4 := cbH HB hx549_4; replace hx549_5 := cbH HB hx549_5; replace hx549_6 := cbH HB hx549_6; replace hx549_7 := cbH HB hx549_7; replace hx549_8 := cbH HB hx549_8; replace p549 := eq_true p549; replace q549 := eq_true q549
        try go_wp2_with (first | ((with_reducible refine gate_dst (N := 4) rfl ?_); refine boxZ 4 #[.string (⟨#[]⟩ : ByteArray), .int .i64 0, .int .i64 0, .int .i64 0, .int .i64 0, .int .i64 0, .int .i64 0, .int .i64 0, .int .i64 0] 62 ?_; intro gb550 hg w28 hbox hb; replace BK550 := am_ (hbox); replace GW550 := am_ ((Zg : w.heap.size ≤ gb550)); replace GE550 := GW550; replace HB := (bsZ Zh hb); clear hb hbox hg; refine ci9 BK550 ?_; intros))
        have n0_ : Aside0 ((((((((((w28.setCell ⟨gb550, 0, none⟩ (.string ((rd_T62 l0 x10_1).f0))).setCell ⟨gb550, 1, none⟩ (.int .i64 ((rd_T62 l0 x10_1).f1))).setCell ⟨gb550, 2, none⟩ (.int .i64 ((rd_T62 l0 x10_1).f2))).setCell ⟨gb550, 3, none⟩ (.int .i64 ((rd_T62 l0 x10_1).f3))).setCell ⟨gb550, 4, none⟩ (.int .i64 ((rd_T62 l0 x10_1).f4))).setCell ⟨gb550, 5, none⟩ (.int .i64 ((rd_T62 l0 x10_1).f5))).setCell ⟨gb550, 6, none⟩ (.int .i64 ((rd_T62 l0 x10_1).f6))).setCell ⟨gb550, 7, none⟩ (.int .i64 ((rd_T62 l0 x10_1).f7))).setCell ⟨gb550, 8, none⟩ (.int .i64 ((rd_T62 l0 x10_1).f8))).heap[gb550]? = some (.cells #[.string ((rd_T62 l0 x10_1).f0), .int .i64 ((rd_T62 l0 x10_1).f1), .int .i64 ((rd_T62 l0 x10_1).f2), .int .i64 ((rd_T62 l0 x10_1).f3), .int .i64 ((rd_T62 l0 x10_1).f4), .int .i64 ((rd_T62 l0 x10_1).f5), .int .i64 ((rd_T62 l0 x10_1).f6), .int .i64 ((rd_T62 l0 x10_1).f7), .int .i64 ((rd_T62 l0 x10_1).f8)] 62 (0, 0))) := ⟨(Zan BK550)⟩; have n1_ : Aside0 (Below w.heap.size w (((((((((w28.setCell ⟨gb550, 0, none⟩ (.string ((rd_T62 l0 x10_1).f0))).setCell ⟨gb550, 1, none⟩ (.int .i64 ((rd_T62 l0 x10_1).f1))).setCell ⟨gb550, 2, none⟩ (.int .i64 ((rd_T62 l0 x10_1).f2))).setCell ⟨gb550, 3, none⟩ (.int .i64 ((rd_T62 l0 x10_1).f3))).setCell ⟨gb550, 4, none⟩ (.int .i64 ((rd_T62 l0 x10_1).f4))).setCell ⟨gb550, 5, none⟩ (.int .i64 ((rd_T62 l0 x10_1).f5))).setCell ⟨gb550, 6, none⟩ (.int .i64 ((rd_T62 l0 x10_1).f6))).setCell ⟨gb550, 7, none⟩ (.int .i64 ((rd_T62 l0 x10_1).f7))).setCell ⟨gb550, 8, none⟩ (.int .i64 ((rd_T62 l0 x10_1).f8)))) := ⟨(Zj GE550)⟩
        (try clear BK550)
        (try clear HB)
        generalize (((((((((w28.setCell ⟨gb550, 0, none⟩ (.string ((rd_T62 l0 x10_1).f0))).setCell ⟨gb550, 1, none⟩ (.int .i64 ((rd_T62 l0 x10_1).f1))).setCell ⟨gb550, 2, none⟩ (.int .i64 ((rd_T62 l0 x10_1).f2))).setCell ⟨gb550, 3, none⟩ (.int .i64 ((rd_T62 l0 x10_1).f3))).setCell ⟨gb550, 4, none⟩ (.int .i64 ((rd_T62 l0 x10_1).f4))).setCell ⟨gb550, 5, none⟩ (.int .i64 ((rd_T62 l0 x10_1).f5))).setCell ⟨gb550, 6, none⟩ (.int .i64 ((rd_T62 l0 x10_1).f6))).setCell ⟨gb550, 7, none⟩ (.int .i64 ((rd_T62 l0 x10_1).f7))).setCell ⟨gb550, 8, none⟩ (.int .i64 ((rd_T62 l0 x10_1).f8))) = w30 at n0_ n1_ ⊢; have BK550 := n0_; have HB := n1_; clear n0_ n1_; replace BK550 := am_ (blk_drew BK550.out); replace HB := am_ (below_drew1 HB.out); refine start_ (n := 18) (S := fun w' => w'.cell? ⟨gb550, 0, none⟩ = some (.string ((rd_T62 l0 x10_1).f0)) ∧ w'.cell? ⟨gb550, 1, none⟩ = some (.int .i64 ((rd_T62 l0 x10_1).f1)) ∧ w'.cell? ⟨gb550, 2, none⟩ = some (.int .i64 ((rd_T62 l0 x10_1).f2)) ∧ w'.cell? ⟨gb550, 3, none⟩ = some (.int .i64 ((rd_T62 l0 x10_1).f3)) ∧ w'.cell? ⟨gb550, 4, none⟩ = some (.int .i64 ((rd_T62 l0 x10_1).f4)) ∧ w'.cell? ⟨gb550, 5, none⟩ = some (.int .i64 ((rd_T62 l0 x10_1).f5)) ∧ w'.cell? ⟨gb550, 6, none⟩ = some (.int .i64 ((rd_T62 l0 x10_1).f6)) ∧ w'.cell? ⟨gb550, 7, none⟩ = some (.int .i64 ((rd_T62 l0 x10_1).f7)) ∧ w'.cell? ⟨gb550, 8, none⟩ = some (.int .i64 ((rd_T62 l0 x10_1).f8))) (ds := []) (bT 18 0) Za rfl rfl ⟨(blk_cell BK550.out 0).trans rfl, (blk_cell BK550.out 1).trans rfl, (blk_cell BK550.out 2).trans rfl, (blk_cell BK550.out 3).trans rfl, (blk_cell BK550.out 4).trans rfl, (blk_cell BK550.out 5).trans rfl, (blk_cell BK550.out 6).trans rfl, (blk_cell BK550.out 7).trans rfl, (blk_cell BK550.out 8).trans rfl⟩ (fun hHeld => ?_); refine with_tabW impl_AreArticles.tab6 impl_AreArticles.bits6 (fun HT_ HW_ => ?_); generalize w30.drew = w31 at BK550 HB hHeld ⊢; refine takeZ9 HT_ HW_ 0 (some 15) (bT 18 1) hHeld ?_; refine one_ (i := 1) (N := some 16) (bT 18 2) rfl rfl (one_of HT_.out Za) (by decide) (fun K hK => ?_); refine goes_ Try.func91 Za rfl #[.agg #[.string ((rd_T62 l0 x10_1).f0), .int .i64 ((rd_T62 l0 x10_1).f1), .int .i64 ((rd_T62 l0 x10_1).f2), .int .i64 ((rd_T62 l0 x10_1).f3), .int .i64 ((rd_T62 l0 x10_1).f4), .int .i64 ((rd_T62 l0 x10_1).f5), .int .i64 ((rd_T62 l0 x10_1).f6), .int .i64 ((rd_T62 l0 x10_1).f7), .int .i64 ((rd_T62 l0 x10_1).f8)]] (by rfl) rfl rfl Zk ?_
        with_reducible refine (impl_IsArticle.calls k1 ((rd_T62 l0 x10_1).f0) ((rd_T62 l0 x10_1).f1) ((rd_T62 l0 x10_1).f2) ((rd_T62 l0 x10_1).f3) ((rd_T62 l0 x10_1).f4) ((rd_T62 l0 x10_1).f5) ((rd_T62 l0 x10_1).f6) ((rd_T62 l0 x10_1).f7) ((rd_T62 l0 x10_1).f8) false _ A6.out).mono ?_
        rintro e w32 ⟨rfl, hb⟩; refine ⟨_, rfl, ?_⟩; replace BK550 := (bkZ BK550 hb); replace HB := (bsZ (Zj GE550) hb)
        (try clear hb)
        (try clear hb2)
        (try clear hk)
        (try clear hi)
        refine hK.out _ _ (Zao BK550) (fun hHeld => ?_); clear hK K; refine normZ 16 ?_; refine pureZ HT_ 2 (some 17) (bT 18 3) ?_; refine pureZ HT_ 3 (some 18) (bT 18 4) ?_; refine pureU HT_ 4 (some 19) (bT 18 5) ?_; refine pureU HT_ 5 (some 20) (bT 18 6) ?_; refine pureU HT_ 6 (some 21) (bT 18 7) ?_; refine pureU HT_ 7 (some 22) (bT 18 8) ?_; refine pureU HT_ 8 (some 23) (bT 18 9) ?_; refine pureU HT_ 9 (some 24) (bT 18 10) ?_; refine pureU HT_ 10 (some 25) (bT 18 11) ?_; refine pureU HT_ 11 (some 26) (bT 18 12) ?_; refine pureU HT_ 12 (some 27) (bT 18 13) ?_; refine pureU HT_ 13 (some 28) (bT 18 14) ?_; refine pureU HT_ 14 (some 29) (bT 18 15) ?_; refine pureU HT_ 15 (some 30) (bT 18 16) ?_; refine pureU HT_ 16 (some 31) (bT 18 17) ?_; refine pureZ HT_ 17 (some 32) (bT 18 18) ?_; refine done_ (done_of HT_.out Za) ?_
        try go_wp2
        go_ret
        exact ⟨Zi, (Zj GE550)⟩
      ·rw [if_neg c5] at H
       exact absurd H (by simp)
     ·rw [if_neg c4] at H
      exact absurd H (by simp)
    ·rw [if_neg c3] at H
     have c3b0 := decide_eq_false c3; clear c3; obtain rfl := Option.some.inj H
     go_wp2
     go_ret
     exact ⟨Zi, Zh⟩
def impl_articleOf.l0 : Nat → ByteArray → List (S62) → Int → Int → Option (Int)
 | 0, _, _, _, _ => none
 | k + 1, x1, x7, x8, x9 => if x9 < x8 then (if 0 ≤ x9 then (if x9 < (x7.length : Int) then (if ((rd_T62 x7 x9).f0).toList = x1.toList then (some x9) else (impl_articleOf.l0 k x1 x7 x8 (wrap64 (x9 + 1)))) else (none)) else (none)) else (some (-1))
def impl_articleOf.f (k : Nat) (l0 : List (S62)) (a1 : ByteArray) : Option (Int) := impl_articleOf.l0 k a1 l0 (l0.length : Int) 0
set_option maxHeartbeats 8000000 in
set_option maxRecDepth 100000 in
theorem impl_articleOf.calls (k : Nat) (A0 : Option Addr) (c0 : Nat) (l0 : List (S62)) (a1 : ByteArray) (r : Int) (w : World) (hr0 : Kd.C k62 w A0 l0.length l0) (hc0 : l0.length ≤ c0) (h : impl_articleOf.f k l0 a1 = some r) :
  Calls Try.prog 63 #[.slice A0 l0.length c0, .string a1] w fun e w' => e = .returned (.int .i64 r) ∧ Below w.heap.size w w' := by
 have hu62 := Try.underlying62; have HR0 := am_ hr0; have HC0 := am_ hc0; clear hr0 hc0; have HB := am_ (Below.refl w.heap.size w); have H : (impl_articleOf.l0 k a1 l0 (l0.length : Int) 0) = some r := h; clear h; have H' := am_ H; clear H
 go_enter Try.func63, Try.ntmps63
 go_wp2
 go_loopg [9] k (fun kq v9 w' => ∃ (x9_1 : Int), v9 = .int .i64 x9_1 ∧ Aside0 (impl_articleOf.l0 kq a1 l0 (l0.length : Int) x9_1 = some r) ∧ Aside0 (kq ≤ k) ∧ Aside0 (Below w.heap.size w w'))
 case atStart => exact ⟨(0), Zc, H', ⟨Nat.le_refl _⟩, ⟨Zh⟩⟩
 case round =>
  clear H'
  try clear p2
  obtain ⟨x9_1, rfl, HA, HK1, HB⟩ := hrel
  cases gk with
  | zero => exact absurd HA.out (by simp [impl_articleOf.l0])
  | succ k1 =>
   have H := HA.out; clear HA; simp only [impl_articleOf.l0] at H
   by_cases c3 : x9_1 < (l0.length : Int)
   ·rw [if_pos c3] at H
    have c3b0 := decide_eq_true c3; clear c3
    by_cases c4 : 0 ≤ x9_1
    ·rw [if_pos c4] at H
     have c4b0 := decide_eq_true c4; clear c4
     by_cases c5 : x9_1 < (l0.length : Int)
     ·rw [if_pos c5] at H
      have c5b0 := decide_eq_true c5; clear c5
      by_cases c6 : ((rd_T62 l0 x9_1).f0).toList = a1.toList
      ·rw [if_pos c6] at H
       have c6b0 := beq_iff_eq.mpr c6; have c6b1 := bne_eq_false_iff_eq.mpr c6; clear c6; obtain rfl := Option.some.inj H; have p553 : 0 ≤ (x9_1 : Int) := of_decide_eq_true Ze; have q553 : x9_1 < (l0.length : Int) := of_decide_eq_true Ze; obtain ⟨ad553, e553, hx553_0, hx553_1, hx553_2, hx553_3, hx553_4, hx553_5, hx553_6, hx553_7, hx553_8⟩ := at_T62 HR0.out x9_1 p553 q553
       cases e553
       replace hx553_0 := cbH HB hx553_0; replace hx553_1 := cbH HB hx553_1; replace hx553_2 := cbH HB hx553_2; replace hx553_3 := cbH HB hx553_3; replace hx553_4 := cbH HB hx553_4; replace hx553_5 := cbH HB hx553_5; replace hx553_6 := cbH HB hx553_6; replace hx553_7 := cbH HB hx553_7; replace hx553_8 := cbH HB hx553_8; replace p553 := eq_true p553; replace q553 := eq_true q553
       go_wp2_with (first | ((with_reducible refine gate_dst (N := 6) rfl ?_); refine boxZ 6 #[.string (⟨#[]⟩ : ByteArray), .int .i64 0, .int .i64 0, .int .i64 0, .int .i64 0, .int .i64 0, .int .i64 0, .int .i64 0, .int .i64 0] 62 ?_; intro gb554 hg w7 hbox hb; replace BK554 := am_ (hbox); replace GW554 := am_ ((Zg : w.heap.size ≤ gb554)); replace GE554 := GW554; replace HB := (bsZ Zh hb); clear hb hbox hg; refine ci9 BK554 ?_; intros))
       go_ret
       exact ⟨Zi, (Zj GE554)⟩
      ·rw [if_neg c6] at H
       have c6b0 := beq_eq_false_iff_ne.mpr c6; have c6b1 := bne_iff_ne.mpr c6; have H' := am_ H; clear H; have p553 : 0 ≤ (x9_1 : Int) := of_decide_eq_true Ze; have q553 : x9_1 < (l0.length : Int) := of_decide_eq_true Ze; obtain ⟨ad553, e553, hx553_0, hx553_1, hx553_2, hx553_3, hx553_4, hx553_5, hx553_6, hx553_7, hx553_8⟩ := at_T62 HR0.out x9_1 p553 q553
       cases e553
       replace hx553_0 := cbH HB hx553_0; replace hx553_1 := cbH HB hx553_1; replace hx553_2 := cbH HB hx553_2; replace hx553_3 := cbH HB hx553_3; replace hx553_4 := cbH HB hx553_4; replace hx553_5 := cbH HB hx553_5; replace hx553_6 := cbH HB hx553_6; replace hx553_7 := cbH HB hx553_7; replace hx553_8 := cbH HB hx553_8; replace p553 := eq_true p553; replace q553 := eq_true q553
       go_wp2_with (first | ((with_reducible refine gate_dst (N := 6) rfl ?_); refine boxZ 6 #[.string (⟨#[]⟩ : ByteArray), .int .i64 0, .int .i64 0, .int .i64 0, .int .i64 0, .int .i64 0, .int .i64 0, .int .i64 0, .int .i64 0] 62 ?_; intro gb554 hg w9 hbox hb; replace BK554 := am_ (hbox); replace GW554 := am_ ((Zg : w.heap.size ≤ gb554)); replace GE554 := GW554; replace HB := (bsZ Zh hb); clear hb hbox hg; refine ci9 BK554 ?_; intros))
       go_roundg k1
       case measure => have := HK1.out; omega
       case rel => exact ⟨(wrap64 (x9_1 + 1)), Zc, H', ⟨Zf⟩, ⟨(Zj GE554)⟩⟩
     ·rw [if_neg c5] at H
      exact absurd H (by simp)
    ·rw [if_neg c4] at H
     exact absurd H (by simp)
   ·rw [if_neg c3] at H
    have c3b0 := decide_eq_false c3; clear c3; obtain rfl := Option.some.inj H
    go_wp2
    go_ret
    exact ⟨Zi, Zh⟩
def impl_isIndex.f (a0 : Int) (a1 : Int) : Option (Bool) := (impl_within.f a0 0 (wrap64 (a1 - 1))).bind fun t555 => (some t555)
set_option maxHeartbeats 8000000 in
set_option maxRecDepth 100000 in
theorem impl_isIndex.calls (a0 : Int) (a1 : Int) (r : Bool) (w : World) (h : impl_isIndex.f a0 a1 = some r) :
  Calls Try.prog 62 #[.int .i64 a0, .int .i64 a1] w fun e w' => e = .returned (.bool r) ∧ Drawn0 w w' := by
 have H : ((impl_within.f a0 0 (wrap64 (a1 - 1))).bind fun t555 => (some t555)) = some r := h; clear h; replace H := Option.bind_eq_some_iff.mp H; obtain ⟨t555, A30, H⟩ := H; have A3 := am_ A30; clear A30; obtain rfl := Option.some.inj H
 go_enter Try.func62, Try.ntmps62
 go_wp2_with (first | ((with_reducible refine gate_callee (f := 53) rfl ?_); refine gZ 8 Try.func53 #[.int .i64 a0, .int .i64 0, .int .i64 (wrap64 (a1 - 1))] ?_; (with_reducible refine (impl_within.calls a0 0 (wrap64 (a1 - 1)) t555 _ A3.out).mono ?_); rintro e w' ⟨rfl, ⟨nd, rfl⟩⟩; refine ⟨_, rfl, ?_⟩))
 go_ret
 exact ⟨Zc, Zd⟩
def impl_isBeat.f (l0 : List (S104)) (a1 : Int) (a2 : Int) : Option (Bool) := (impl_isIndex.f a1 (l0.length : Int)).bind fun t556 => (if t556 = true then (if 0 ≤ a1 then (if a1 < (l0.length : Int) then ((impl_within.f a2 0 (wrap64 (((rd_T104 l0 a1).f0) - 1))).bind fun t558 => (some t558)) else (none)) else (none)) else (some false))
set_option maxHeartbeats 8000000 in
set_option maxRecDepth 100000 in
theorem impl_isBeat.calls (A0 : Option Addr) (c0 : Nat) (l0 : List (S104)) (a1 : Int) (a2 : Int) (r : Bool) (w : World) (hr0 : Kd.C k104 w A0 l0.length l0) (hc0 : l0.length ≤ c0) (h : impl_isBeat.f l0 a1 a2 = some r) :
  Calls Try.prog 82 #[.slice A0 l0.length c0, .int .i64 a1, .int .i64 a2] w fun e w' => e = .returned (.bool r) ∧ Drawn0 w w' := by
 have HR0 := am_ hr0; have HC0 := am_ hc0; clear hr0 hc0; have H : ((impl_isIndex.f a1 (l0.length : Int)).bind fun t556 => (if t556 = true then (if 0 ≤ a1 then (if a1 < (l0.length : Int) then ((impl_within.f a2 0 (wrap64 (((rd_T104 l0 a1).f0) - 1))).bind fun t558 => (some t558)) else (none)) else (none)) else (some false))) = some r := h; clear h; replace H := Option.bind_eq_some_iff.mp H; obtain ⟨t556, A40, H⟩ := H; have A4 := am_ A40; clear A40; have HS_ := am_ H; clear H
 go_enter Try.func82, Try.ntmps82
 go_wp2_with (first | ((with_reducible refine gate_callee (f := 62) rfl ?_); refine gZ 10 Try.func62 #[.int .i64 a1, .int .i64 (l0.length : Int)] ?_; (with_reducible refine (impl_isIndex.calls a1 (l0.length : Int) t556 _ A4.out).mono ?_); rintro e w' ⟨rfl, ⟨nd, rfl⟩⟩; refine ⟨_, rfl, ?_⟩; refine ?roundEnd))
 case roundEnd =>
  by_cases c5 : t556 = true
  ·have H := HS_.out
   clear HS_; subst c5
   have H1 : (if 0 ≤ a1 then (if a1 < (l0.length : Int) then ((impl_within.f a2 0 (wrap64 (((rd_T104 l0 a1).f0) - 1))).bind fun t558 => (some t558)) else (none)) else (none)) = some r := by rw [if_pos rfl] at H; exact H
   clear H; have H := H1; clear H1
   by_cases c6 : 0 ≤ a1
   ·rw [if_pos c6] at H
    have c6b0 := decide_eq_true c6; clear c6
    by_cases c7 : a1 < (l0.length : Int)
    ·rw [if_pos c7] at H
     have c7b0 := decide_eq_true c7; clear c7; replace H := Option.bind_eq_some_iff.mp H; obtain ⟨t558, A80, H⟩ := H; have A8 := am_ A80; clear A80; obtain rfl := Option.some.inj H; have p557 : 0 ≤ (a1 : Int) := of_decide_eq_true Ze; have q557 : a1 < (l0.length : Int) := of_decide_eq_true Ze; obtain ⟨ad557, e557, hx557_0, hx557_1⟩ := at_T104 HR0.out a1 p557 q557
     cases e557
     replace p557 := eq_true p557; replace q557 := eq_true q557
     go_wp2_with (first | (go_at_call 53; (with_reducible refine (impl_within.calls a2 0 (wrap64 (((rd_T104 l0 a1).f0) - 1)) t558 _ A8.out).mono ?_); rintro e w' ⟨rfl, ⟨nd, rfl⟩⟩))
     go_ret
     exact ⟨Zc, Zd⟩
    ·rw [if_neg c7] at H
     exact absurd H (by simp)
   ·rw [if_neg c6] at H
    exact absurd H (by simp)
  ·have H := HS_.out
   clear HS_; replace c5 := Bool.eq_false_iff.mpr c5; subst c5
   have H1 : (some false) = some r := by rw [if_neg (show ¬ (false = true) by decide)] at H; exact H
   clear H; have H := H1; clear H1; obtain rfl := Option.some.inj H
   go_wp2_with (first | fail)
   go_ret
   exact ⟨Zc, Zd⟩
def impl_beatTime.l0 : Nat → List (S104) → Int → Int → Int → List (S104) → Int → Int → Option (Int)
 | 0, _, _, _, _, _, _, _ => none
 | k + 1, x0, x1, x2, x7, x12, x13, x14 => if x14 < x13 then (if 0 ≤ x14 then (if x14 < (x12.length : Int) then (impl_beatTime.l0 k x0 x1 x2 (wrap64 (x7 + (wrap64 (((rd_T104 x12 x14).f0) * ((rd_T104 x12 x14).f1))))) x12 x13 (wrap64 (x14 + 1))) else (none)) else (none)) else (if x2 > 0 then (if 0 ≤ x1 then (if x1 < (x0.length : Int) then (some (wrap64 (x7 + (wrap64 (x2 * ((rd_T104 x0 x1).f1)))))) else (none)) else (none)) else (some x7))
def impl_beatTime.f (k : Nat) (l0 : List (S104)) (a1 : Int) (a2 : Int) : Option (Int) := if 0 ≤ a1 then (if a1 ≤ (l0.length : Int) then ((some (l0.take (a1 : Int).toNat : List (S104))).bind fun y559 => (impl_beatTime.l0 k l0 a1 a2 0 y559 (y559.length : Int) 0)) else (none)) else (none)
set_option maxHeartbeats 8000000 in
set_option maxRecDepth 100000 in
theorem impl_beatTime.calls (k : Nat) (A0 : Option Addr) (c0 : Nat) (l0 : List (S104)) (a1 : Int) (a2 : Int) (r : Int) (w : World) (hr0 : Kd.C k104 w A0 l0.length l0) (hc0 : l0.length ≤ c0) (h : impl_beatTime.f k l0 a1 a2 = some r) :
  Calls Try.prog 83 #[.slice A0 l0.length c0, .int .i64 a1, .int .i64 a2] w fun e w' => e = .returned (.int .i64 r) ∧ Below w.heap.size w w' := by
 have hu104 := Try.underlying104; have HR0 := am_ hr0; have HC0 := am_ hc0; clear hr0 hc0; have HB := am_ (Below.refl w.heap.size w); have H : (if 0 ≤ a1 then (if a1 ≤ (l0.length : Int) then ((some (l0.take (a1 : Int).toNat : List (S104))).bind fun y559 => (impl_beatTime.l0 k l0 a1 a2 0 y559 (y559.length : Int) 0)) else (none)) else (none)) = some r := h; clear h
 by_cases c4 : 0 ≤ a1
 ·rw [if_pos c4] at H
  have c4b0 := eq_true c4; have c4b1 := decide_eq_true c4; clear c4
  by_cases c5 : a1 ≤ (l0.length : Int)
  ·rw [if_pos c5] at H
   have c5b0 := eq_true c5; have c5b1 := decide_eq_true c5; clear c5; obtain ⟨y559, hy559⟩ : ∃ y_ : List (S104), y_ = (l0.take (a1 : Int).toNat) := ⟨_, rfl⟩
   (first | (rw [← hy559] at H; with_reducible replace H := bindZ H) | rw [← hy559] at H | skip)
   have Ny559 := am_ hy559; clear hy559; have H' := am_ H; clear H; have q6 : (a1 : Int) ≤ ((l0.length : Int) : Int) := of_decide_eq_true Ze; obtain ⟨i06, hi06, _, hsz6, _⟩ := info_parts info104; have hroom6 : l0.length ≤ c0 := HC0.out; have hC6 : Kd.C k104 _ A0 l0.length l0 := HR0.out; have hcut6 := cut_to (P := Try.prog) 24 104 .i64 Try.underlying24 hi06 A0 l0.length c0 a1 (of_decide_eq_true Ze) q6 hroom6; have hr6 := Kd.C_take (m := (a1 : Int).toNat) hC6 (by omega); have hy6 : y559.length = (a1 : Int).toNat := (by rw [Ny559.out, List.length_take]; omega); rw [← Ny559.out] at hr6; rw [← hy6] at hcut6; have HR562 := am_ hr6; have HC562 := am_ (show y559.length ≤ c0 from (by omega)); clear hr6 hC6 hroom6 hi06 hsz6; have KY6 := am_ hy6; clear hy6; replace q6 := eq_true q6
   go_enter Try.func83, Try.ntmps83
   go_wp2
   go_loopg [7, 14] k (fun kq v7 v14 w' => ∃ (x7_1 : Int) (x14_1 : Int), v7 = .int .i64 x7_1 ∧ v14 = .int .i64 x14_1 ∧ Aside0 (impl_beatTime.l0 kq l0 a1 a2 x7_1 y559 (y559.length : Int) x14_1 = some r) ∧ Aside0 (kq ≤ k) ∧ Aside0 (Below w.heap.size w w'))
   case atStart => exact ⟨(0), (0), Zc, Zc, H', ⟨Nat.le_refl _⟩, ⟨Zh⟩⟩
   case round =>
    clear H'
    try clear p2
    try clear c4
    try clear c4b0
    try clear c4b1
    try clear c5
    try clear c5b0
    try clear c5b1
    try clear q6
    try clear q6
    obtain ⟨x7_1, x14_1, rfl, rfl, HA, HK1, HB⟩ := hrel
    cases gk with
    | zero => exact absurd HA.out (by simp [impl_beatTime.l0])
    | succ k1 =>
     have H := HA.out; clear HA; simp only [impl_beatTime.l0] at H
     by_cases c7 : x14_1 < (y559.length : Int)
     ·rw [if_pos c7] at H
      have c7b0 := decide_eq_true c7; clear c7
      by_cases c8 : 0 ≤ x14_1
      ·rw [if_pos c8] at H
       have c8b0 := decide_eq_true c8; clear c8
       by_cases c9 : x14_1 < (y559.length : Int)
       ·rw [if_pos c9] at H
        have c9b0 := decide_eq_true c9; clear c9; have H' := am_ H; clear H; have p563 : 0 ≤ (x14_1 : Int) := of_decide_eq_true Ze; have q563 : x14_1 < (y559.length : Int) := of_decide_eq_true Ze; obtain ⟨ad563, e563, hx563_0, hx563_1⟩ := at_T104 HR562.out x14_1 p563 q563
        cases e563
        replace hx563_0 := cbH HB hx563_0; replace hx563_1 := cbH HB hx563_1; replace p563 := eq_true p563; replace q563 := eq_true q563
        go_wp2_with (first | ((with_reducible refine gate_dst (N := 9) rfl ?_); refine boxZ 9 #[.int .i64 0, .int .i64 0] 104 ?_; intro gb564 hg w10 hbox hb; replace BK564 := am_ (hbox); replace GW564 := am_ ((Zg : w.heap.size ≤ gb564)); replace GE564 := GW564; replace HB := (bsZ Zh hb); clear hb hbox hg; refine ci2 BK564 ?_; intros))
        go_roundg k1
        case measure => have := HK1.out; omega
        case rel => exact ⟨(wrap64 (x7_1 + (wrap64 (((rd_T104 y559 x14_1).f0) * ((rd_T104 y559 x14_1).f1))))), (wrap64 (x14_1 + 1)), Zc, Zc, H', ⟨Zf⟩, ⟨(Zj GE564)⟩⟩
       ·rw [if_neg c9] at H
        exact absurd H (by simp)
      ·rw [if_neg c8] at H
       exact absurd H (by simp)
     ·rw [if_neg c7] at H
      have c7b0 := decide_eq_false c7; clear c7
      by_cases c12 : a2 > 0
      ·rw [if_pos c12] at H
       have c12b0 : decide (0 < a2) = true := decide_eq_true c12; clear c12
       by_cases c13 : 0 ≤ a1
       ·rw [if_pos c13] at H
        have c13b0 := decide_eq_true c13; clear c13
        by_cases c14 : a1 < (l0.length : Int)
        ·rw [if_pos c14] at H
         have c14b0 := decide_eq_true c14; clear c14; obtain rfl := Option.some.inj H; have p565 : 0 ≤ (a1 : Int) := of_decide_eq_true Ze; have q565 : a1 < (l0.length : Int) := of_decide_eq_true Ze; obtain ⟨ad565, e565, hx565_0, hx565_1⟩ := at_T104 HR0.out a1 p565 q565
         cases e565
         replace hx565_0 := cbH HB hx565_0; replace hx565_1 := cbH HB hx565_1; replace p565 := eq_true p565; replace q565 := eq_true q565
         go_wp2
         go_ret
         exact ⟨Zi, Zh⟩
        ·rw [if_neg c14] at H
         exact absurd H (by simp)
       ·rw [if_neg c13] at H
        exact absurd H (by simp)
      ·rw [if_neg c12] at H
       have c12b0 : decide (0 < a2) = false := decide_eq_false c12; clear c12; obtain rfl := Option.some.inj H
       go_wp2
       go_ret
       exact ⟨Zi, Zh⟩
  ·rw [if_neg c5] at H
   exact absurd H (by simp)
 ·rw [if_neg c4] at H
  exact absurd H (by simp)
def impl_firedAt.f (k : Nat) (l0_0 : List (S104)) (l0_1 : List (S62)) (l0_2 : List (S39)) (a1_0 : Int) (a1_1 : Int) (a1_2 : ByteArray) (a1_3 : Int) : Option (Int) := (impl_articleOf.f k l0_1 a1_2).bind fun t568 => (if t568 < 0 then (some (-1)) else ((impl_isBeat.f l0_0 a1_0 a1_1).bind fun t569 => (if t569 = true then ((impl_beatTime.f k l0_0 a1_0 a1_1).bind fun t570 => (if 0 ≤ t568 then (if t568 < (l0_1.length : Int) then (some (mx (-1) (wrap64 (t570 - ((rd_T62 l0_1 t568).f3))))) else (none)) else (none))) else (some (-1)))))
def impl_firedAt.T4 : Bool × List (List Nat × List Nat) := (true, [([], []), ([0], [0]), ([], []), ([2], [2]), ([], []), ([4], [4]), ([1, 3, 5], [1, 3, 5]), ([], []), ([7], [7]), ([], []), ([8, 9], [8, 9]), ([10], [10]), ([11], [11]), ([6, 12], [6, 12]), ([13], [13]), ([14, 6, 0, 1, 2, 3, 4, 5, 6, 7, 8, 9, 10, 11, 12, 13, 14], [14])])
def impl_firedAt.B4 : List Nat := [0, 1, 0, 4, 0, 16, 63, 0, 128, 0, 896, 1920, 3968, 8191, 16383, 32767]
theorem impl_firedAt.tab4 : rtab .any (opsOf Try.f70 4) = impl_firedAt.T4 := by kernel_rfl
theorem impl_firedAt.bits4 : waitsOk impl_firedAt.T4.2 impl_firedAt.B4 = true := by kernel_rfl
set_option maxHeartbeats 8000000 in
set_option maxRecDepth 100000 in
theorem impl_firedAt.calls (k : Nat) (A0_0 : Option Addr) (c0_0 : Nat) (l0_0 : List (S104)) (A0_1 : Option Addr) (c0_1 : Nat) (l0_1 : List (S62)) (A0_2 : Option Addr) (c0_2 : Nat) (l0_2 : List (S39)) (a1_0 : Int) (a1_1 : Int) (a1_2 : ByteArray) (a1_3 : Int) (r : Int) (w : World) (hr0_0 : Kd.C k104 w A0_0 l0_0.length l0_0) (hc0_0 : l0_0.length ≤ c0_0) (hr0_1 : Kd.C k62 w A0_1 l0_1.length l0_1) (hc0_1 : l0_1.length ≤ c0_1) (hr0_2 : Kd.C k39 w A0_2 l0_2.length l0_2) (hc0_2 : l0_2.length ≤ c0_2) (h : impl_firedAt.f k l0_0 l0_1 l0_2 a1_0 a1_1 a1_2 a1_3 = some r) :
  Calls Try.prog 70 #[.agg #[.slice A0_0 l0_0.length c0_0, .slice A0_1 l0_1.length c0_1, .slice A0_2 l0_2.length c0_2], .agg #[.int .i64 a1_0, .int .i64 a1_1, .string a1_2, .int .i64 a1_3]] w fun e w' => e = .returned (.int .i64 r) ∧ Below w.heap.size w w' := by
 have hu28 := Try.underlying28; have hu39 := Try.underlying39; have HR0_0 := am_ hr0_0; have HC0_0 := am_ hc0_0; clear hr0_0 hc0_0; have HR0_1 := am_ hr0_1; have HC0_1 := am_ hc0_1; clear hr0_1 hc0_1; have HR0_2 := am_ hr0_2; have HC0_2 := am_ hc0_2; clear hr0_2 hc0_2; have HB := am_ (Below.refl w.heap.size w); have H : ((impl_articleOf.f k l0_1 a1_2).bind fun t568 => (if t568 < 0 then (some (-1)) else ((impl_isBeat.f l0_0 a1_0 a1_1).bind fun t569 => (if t569 = true then ((impl_beatTime.f k l0_0 a1_0 a1_1).bind fun t570 => (if 0 ≤ t568 then (if t568 < (l0_1.length : Int) then (some (mx (-1) (wrap64 (t570 - ((rd_T62 l0_1 t568).f3))))) else (none)) else (none))) else (some (-1)))))) = some r := h; clear h; replace H := Option.bind_eq_some_iff.mp H; obtain ⟨t568, A30, H⟩ := H; have A3 := am_ A30; clear A30; have HS_ := am_ H; clear H
 go_enter Try.func70, Try.ntmps70
 go_wp2_with (first | ((with_reducible refine gate_dst (N := 2) rfl ?_); refine boxZ 2 #[.slice A0_0 l0_0.length c0_0, .slice A0_1 l0_1.length c0_1, .slice A0_2 l0_2.length c0_2] 28 ?_; intro gb566 hg w5 hbox hb; replace BK566 := am_ (hbox); replace GW566 := am_ ((Zg : w.heap.size ≤ gb566)); replace GE566 := GW566; replace HB := (bsZ Zh hb); clear hb hbox hg) | ((with_reducible refine gate_dst (N := 3) rfl ?_); refine boxZ 3 #[.int .i64 a1_0, .int .i64 a1_1, .string a1_2, .int .i64 a1_3] 39 ?_; intro gb567 hg w6 hbox hb; replace BK567 := am_ (hbox); replace GW567 := am_ (((Zl GE566) : w.heap.size ≤ gb567)); replace GE567 := GW567; replace HB := (bsZ (Zj GE566) hb); replace NB566_567 := am_ ((by rw [hg]; exact Nat.ne_of_lt (blk_lt (g := gb566) (b0Z BK566)) : gb566 ≠ gb567)); replace NB567_566 := am_ ((by rw [hg]; exact Nat.ne_of_gt (blk_lt (g := gb566) (b0Z BK566)) : gb567 ≠ gb566)); replace BK566 := (bkZ BK566 hb); clear hb hbox hg; have hnb7 := NB566_567.out; have hnc7 := NB567_566.out; refine ci3 BK566 ?_; intros; refine ci4 BK567 ?_; intros) | ((with_reducible refine gate_callee (f := 63) rfl ?_); refine gZ 10 Try.func63 #[.slice A0_1 l0_1.length c0_1, .string a1_2] ?_; (with_reducible refine (impl_articleOf.calls k _ _ l0_1 a1_2 t568 _ ?_ ?_ A3.out).mono ?_); exact (Zm HR0_1); exact HC0_1.out; rintro e w10 ⟨rfl, hb⟩; refine ⟨_, rfl, ?_⟩; replace BK566 := (bkZ BK566 hb); replace BK567 := (bkZ BK567 hb); replace HB := (bsZ (Zo GE566 GE567) hb); clear hb; refine ?roundEnd))
 case roundEnd =>
  by_cases c4 : t568 < 0
  ·have H := HS_.out
   clear HS_; rw [if_pos c4] at H; have c4b0 := decide_eq_true c4; clear c4; obtain rfl := Option.some.inj H
   go_wp2_with (first | fail)
   go_ret
   exact ⟨Zi, (Zo GE566 GE567)⟩
  ·have H := HS_.out
   clear HS_; rw [if_neg c4] at H; have c4b0 := decide_eq_false c4; clear c4; replace H := Option.bind_eq_some_iff.mp H; obtain ⟨t569, A110, H⟩ := H; have A11 := am_ A110; clear A110; have HS_ := am_ H; clear H; refine ci3 BK566 ?_; intros; refine ci4 BK567 ?_; intros
   try go_wp2_with (first | (go_at_call 82; (with_reducible refine (impl_isBeat.calls _ _ l0_0 a1_0 a1_1 t569 _ ?_ ?_ A11.out).mono ?_); exact (Zm HR0_0); exact HC0_0.out; rintro e w' ⟨rfl, ⟨nd, rfl⟩⟩; refine ?roundEnd))
   case roundEnd =>
    by_cases c12 : t569 = true
    ·have H := HS_.out
     clear HS_; subst c12
     have H1 : ((impl_beatTime.f k l0_0 a1_0 a1_1).bind fun t570 => (if 0 ≤ t568 then (if t568 < (l0_1.length : Int) then (some (mx (-1) (wrap64 (t570 - ((rd_T62 l0_1 t568).f3))))) else (none)) else (none))) = some r := by rw [if_pos rfl] at H; exact H
     clear H; have H := H1; clear H1; replace H := Option.bind_eq_some_iff.mp H; obtain ⟨t570, A130, H⟩ := H; have A13 := am_ A130; clear A130
     by_cases c14 : 0 ≤ t568
     ·rw [if_pos c14] at H
      have c14b0 := decide_eq_true c14; clear c14
      by_cases c15 : t568 < (l0_1.length : Int)
      ·rw [if_pos c15] at H
       have c15b0 := decide_eq_true c15; clear c15; obtain ⟨ji16, hji16⟩ : ∃ j_ : Int, (mx (-1) (wrap64 (t570 - ((rd_T62 l0_1 t568).f3)))) = j_ := ⟨_, rfl⟩
       replace H : (some ji16) = some r := by first | (rw [hji16] at H; exact H) | (simp only [hji16] at H ⊢; exact H)
       (try rw [hji16] at A3)
       (try rw [hji16] at A11)
       (try rw [hji16] at A13)
       have hji16_ : (if (-1) < (wrap64 (t570 - ((rd_T62 l0_1 t568).f3))) then (wrap64 (t570 - ((rd_T62 l0_1 t568).f3))) else (-1)) = ji16 := hji16; obtain rfl := Option.some.inj H
       try go_wp2_with (first | fail)
       (try (rw [drewN_self w10]; generalize hq_ : World.drewN w10 _ = w10; replace BK566 : Aside0 (w10.heap[gb566]? = some (.cells #[.slice A0_0 l0_0.length c0_0, .slice A0_1 l0_1.length c0_1, .slice A0_2 l0_2.length c0_2] 28 (0, 0))) := ⟨by rw [← hq_]; exact (b0Z BK566)⟩; replace BK567 : Aside0 (w10.heap[gb567]? = some (.cells #[.int .i64 a1_0, .int .i64 a1_1, .string a1_2, .int .i64 a1_3] 39 (0, 0))) := ⟨by rw [← hq_]; exact (b0Z BK567)⟩; replace HB : Aside0 (Below w.heap.size w w10) := ⟨(Zap GE566 GE567)⟩; clear hq_))
       replace BK566 := am_ (blk_drew BK566.out); replace BK567 := am_ (blk_drew BK567.out); replace HB := am_ (below_drew1 HB.out); have p571 : 0 ≤ (t568 : Int) := of_decide_eq_true Ze; have q571 : t568 < (l0_1.length : Int) := of_decide_eq_true Ze; obtain ⟨ad571, e571, hx571_0, hx571_1, hx571_2, hx571_3, hx571_4, hx571_5, hx571_6, hx571_7, hx571_8⟩ := at_T62 HR0_1.out t568 p571 q571; have hw571_8 := hx571_8; have hw571_7 := hx571_7; have hw571_6 := hx571_6; have hw571_5 := hx571_5; have hw571_4 := hx571_4; have hw571_3 := hx571_3; have hw571_2 := hx571_2; have hw571_1 := hx571_1; have hw571_0 := hx571_0
       cases e571
       replace hx571_0 := cbH HB hx571_0; replace hx571_1 := cbH HB hx571_1; replace hx571_2 := cbH HB hx571_2; replace hx571_3 := cbH HB hx571_3; replace hx571_4 := cbH HB hx571_4; replace hx571_5 := cbH HB hx571_5; replace hx571_6 := cbH HB hx571_6; replace hx571_7 := cbH HB hx571_7; replace hx571_8 := cbH HB hx571_8; replace p571 := eq_true p571; replace q571 := eq_true q571; refine start_ (n := 16) (S := fun w' => w'.cell? ⟨gb566, 0, none⟩ = some (.slice A0_0 l0_0.length c0_0) ∧ w'.cell? ⟨gb566, 1, none⟩ = some (.slice (some ad571) l0_1.length c0_1) ∧ w'.cell? ⟨gb566, 2, none⟩ = some (.slice A0_2 l0_2.length c0_2) ∧ w'.cell? ⟨gb567, 0, none⟩ = some (.int .i64 a1_0) ∧ w'.cell? ⟨gb567, 1, none⟩ = some (.int .i64 a1_1) ∧ w'.cell? ⟨gb567, 2, none⟩ = some (.string a1_2) ∧ w'.cell? ⟨gb567, 3, none⟩ = some (.int .i64 a1_3) ∧ w'.cell? (ad571.add ((t568).toNat * 9)) = some (.string ((rd_T62 l0_1 t568).f0)) ∧ w'.cell? ⟨(ad571.add ((t568).toNat * 9)).block, (ad571.add ((t568).toNat * 9)).off + 1, none⟩ = some (.int .i64 ((rd_T62 l0_1 t568).f1)) ∧ w'.cell? ⟨(ad571.add ((t568).toNat * 9)).block, (ad571.add ((t568).toNat * 9)).off + 2, none⟩ = some (.int .i64 ((rd_T62 l0_1 t568).f2)) ∧ w'.cell? ⟨(ad571.add ((t568).toNat * 9)).block, (ad571.add ((t568).toNat * 9)).off + 3, none⟩ = some (.int .i64 ((rd_T62 l0_1 t568).f3)) ∧ w'.cell? ⟨(ad571.add ((t568).toNat * 9)).block, (ad571.add ((t568).toNat * 9)).off + 4, none⟩ = some (.int .i64 ((rd_T62 l0_1 t568).f4)) ∧ w'.cell? ⟨(ad571.add ((t568).toNat * 9)).block, (ad571.add ((t568).toNat * 9)).off + 5, none⟩ = some (.int .i64 ((rd_T62 l0_1 t568).f5)) ∧ w'.cell? ⟨(ad571.add ((t568).toNat * 9)).block, (ad571.add ((t568).toNat * 9)).off + 6, none⟩ = some (.int .i64 ((rd_T62 l0_1 t568).f6)) ∧ w'.cell? ⟨(ad571.add ((t568).toNat * 9)).block, (ad571.add ((t568).toNat * 9)).off + 7, none⟩ = some (.int .i64 ((rd_T62 l0_1 t568).f7)) ∧ w'.cell? ⟨(ad571.add ((t568).toNat * 9)).block, (ad571.add ((t568).toNat * 9)).off + 8, none⟩ = some (.int .i64 ((rd_T62 l0_1 t568).f8))) (ds := []) (bT 16 0) Za rfl rfl ⟨(blk_cell BK566.out 0).trans rfl, (blk_cell BK566.out 1).trans rfl, (blk_cell BK566.out 2).trans rfl, (blk_cell BK567.out 0).trans rfl, (blk_cell BK567.out 1).trans rfl, (blk_cell BK567.out 2).trans rfl, (blk_cell BK567.out 3).trans rfl, (cbH HB hw571_0 :), (cbH HB hw571_1 :), (cbH HB hw571_2 :), (cbH HB hw571_3 :), (cbH HB hw571_4 :), (cbH HB hw571_5 :), (cbH HB hw571_6 :), (cbH HB hw571_7 :), (cbH HB hw571_8 :)⟩ (fun hHeld => ?_); refine with_tabW impl_firedAt.tab4 impl_firedAt.bits4 (fun HT_ HW_ => ?_); generalize w10.drew = w25 at BK566 BK567 HB hx571_0 hx571_1 hx571_2 hx571_3 hx571_4 hx571_5 hx571_6 hx571_7 hx571_8 hHeld ⊢; refine pureZ HT_ 0 (some 23) (bT 16 1) ?_; refine pureZ HT_ 2 (some 25) (bB 16 5) ?_; refine pureZ HT_ 4 (some 27) (bB 16 21) ?_; refine pureZ HT_ 7 (some 30) (bB 16 149) ?_; refine pureZ HT_ 9 (some 32) (bB 16 661) ?_; refine takeZ16 HT_ HW_ 1 (some 24) (bB 16 663) hHeld ?_; refine takeZ16 HT_ HW_ 3 (some 26) (bB 16 671) hHeld ?_
       refine takeZ16 HT_ HW_ 5 (some 28) (bB 16 703) hHeld ?_; refine takeZ16 HT_ HW_ 8 (some 31) (bB 16 959) hHeld ?_; refine pureZ HT_ 10 (some 33) (bB 16 1983) ?_; refine pureZ HT_ 11 (some 34) (bB 16 4031) ?_; refine takeZ16 HT_ HW_ 12 (some 35) (bB 16 8127) hHeld ?_; refine one_ (i := 6) (N := some 29) (bT 16 13) rfl rfl (one_of HT_.out Za) (by decide) (fun K hK => ?_); refine goes_ Try.func83 Za rfl #[.slice A0_0 l0_0.length c0_0, .int .i64 a1_0, .int .i64 a1_1] (by rfl) rfl rfl Zk ?_
       with_reducible refine (impl_beatTime.calls k _ _ l0_0 a1_0 a1_1 t570 _ ?side1 ?side2 A13.out).mono ?_
       (case side1 => exact (Zm HR0_0))
       (case side2 => exact HC0_0.out)
       rintro e w26 ⟨rfl, hb⟩; refine ⟨_, rfl, ?_⟩; replace BK566 := (bkZ BK566 hb); replace BK567 := (bkZ BK567 hb); replace HB := (bsZ (Zo GE566 GE567) hb)
       (try clear hb)
       (try clear hb2)
       (try clear hk)
       (try clear hi)
       refine hK.out _ _ (by exact ⟨(blk_cell BK566.out 0).trans rfl, (blk_cell BK566.out 1).trans rfl, (blk_cell BK566.out 2).trans rfl, (blk_cell BK567.out 0).trans rfl, (blk_cell BK567.out 1).trans rfl, (blk_cell BK567.out 2).trans rfl, (blk_cell BK567.out 3).trans rfl, (cbH HB hw571_0 :), (cbH HB hw571_1 :), (cbH HB hw571_2 :), (cbH HB hw571_3 :), (cbH HB hw571_4 :), (cbH HB hw571_5 :), (cbH HB hw571_6 :), (cbH HB hw571_7 :), (cbH HB hw571_8 :)⟩) (fun hHeld => ?_); clear hK K; refine normZ 29 ?_; refine pureZ HT_ 13 (some 36) (bT 16 14) ?_; refine pureZ HT_ 14 (some 37) (bT 16 15) ?_; refine pureZ HT_ 15 (some 4) (bT 16 16) ?_; refine done_ (done_of HT_.out Za) ?_
       try go_wp2
       go_ret
       exact ⟨by first | rfl | (simp [errW_none, errW_some] <;> rfl) | (simp only [← hji16]; first | rfl | (simp [errW_none, errW_some] <;> rfl)) | (simp [*, errW_none, errW_some] <;> rfl), (Zo GE566 GE567)⟩
      ·rw [if_neg c15] at H
       exact absurd H (by simp)
     ·rw [if_neg c14] at H
      exact absurd H (by simp)
    ·have H := HS_.out
     clear HS_; replace c12 := Bool.eq_false_iff.mpr c12; subst c12
     have H1 : (some (-1)) = some r := by rw [if_neg (show ¬ (false = true) by decide)] at H; exact H
     clear H; have H := H1; clear H1; obtain rfl := Option.some.inj H
     go_wp2_with (first | fail)
     go_ret
     exact ⟨Zi, (Zo GE566 GE567)⟩
mutual
def impl_IsShow.j0 : Nat → Bool → List (S104) → List (S62) → List (S39) → Option (Bool)
 | 0, _, _, _, _ => none
 | k + 1, x20, x573000, x573001, x573002 => if x20 = true then (some false) else (impl_IsShow.l0 k x573002 (x573002.length : Int) 0 x573000 x573001 x573002)
def impl_IsShow.l0 : Nat → List (S39) → Int → Int → List (S104) → List (S62) → List (S39) → Option (Bool)
 | 0, _, _, _, _, _, _ => none
 | k + 1, x22, x23, x24, x573000, x573001, x573002 => if x24 < x23 then (if 0 ≤ x24 then (if x24 < (x22.length : Int) then ((impl_within.f ((rd_T39 x22 x24).f3) 0 11).bind fun t577 => (if t577 = true then ((impl_firedAt.f k x573000 x573001 x573002 ((rd_T39 x22 x24).f0) ((rd_T39 x22 x24).f1) ((rd_T39 x22 x24).f2) ((rd_T39 x22 x24).f3)).bind fun t578 => (if t578 < 0 then (some false) else (impl_IsShow.l0 k x22 x23 (wrap64 (x24 + 1)) x573000 x573001 x573002))) else (some false))) else (none)) else (none)) else (some true)
end
def impl_IsShow.f (k : Nat) (l0_0 : List (S104)) (l0_1 : List (S62)) (l0_2 : List (S39)) : Option (Bool) := (impl_IsScore.f k l0_0).bind fun t573 => (if t573 = true then ((impl_AreArticles.f k l0_1).bind fun t574 => (if t574 = true then (impl_IsShow.j0 k (decide ((l0_2.length : Int) > 20)) l0_0 l0_1 l0_2) else (impl_IsShow.j0 k true l0_0 l0_1 l0_2))) else (impl_IsShow.j0 k true l0_0 l0_1 l0_2))
set_option maxHeartbeats 8000000 in
set_option maxRecDepth 100000 in
theorem impl_IsShow.calls (k : Nat) (A0_0 : Option Addr) (c0_0 : Nat) (l0_0 : List (S104)) (A0_1 : Option Addr) (c0_1 : Nat) (l0_1 : List (S62)) (A0_2 : Option Addr) (c0_2 : Nat) (l0_2 : List (S39)) (r : Bool) (w : World) (hr0_0 : Kd.C k104 w A0_0 l0_0.length l0_0) (hc0_0 : l0_0.length ≤ c0_0) (hr0_1 : Kd.C k62 w A0_1 l0_1.length l0_1) (hc0_1 : l0_1.length ≤ c0_1) (hr0_2 : Kd.C k39 w A0_2 l0_2.length l0_2) (hc0_2 : l0_2.length ≤ c0_2) (h : impl_IsShow.f k l0_0 l0_1 l0_2 = some r) :
  Calls Try.prog 25 #[.agg #[.slice A0_0 l0_0.length c0_0, .slice A0_1 l0_1.length c0_1, .slice A0_2 l0_2.length c0_2]] w fun e w' => e = .returned (.bool r) ∧ Below w.heap.size w w' := by
 have hu28 := Try.underlying28; have hu39 := Try.underlying39; have HR0_0 := am_ hr0_0; have HC0_0 := am_ hc0_0; clear hr0_0 hc0_0; have HR0_1 := am_ hr0_1; have HC0_1 := am_ hc0_1; clear hr0_1 hc0_1; have HR0_2 := am_ hr0_2; have HC0_2 := am_ hc0_2; clear hr0_2 hc0_2; have HB := am_ (Below.refl w.heap.size w); have H : ((impl_IsScore.f k l0_0).bind fun t573 => (if t573 = true then ((impl_AreArticles.f k l0_1).bind fun t574 => (if t574 = true then (impl_IsShow.j0 k (decide ((l0_2.length : Int) > 20)) l0_0 l0_1 l0_2) else (impl_IsShow.j0 k true l0_0 l0_1 l0_2))) else (impl_IsShow.j0 k true l0_0 l0_1 l0_2))) = some r := h; clear h; have HC2 := am_ H; clear H
 go_enter Try.func25, Try.ntmps25
 go_upto_region 1 with (first | ((with_reducible refine gate_dst (N := 1) rfl ?_); (try (refine gate_guard (by rfl) ?_; dsimp only)); refine boxZ 1 #[.slice A0_0 l0_0.length c0_0, .slice A0_1 l0_1.length c0_1, .slice A0_2 l0_2.length c0_2] 28 ?_; intro gb572 hg w3 hbox hb; replace BK572 := am_ (hbox); replace GW572 := am_ ((Zg : w.heap.size ≤ gb572)); replace GE572 := GW572; replace HB := (bsZ Zh hb); clear hb hbox hg))
 (try simp only [Act.put, List.setIfInBounds_toArray, List.set_cons_zero, List.set_cons_succ])
 go_cut [20] (fun v20 wc => ∃ (kq : Nat) (x20_1 : Bool), v20 = .bool x20_1 ∧ Aside0 (impl_IsShow.j0 kq x20_1 l0_0 l0_1 l0_2 = some r) ∧ Aside0 (kq ≤ k) ∧ Aside0 (wc.heap[gb572]? = some (.cells #[(.slice A0_0 l0_0.length c0_0), (.slice A0_1 l0_1.length c0_1), (.slice A0_2 l0_2.length c0_2)] 28 (0, 0))) ∧ Aside0 (Below w.heap.size w wc))
 case first =>
  have H := HC2.out; clear HC2; replace H := Option.bind_eq_some_iff.mp H; obtain ⟨t573, A40, H⟩ := H; have A4 := am_ A40; clear A40; have HS_ := am_ H; clear H; refine ci3 BK572 ?_; intros
  go_wp2_with (first | ((with_reducible refine gate_callee (f := 68) rfl ?_); refine gZ 7 Try.func68 #[.slice A0_0 l0_0.length c0_0] ?_; (with_reducible refine (impl_IsScore.calls k _ _ l0_0 t573 _ ?_ ?_ A4.out).mono ?_); exact (Zm HR0_0); exact HC0_0.out; rintro e w9 ⟨rfl, hb⟩; refine ⟨_, rfl, ?_⟩; replace BK572 := (bkZ BK572 hb); replace HB := (bsZ (Zj GE572) hb); clear hb; refine ?roundEnd))
  case roundEnd =>
   by_cases c5 : t573 = true
   ·have H := HS_.out
    clear HS_; subst c5
    have H1 : ((impl_AreArticles.f k l0_1).bind fun t574 => (if t574 = true then (impl_IsShow.j0 k (decide ((l0_2.length : Int) > 20)) l0_0 l0_1 l0_2) else (impl_IsShow.j0 k true l0_0 l0_1 l0_2))) = some r := by rw [if_pos rfl] at H; exact H
    clear H; have H := H1; clear H1; replace H := Option.bind_eq_some_iff.mp H; obtain ⟨t574, A60, H⟩ := H; have A6 := am_ A60; clear A60; have HS_ := am_ H; clear H; refine ci3 BK572 ?_; intros
    go_wp2_with (first | (go_at_call 69; (with_reducible refine (impl_AreArticles.calls k _ _ l0_1 t574 _ ?_ ?_ A6.out).mono ?_); exact (Zm HR0_1); exact HC0_1.out; rintro e w11 ⟨rfl, hb⟩; replace BK572 := (bkZ BK572 hb); replace HB := (bsZ (Zj GE572) hb); clear hb; refine ?roundEnd))
    case roundEnd =>
     by_cases c7 : t574 = true
     ·have H := HS_.out
      clear HS_; subst c7
      have H1 : (impl_IsShow.j0 k (decide ((l0_2.length : Int) > 20)) l0_0 l0_1 l0_2) = some r := by rw [if_pos rfl] at H; exact H
      clear H; have H := H1; clear H1; have H' := am_ H; clear H; refine ci3 BK572 ?_; intros
      go_wp2_with (first | fail)
      go_meet
      case rel => exact ⟨_, (decide ((l0_2.length : Int) > 20)), Zc, H', ⟨Zp⟩, ⟨(Zq BK572)⟩, ⟨(Zj GE572)⟩⟩
     ·have H := HS_.out
      clear HS_; replace c7 := Bool.eq_false_iff.mpr c7; subst c7
      have H1 : (impl_IsShow.j0 k true l0_0 l0_1 l0_2) = some r := by rw [if_neg (show ¬ (false = true) by decide)] at H; exact H
      clear H; have H := H1; clear H1; have H' := am_ H; clear H
      go_wp2_with (first | fail)
      go_meet
      case rel => exact ⟨_, (true), Zc, H', ⟨Zp⟩, ⟨(Zq BK572)⟩, ⟨(Zj GE572)⟩⟩
   ·have H := HS_.out
    clear HS_; replace c5 := Bool.eq_false_iff.mpr c5; subst c5
    have H1 : (impl_IsShow.j0 k true l0_0 l0_1 l0_2) = some r := by rw [if_neg (show ¬ (false = true) by decide)] at H; exact H
    clear H; have H := H1; clear H1; have H' := am_ H; clear H
    go_wp2_with (first | fail)
    go_meet
    case rel => exact ⟨_, (true), Zc, H', ⟨Zp⟩, ⟨(Zq BK572)⟩, ⟨(Zj GE572)⟩⟩
 case rest =>
  clear HC2
  try clear c2
  try clear p2
  try clear c5
  try clear c6
  try clear c7
  obtain ⟨kq, x20_1, rfl, HA, HJ1, BK572, HB⟩ := hcut
  cases kq with
  | zero => exact absurd HA.out (by simp [impl_IsShow.j0])
  | succ kj1 =>
   have H := HA.out; clear HA; simp only [impl_IsShow.j0] at H
   by_cases c19 : x20_1 = true
   ·subst c19
    have H1 : (some false) = some r := by rw [if_pos rfl] at H; exact H
    clear H; have H := H1; clear H1; obtain rfl := Option.some.inj H
    go_wp2
    go_ret
    exact ⟨Zi, (Zj GE572)⟩
   ·replace c19 := Bool.eq_false_iff.mpr c19
    subst c19
    have H1 : (impl_IsShow.l0 kj1 l0_2 (l0_2.length : Int) 0 l0_0 l0_1 l0_2) = some r := by rw [if_neg (show ¬ (false = true) by decide)] at H; exact H
    clear H; have H := H1; clear H1; have H' := am_ H; clear H; refine ci3 BK572 ?_; intros
    go_wp2
    go_loopg [24] kj1 (fun kq v24 w' => ∃ (x24_2 : Int), v24 = .int .i64 x24_2 ∧ Aside0 (impl_IsShow.l0 kq l0_2 (l0_2.length : Int) x24_2 l0_0 l0_1 l0_2 = some r) ∧ Aside0 (kq ≤ kj1) ∧ Aside0 (w'.heap[gb572]? = some (.cells #[(.slice A0_0 l0_0.length c0_0), (.slice A0_1 l0_1.length c0_1), (.slice A0_2 l0_2.length c0_2)] 28 (0, 0))) ∧ Aside0 (Below w.heap.size w w'))
    case atStart => exact ⟨(0), Zc, H', ⟨Nat.le_refl _⟩, ⟨(Zq BK572)⟩, ⟨(Zj GE572)⟩⟩
    case round =>
     clear H'
     try clear c1
     try clear c2
     try clear p2
     try clear c5
     try clear c6
     try clear c7
     try clear c19
     try clear p2
     obtain ⟨x24_2, rfl, HA, HK2, BK572, HB⟩ := hrel
     cases gk with
     | zero => exact absurd HA.out (by simp [impl_IsShow.l0])
     | succ k2 =>
      have H := HA.out; clear HA; simp only [impl_IsShow.l0] at H
      by_cases c21 : x24_2 < (l0_2.length : Int)
      ·rw [if_pos c21] at H
       have c21b0 := decide_eq_true c21; clear c21
       by_cases c22 : 0 ≤ x24_2
       ·rw [if_pos c22] at H
        have c22b0 := decide_eq_true c22; clear c22
        by_cases c23 : x24_2 < (l0_2.length : Int)
        ·rw [if_pos c23] at H
         have c23b0 := decide_eq_true c23; clear c23; replace H := Option.bind_eq_some_iff.mp H; obtain ⟨t577, A240, H⟩ := H; have A24 := am_ A240; clear A240
         by_cases c25 : t577 = true
         ·subst c25
          have H1 : ((impl_firedAt.f k2 l0_0 l0_1 l0_2 ((rd_T39 l0_2 x24_2).f0) ((rd_T39 l0_2 x24_2).f1) ((rd_T39 l0_2 x24_2).f2) ((rd_T39 l0_2 x24_2).f3)).bind fun t578 => (if t578 < 0 then (some false) else (impl_IsShow.l0 k2 l0_2 (l0_2.length : Int) (wrap64 (x24_2 + 1)) l0_0 l0_1 l0_2))) = some r := by rw [if_pos rfl] at H; exact H
          clear H; have H := H1; clear H1; replace H := Option.bind_eq_some_iff.mp H; obtain ⟨t578, A260, H⟩ := H; have A26 := am_ A260; clear A260; have HS_ := am_ H; clear H; have p575 : 0 ≤ (x24_2 : Int) := of_decide_eq_true Ze; have q575 : x24_2 < (l0_2.length : Int) := of_decide_eq_true Ze; obtain ⟨ad575, e575, hx575_0, hx575_1, hx575_2, hx575_3⟩ := at_T39 HR0_2.out x24_2 p575 q575
          cases e575
          replace hx575_0 := cbH HB hx575_0; replace hx575_1 := cbH HB hx575_1; replace hx575_2 := cbH HB hx575_2; replace hx575_3 := cbH HB hx575_3; replace p575 := eq_true p575; replace q575 := eq_true q575
          go_wp2_with (first | ((with_reducible refine gate_dst (N := 4) rfl ?_); (try (refine gate_guard (by rfl) ?_; dsimp only)); refine boxZ 4 #[.int .i64 0, .int .i64 0, .string (⟨#[]⟩ : ByteArray), .int .i64 0] 39 ?_; intro gb576 hg w28 hbox hb; replace BK576 := am_ (hbox); replace GW576 := am_ (((Zl GE572) : w.heap.size ≤ gb576)); replace GE576 := GW576; replace HB := (bsZ (Zj GE572) hb); replace NB572_576 := am_ ((by rw [hg]; exact Nat.ne_of_lt (blk_lt (g := gb572) (b0Z BK572)) : gb572 ≠ gb576)); replace NB576_572 := am_ ((by rw [hg]; exact Nat.ne_of_gt (blk_lt (g := gb572) (b0Z BK572)) : gb576 ≠ gb572)); replace BK572 := (bkZ BK572 hb); clear hb hbox hg; have hnb29 := NB576_572.out; have hnc29 := NB572_576.out; refine ci4 BK576 ?_; intros) | ((with_reducible refine gate_callee (f := 53) rfl ?_); refine gZ 30 Try.func53 #[.int .i64 ((rd_T39 l0_2 x24_2).f3), .int .i64 0, .int .i64 11] ?_; (with_reducible refine (impl_within.calls ((rd_T39 l0_2 x24_2).f3) 0 11 true _ A24.out).mono ?_); rintro e w' ⟨rfl, ⟨nd, rfl⟩⟩; refine ⟨_, rfl, ?_⟩; refine ci3 BK572 ?_; intros) | (go_at_call 70; (with_reducible refine (impl_firedAt.calls k2 _ _ l0_0 _ _ l0_1 _ _ l0_2 ((rd_T39 l0_2 x24_2).f0) ((rd_T39 l0_2 x24_2).f1) ((rd_T39 l0_2 x24_2).f2) ((rd_T39 l0_2 x24_2).f3) t578 _ ?_ ?_ ?_ ?_ ?_ ?_ A26.out).mono ?_); exact Kd.C_below HR0_0.out (Zo GE572 GE576); exact HC0_0.out; exact Kd.C_below HR0_1.out (Zo GE572 GE576); exact HC0_1.out; exact Kd.C_below HR0_2.out (Zo GE572 GE576); exact HC0_2.out; rintro e w32 ⟨rfl, hb⟩; replace BK572 := am_ (blk_below (g := gb572) (bfZ BK572 NB572_576) hb); replace BK576 := am_ (blk_below (g := gb576) (o := .cells #[.int .i64 ((rd_T39 l0_2 x24_2).f0), .int .i64 ((rd_T39 l0_2 x24_2).f1), .string ((rd_T39 l0_2 x24_2).f2), .int .i64 ((rd_T39 l0_2 x24_2).f3)] 39 (0, 0)) (bpZ BK576) hb); replace HB := (bsZ (Zo GE572 GE576) hb); clear hb; refine ?roundEnd))
          case roundEnd =>
           by_cases c27 : t578 < 0
           ·have H := HS_.out
            clear HS_; rw [if_pos c27] at H; have c27b0 := decide_eq_true c27; clear c27; obtain rfl := Option.some.inj H
            go_wp2_with (first | fail)
            go_ret
            exact ⟨Zi, (Zo GE572 GE576)⟩
           ·have H := HS_.out
            clear HS_; rw [if_neg c27] at H; have c27b0 := decide_eq_false c27; clear c27; have H' := am_ H; clear H
            go_wp2_with (first | fail)
            go_roundg k2
            case measure => have := HJ1.out; have := HK2.out; omega
            case rel => exact ⟨(wrap64 (x24_2 + 1)), Zc, H', ⟨by have := HJ1.out; have := HK2.out; omega⟩, ⟨(Zq BK572)⟩, ⟨(Zo GE572 GE576)⟩⟩
         ·replace c25 := Bool.eq_false_iff.mpr c25
          subst c25
          have H1 : (some false) = some r := by rw [if_neg (show ¬ (false = true) by decide)] at H; exact H
          clear H; have H := H1; clear H1; obtain rfl := Option.some.inj H; have p575 : 0 ≤ (x24_2 : Int) := of_decide_eq_true Ze; have q575 : x24_2 < (l0_2.length : Int) := of_decide_eq_true Ze; obtain ⟨ad575, e575, hx575_0, hx575_1, hx575_2, hx575_3⟩ := at_T39 HR0_2.out x24_2 p575 q575
          cases e575
          replace hx575_0 := cbH HB hx575_0; replace hx575_1 := cbH HB hx575_1; replace hx575_2 := cbH HB hx575_2; replace hx575_3 := cbH HB hx575_3; replace p575 := eq_true p575; replace q575 := eq_true q575
          go_wp2_with (first | ((with_reducible refine gate_dst (N := 4) rfl ?_); (try (refine gate_guard (by rfl) ?_; dsimp only)); refine boxZ 4 #[.int .i64 0, .int .i64 0, .string (⟨#[]⟩ : ByteArray), .int .i64 0] 39 ?_; intro gb576 hg w38 hbox hb; replace BK576 := am_ (hbox); replace GW576 := am_ (((Zl GE572) : w.heap.size ≤ gb576)); replace GE576 := GW576; replace HB := (bsZ (Zj GE572) hb); replace NB572_576 := am_ ((by rw [hg]; exact Nat.ne_of_lt (blk_lt (g := gb572) (b0Z BK572)) : gb572 ≠ gb576)); replace NB576_572 := am_ ((by rw [hg]; exact Nat.ne_of_gt (blk_lt (g := gb572) (b0Z BK572)) : gb576 ≠ gb572)); replace BK572 := (bkZ BK572 hb); clear hb hbox hg; have hnb39 := NB576_572.out; have hnc39 := NB572_576.out; refine ci4 BK576 ?_; intros) | ((with_reducible refine gate_callee (f := 53) rfl ?_); refine gZ 30 Try.func53 #[.int .i64 ((rd_T39 l0_2 x24_2).f3), .int .i64 0, .int .i64 11] ?_; (with_reducible refine (impl_within.calls ((rd_T39 l0_2 x24_2).f3) 0 11 false _ A24.out).mono ?_); rintro e w' ⟨rfl, ⟨nd, rfl⟩⟩; refine ⟨_, rfl, ?_⟩))
          go_ret
          exact ⟨Zi, (Zo GE572 GE576)⟩
        ·rw [if_neg c23] at H
         exact absurd H (by simp)
       ·rw [if_neg c22] at H
        exact absurd H (by simp)
      ·rw [if_neg c21] at H
       have c21b0 := decide_eq_false c21; clear c21; obtain rfl := Option.some.inj H
       go_wp2
       go_ret
       exact ⟨Zi, (Zj GE572)⟩
def laws_likeInts.l0 : Nat → List Int → List Int → Int → Option (Bool)
 | 0, _, _, _ => none
 | k + 1, x0, x1, x5 => if x5 < (x0.length : Int) then (if 0 ≤ x5 then (if x5 < (x1.length : Int) then (if (rd x0 x5) = (rd x1 x5) then (laws_likeInts.l0 k x0 x1 (wrap64 (x5 + 1))) else (some false)) else (none)) else (none)) else (some true)
def laws_likeInts.f (k : Nat) (l0 : List Int) (l1 : List Int) : Option (Bool) := if (l0.length : Int) = (l1.length : Int) then (laws_likeInts.l0 k l0 l1 0) else (some false)
set_option maxHeartbeats 8000000 in
set_option maxRecDepth 100000 in
theorem laws_likeInts.calls (k : Nat) (A0 : Option Addr) (c0 : Nat) (l0 : List Int) (A1 : Option Addr) (c1 : Nat) (l1 : List Int) (r : Bool) (w : World) (hr0 : Kd.C (Kd.int .i64) w A0 l0.length l0) (hc0 : l0.length ≤ c0) (hr1 : Kd.C (Kd.int .i64) w A1 l1.length l1) (hc1 : l1.length ≤ c1) (h : laws_likeInts.f k l0 l1 = some r) :
  Calls Try.prog 14 #[.slice A0 l0.length c0, .slice A1 l1.length c1] w fun e w' => e = .returned (.bool r) ∧ Drawn0 w w' := by
 have HR0 := am_ hr0; have HC0 := am_ hc0; clear hr0 hc0; have HR1 := am_ hr1; have HC1 := am_ hc1; clear hr1 hc1; have H : (if (l0.length : Int) = (l1.length : Int) then (laws_likeInts.l0 k l0 l1 0) else (some false)) = some r := h; clear h
 by_cases c3 : (l0.length : Int) = (l1.length : Int)
 ·rw [if_pos c3] at H
  have c3b0 := beq_iff_eq.mpr c3; have c3b1 := bne_eq_false_iff_eq.mpr c3
  have c3b2 : (l0.length == l1.length) = true := by first | simpa using c3 | (simp at c3 ⊢; omega)
  clear c3; have H' := am_ H; clear H
  go_enter Try.func14, Try.ntmps14
  go_wp2
  repeat (go_quiet (fail); try go_wp2)
  go_loopg [5] k (fun kq v5 w' => ∃ (x5_1 : Int), v5 = .int .i64 x5_1 ∧ Aside0 (laws_likeInts.l0 kq l0 l1 x5_1 = some r) ∧ Aside0 (kq ≤ k) ∧ Drawn0 w w')
  case atStart => exact ⟨(0), Zc, H', ⟨Nat.le_refl _⟩, Zd⟩
  case round =>
   clear H'
   try clear c1
   try clear p2
   try clear c3
   try clear c3b0
   try clear c3b1
   try clear c3b2
   obtain ⟨x5_1, rfl, HA, HK1, ⟨m1, rfl⟩⟩ := hrel
   cases gk with
   | zero => exact absurd HA.out (by simp [laws_likeInts.l0])
   | succ k1 =>
    have H := HA.out; clear HA; simp only [laws_likeInts.l0] at H
    by_cases c4 : x5_1 < (l0.length : Int)
    ·rw [if_pos c4] at H
     have c4b0 := decide_eq_true c4; clear c4
     by_cases c5 : 0 ≤ x5_1
     ·rw [if_pos c5] at H
      have c5b0 := decide_eq_true c5; clear c5
      by_cases c6 : x5_1 < (l1.length : Int)
      ·rw [if_pos c6] at H
       have c6b0 := decide_eq_true c6; clear c6
       by_cases c7 : (rd l0 x5_1) = (rd l1 x5_1)
       ·rw [if_pos c7] at H
        have c7b0 := beq_iff_eq.mpr c7; have c7b1 := bne_eq_false_iff_eq.mpr c7; clear c7; have H' := am_ H; clear H; have p653 : 0 ≤ (x5_1 : Int) := of_decide_eq_true Ze; have q653 : x5_1 < (l0.length : Int) := of_decide_eq_true Ze; obtain ⟨ad653, e653, hx653_0⟩ := Kd.at_int HR0.out x5_1 p653 q653
        cases e653
        replace p653 := eq_true p653; replace q653 := eq_true q653; have p654 : 0 ≤ (x5_1 : Int) := of_decide_eq_true Ze; have q654 : x5_1 < (l1.length : Int) := of_decide_eq_true Ze; obtain ⟨ad654, e654, hx654_0⟩ := Kd.at_int HR1.out x5_1 p654 q654
        cases e654
        replace p654 := eq_true p654; replace q654 := eq_true q654
        go_wp2
        repeat (go_quiet (fail); try go_wp2)
        go_roundg k1
        case measure => have := HK1.out; omega
        case rel => exact ⟨(wrap64 (x5_1 + 1)), Zc, H', ⟨Zf⟩, Zd⟩
       ·rw [if_neg c7] at H
        have c7b0 := beq_eq_false_iff_ne.mpr c7; have c7b1 := bne_iff_ne.mpr c7; obtain rfl := Option.some.inj H; have p653 : 0 ≤ (x5_1 : Int) := of_decide_eq_true Ze; have q653 : x5_1 < (l0.length : Int) := of_decide_eq_true Ze; obtain ⟨ad653, e653, hx653_0⟩ := Kd.at_int HR0.out x5_1 p653 q653
        cases e653
        replace p653 := eq_true p653; replace q653 := eq_true q653; have p654 : 0 ≤ (x5_1 : Int) := of_decide_eq_true Ze; have q654 : x5_1 < (l1.length : Int) := of_decide_eq_true Ze; obtain ⟨ad654, e654, hx654_0⟩ := Kd.at_int HR1.out x5_1 p654 q654
        cases e654
        replace p654 := eq_true p654; replace q654 := eq_true q654
        go_wp2
        repeat (go_quiet (fail); try go_wp2)
        go_ret
        exact ⟨Zc, Zd⟩
      ·rw [if_neg c6] at H
       exact absurd H (by simp)
     ·rw [if_neg c5] at H
      exact absurd H (by simp)
    ·rw [if_neg c4] at H
     have c4b0 := decide_eq_false c4; clear c4; obtain rfl := Option.some.inj H
     go_wp2
     repeat (go_quiet (fail); try go_wp2)
     go_ret
     exact ⟨Zc, Zd⟩
 ·rw [if_neg c3] at H
  have c3b0 := beq_eq_false_iff_ne.mpr c3; have c3b1 := bne_iff_ne.mpr c3
  have c3b2 : (l0.length == l1.length) = false := by first | simpa using c3 | (simp at c3 ⊢; omega)
  obtain rfl := Option.some.inj H
  go_enter Try.func14, Try.ntmps14
  go_wp2
  repeat (go_quiet (fail); try go_wp2)
  go_ret
  exact ⟨Zc, Zd⟩
def IsS100 (w0 W : World) (g : Nat) (f0 : List Int) (f1 : Int) (f2 : Int) : Prop := ∃ A0 c0, W.heap[g]? = some (.cells #[.slice A0 f0.length c0, .int .i64 f1, .int .i64 f2] 100 (0, 0)) ∧ w0.heap.size ≤ g ∧ Kd.C (Kd.int .u8) w0 A0 f0.length f0
theorem IsS100.grown {w0 W : World} {g : Nat} {f0 : List Int} {f1 : Int} {f2 : Int} {W1 : World} {row : Option Nat} (h : IsS100 w0 W g f0 f1 f2) (hw : W.grownBy W1 row) (hne : some g ≠ row) : IsS100 w0 W1 g f0 f1 f2 := by
 obtain ⟨A0, c0, hb, hg, hr0⟩ := h; exact ⟨A0, c0, blk_grown hb hw hne, hg, hr0⟩
theorem IsS100.kept {w0 W : World} {g : Nat} {f0 : List Int} {f1 : Int} {f2 : Int} {W1 : World} {S : Nat → Prop} (h : IsS100 w0 W g f0 f1 f2) (hk : Kept W W1 S) (hne : ¬ S g) : IsS100 w0 W1 g f0 f1 f2 := by
 obtain ⟨A0, c0, hb, hg, hr0⟩ := h; exact ⟨A0, c0, blk_kept hb hk hne, hg, hr0⟩
theorem IsS100.below {w0 W : World} {g : Nat} {f0 : List Int} {f1 : Int} {f2 : Int} {W1 : World} (h : IsS100 w0 W g f0 f1 f2) (hw : Below W.heap.size W W1) : IsS100 w0 W1 g f0 f1 f2 := h.grown (grown_of_below hw none) (by simp)
theorem IsS100.alloc {w0 W : World} {g : Nat} {f0 : List Int} {f1 : Int} {f2 : Int} (h : IsS100 w0 W g f0 f1 f2) (o : Obj) : IsS100 w0 (W.alloc o) g f0 f1 f2 := h.below (below_alloc (Below.refl _ _) o)
theorem IsS100.drewN {w0 W : World} {g : Nat} {f0 : List Int} {f1 : Int} {f2 : Int} (h : IsS100 w0 W g f0 f1 f2) (m : Nat) : IsS100 w0 (W.drewN m) g f0 f1 f2 := h
theorem IsS100.drew {w0 W : World} {g : Nat} {f0 : List Int} {f1 : Int} {f2 : Int} (h : IsS100 w0 W g f0 f1 f2) : IsS100 w0 W.drew g f0 f1 f2 := h
theorem IsS100.at_ {w0 W : World} {g : Nat} {f0 : List Int} {f1 : Int} {f2 : Int} {w' : World} {m : Nat} (hq : W.drewN m = w') (h : IsS100 w0 W g f0 f1 f2) : IsS100 w0 w' g f0 f1 f2 := by subst hq; exact IsS100.drewN h m
theorem IsS100.apart {w0 W : World} {g : Nat} {f0 : List Int} {f1 : Int} {f2 : Int} {α : Type} {d : Kd α} {e : Nat} {base : Nat} {ok : Nat → Prop} {v : Value} {xs : List α} (h : IsS100 w0 W g f0 f1 f2) (ho : d.R e W base ok v xs) (ht : ∀ q, q ∈ e :: d.E → q ≠ 100) : d.R e W base (fun k => ok k ∧ k ≠ g) v xs := by
 obtain ⟨A0, c0, hb, hg, hr0⟩ := h; exact Kd.R_types ho hb ht
theorem IsS100.own_ne {w0 W : World} {g : Nat} {f0 : List Int} {f1 : Int} {f2 : Int} {α : Type} {d : Kd α} {e : Nat} {base : Nat} {ok : Nat → Prop} {v : Value} {xs : List α} (h : IsS100 w0 W g f0 f1 f2) (ho : d.R e W base ok v xs) (ht : e ≠ 100) : some g ≠ v.ownBlock := by
 obtain ⟨A0, c0, hb, hg, hr0⟩ := h; exact Kd.R_ne ho hb ht
theorem IsS100.lt {w0 W : World} {g : Nat} {f0 : List Int} {f1 : Int} {f2 : Int} (h : IsS100 w0 W g f0 f1 f2) : g < W.heap.size := by
 obtain ⟨A0, c0, hb, hg, hr0⟩ := h; exact blk_lt hb
theorem IsS100.ge {w0 W : World} {g : Nat} {f0 : List Int} {f1 : Int} {f2 : Int} (h : IsS100 w0 W g f0 f1 f2) : w0.heap.size ≤ g := by
 obtain ⟨A0, c0, hb, hg, hr0⟩ := h; exact hg
theorem IsS100.ne_blk {w0 W : World} {g : Nat} {f0 : List Int} {f1 : Int} {f2 : Int} {a : Nat} {cs : Array Value} {t : TypeId} {fr : Nat × Nat} (h : IsS100 w0 W g f0 f1 f2) (hb2 : W.heap[a]? = some (.cells cs t fr)) (ht : t ≠ 100) : g ≠ a := by
 obtain ⟨A0, c0, hb, hg, hr0⟩ := h; rintro rfl; rw [hb] at hb2; injection hb2 with hb2; injection hb2 with _ ht2; exact ht ht2.symm
theorem IsS100.far {w0 W : World} {g : Nat} {f0 : List Int} {f1 : Int} {f2 : Int} {p : Addr} (h : IsS100 w0 W g f0 f1 f2) (hne : g ≠ p.block) (u : Value) : IsS100 w0 (W.setCell p u) g f0 f1 f2 := by
 obtain ⟨A0, c0, hb, hg, hr0⟩ := h; exact ⟨A0, c0, blk_far hb hne u, hg, hr0⟩
theorem cellS100_0 {W : World} {g : Nat} {A0 : Option Addr} {c0 : Nat} {f0 : List Int} {f1 : Int} {f2 : Int} (h : W.heap[g]? = some (.cells #[.slice A0 f0.length c0, .int .i64 f1, .int .i64 f2] 100 (0, 0))) : W.cell? ⟨g, 0, none⟩ = some (.slice A0 f0.length c0) := (blk_cell h 0).trans rfl
theorem cellS100_1 {W : World} {g : Nat} {A0 : Option Addr} {c0 : Nat} {f0 : List Int} {f1 : Int} {f2 : Int} (h : W.heap[g]? = some (.cells #[.slice A0 f0.length c0, .int .i64 f1, .int .i64 f2] 100 (0, 0))) : W.cell? ⟨g, 1, none⟩ = some (.int .i64 f1) := (blk_cell h 1).trans rfl
theorem IsS100.set_1 {w0 W : World} {g : Nat} {f0 : List Int} {f1 : Int} {f2 : Int} (h : IsS100 w0 W g f0 f1 f2) (x : Int) : IsS100 w0 (W.setCell ⟨g, 1, none⟩ (.int .i64 x)) g f0 x f2 := by
 obtain ⟨A0, c0, hb, hg, hr0⟩ := h; exact ⟨A0, c0, by simpa using blk_set hb 1 (.int .i64 x), hg, hr0⟩
theorem cellS100_2 {W : World} {g : Nat} {A0 : Option Addr} {c0 : Nat} {f0 : List Int} {f1 : Int} {f2 : Int} (h : W.heap[g]? = some (.cells #[.slice A0 f0.length c0, .int .i64 f1, .int .i64 f2] 100 (0, 0))) : W.cell? ⟨g, 2, none⟩ = some (.int .i64 f2) := (blk_cell h 2).trans rfl
theorem IsS100.set_2 {w0 W : World} {g : Nat} {f0 : List Int} {f1 : Int} {f2 : Int} (h : IsS100 w0 W g f0 f1 f2) (x : Int) : IsS100 w0 (W.setCell ⟨g, 2, none⟩ (.int .i64 x)) g f0 f1 x := by
 obtain ⟨A0, c0, hb, hg, hr0⟩ := h; exact ⟨A0, c0, by simpa using blk_set hb 2 (.int .i64 x), hg, hr0⟩
def spec_l01From.l0 : Nat → List Int → Int → List Int → Int → Int → Option (List Int × Int × Int)
 | 0, _, _, _, _, _ => none
 | k + 1, x0, x4, x102000, x102001, x102002 => if x4 < (x0.length : Int) then (if x4 < 64 then (if 0 ≤ x4 then (spec_l01From.l0 k x0 (wrap64 (x4 + 1)) x102000 x102001 (Int.tmod (wrap64 ((wrap64 (x102002 * 83)) + (wrap64 (rd x0 x4)))) 2147483647)) else (none)) else (some (x102000, x102001, x102002))) else (some (x102000, x102001, x102002))
def spec_l01From.f (k : Nat) (l0 : List Int) : Option (List Int × Int × Int) := spec_l01From.l0 k l0 0 l0 0 61043
def spec_l01From.T5 : Bool × List (List Nat × List Nat) := (true, [([], []), ([], []), ([1], [1]), ([2], [2]), ([3], [3]), ([4], [4]), ([], []), ([], []), ([6, 7], [6, 7]), ([8], [8]), ([9], [9]), ([5, 10], [5, 10]), ([11], [11]), ([0, 0, 1, 2, 3, 4, 5, 6, 7, 8, 9, 10, 11, 12], [0]), ([13, 0, 1, 2, 3, 4, 5, 6, 7, 8, 9, 10, 11, 12], [13]), ([14, 12, 0, 1, 2, 3, 4, 5, 6, 7, 8, 9, 10, 11, 12], [12, 14])])
def spec_l01From.B5 : List Nat := [0, 0, 2, 6, 14, 30, 0, 0, 192, 448, 960, 2046, 4094, 8191, 16383, 32767]
theorem spec_l01From.tab5 : rtab .any (opsOf Try.f49 5) = spec_l01From.T5 := by kernel_rfl
theorem spec_l01From.bits5 : waitsOk spec_l01From.T5.2 spec_l01From.B5 = true := by kernel_rfl
set_option maxHeartbeats 8000000 in
set_option maxRecDepth 100000 in
theorem spec_l01From.calls (k : Nat) (A0 : Option Addr) (c0 : Nat) (l0 : List Int) (r1 : List Int) (r2 : Int) (r3 : Int) (w0 w : World) (hB : Below w0.heap.size w0 w) (hr0 : Kd.C (Kd.int .u8) w0 A0 l0.length l0) (hc0 : l0.length ≤ c0) (h : spec_l01From.f k l0 = some (r1, r2, r3)) :
  Calls Try.prog 49 #[.slice A0 l0.length c0] w fun e w' => ∃ g_ : Nat, e = .returned (.pointer (some ⟨g_, 0, none⟩)) ∧ IsS100 w0 w' g_ r1 r2 r3 ∧ Below w0.heap.size w0 w' ∧ Below w.heap.size w w' := by
 have hu100 := Try.underlying100; have HR0 := am_ hr0; have HC0 := am_ hc0; clear hr0 hc0; have HBW := am_ (Below.refl w.heap.size w); have HW0 := am_ hB.size; have HB := am_ hB; clear hB; have H : (spec_l01From.l0 k l0 0 l0 0 61043) = some (r1, r2, r3) := h; clear h; have H' := am_ H; clear H
 go_enter Try.func49, Try.ntmps49
 go_wp2_with (first | ((with_reducible refine gate_dst (N := 7) rfl ?_); refine boxZ 7 #[.slice A0 l0.length c0, .int .i64 0, .int .i64 61043] 100 ?_; intro gb101 hg w2 hbox hb; replace HB := (bsZ Zh hb); replace BK101 := am_ (hbox); replace GW101 := am_ ((by rw [hg]; exact (below_size (by repeat (first | (with_reducible first | exact HBW.out | apply below_alloc | apply pw_below_drewN | apply below_drew1) | exact HBW.out))) : w.heap.size ≤ gb101)); replace GE101 := am_ ((Nat.le_trans HW0.out (by rw [hg]; exact (below_size (by repeat (first | (with_reducible first | exact HBW.out | apply below_alloc | apply pw_below_drewN | apply below_drew1) | exact HBW.out))) : w.heap.size ≤ gb101) : w0.heap.size ≤ gb101)); replace HBW := (bsZ HBW.out hb); clear hb hbox hg))
 go_loopg [4] k (fun kq v4 w' => ∃ (x4_1 : Int) (x102002_1 : Int), v4 = .int .i64 x4_1 ∧ Aside0 (spec_l01From.l0 kq l0 x4_1 l0 0 x102002_1 = some (r1, r2, r3)) ∧ Aside0 (kq ≤ k) ∧ Aside0 (w'.heap[gb101]? = some (.cells #[(.slice A0 l0.length c0), .int .i64 0, .int .i64 x102002_1] 100 (0, 0))) ∧ Aside0 (Below w0.heap.size w0 w') ∧ Aside0 (Below w.heap.size w w'))
 case atStart => exact ⟨(0), (61043), Zc, H', ⟨Nat.le_refl _⟩, ⟨(Zq BK101)⟩, ⟨(Zj GE101)⟩, ⟨(Zaq GW101)⟩⟩
 case round =>
  clear H'
  try clear p2
  obtain ⟨x4_1, x102002_1, rfl, HA, HK1, BK101, HB, HBW⟩ := hrel
  cases gk with
  | zero => exact absurd HA.out (by simp [spec_l01From.l0])
  | succ k1 =>
   have H := HA.out; clear HA; simp only [spec_l01From.l0] at H
   by_cases c3 : x4_1 < (l0.length : Int)
   ·rw [if_pos c3] at H
    have c3b0 := decide_eq_true c3; clear c3
    by_cases c4 : x4_1 < 64
    ·rw [if_pos c4] at H
     have c4b0 := decide_eq_true c4; clear c4
     by_cases c5 : 0 ≤ x4_1
     ·rw [if_pos c5] at H
      have c5b0 := decide_eq_true c5; clear c5; have H' := am_ H; clear H
      try go_wp2
      replace BK101 := am_ (blk_drew BK101.out); replace HB := am_ (below_drew1 HB.out); replace HBW := am_ (below_drew1 HBW.out); have p102 : 0 ≤ (x4_1 : Int) := of_decide_eq_true Ze; have q102 : x4_1 < (l0.length : Int) := of_decide_eq_true Ze; obtain ⟨ad102, e102, hx102_0⟩ := Kd.at_int HR0.out x4_1 p102 q102; have hw102_0 := hx102_0
      cases e102
      replace hx102_0 := pw_cell_below HB.out hx102_0; replace p102 := eq_true p102; replace q102 := eq_true q102; refine start_ (n := 16) (S := fun w' => w'.cell? ⟨gb101, 0, none⟩ = some (.slice (some ad102) l0.length c0) ∧ w'.cell? ⟨gb101, 1, none⟩ = some (.int .i64 0) ∧ w'.cell? ⟨gb101, 2, none⟩ = some (.int .i64 x102002_1) ∧ w'.cell? (ad102.add (x4_1).toNat) = some (.int .u8 (rd l0 x4_1))) (ds := [15]) (bT 16 0) Za rfl rfl ⟨(blk_cell BK101.out 0).trans rfl, (blk_cell BK101.out 1).trans rfl, (blk_cell BK101.out 2).trans rfl, ((HB.out.cell (World.block_lt_of_cell? w0 _ hw102_0)).trans hw102_0)⟩ (fun hHeld => ?_); refine with_tabW spec_l01From.tab5 spec_l01From.bits5 (fun HT_ HW_ => ?_); generalize wr.drew = w6 at BK101 HB HBW hx102_0 hHeld ⊢; refine pureZ HT_ 0 (some 18) (bT 16 1) ?_; refine pureZ HT_ 1 (some 19) (bT 16 2) ?_; refine pureZ HT_ 2 (some 20) (bT 16 3) ?_; refine pureZ HT_ 3 (some 21) (bT 16 4) ?_; refine pureZ HT_ 6 (some 24) (bB 16 79) ?_; refine pureZ HT_ 7 (some 25) (bB 16 207) ?_; refine pureZ HT_ 8 (some 26) (bB 16 463) ?_; refine takeZ4 HT_ HW_ 4 (some 22) (bB 16 479) hHeld ?_; refine pureZ HT_ 5 (some 23) (bT 16 9) ?_; refine takeZ4 HT_ HW_ 9 (some 27) (bT 16 10) hHeld ?_; refine pureZ HT_ 10 (some 28) (bT 16 11) ?_; refine pureZ HT_ 11 (some 29) (bT 16 12) ?_; refine pureZ HT_ 12 (some 30) (bT 16 13) ?_; refine pureZ HT_ 13 (some 31) (bT 16 14) ?_; refine pureZ HT_ 14 (some 32) (bT 16 15) ?_; refine last_ (i := 15) (N := none) (bT 16 16) rfl rfl (one_of HT_.out Za) (by decide) (fun K hK => ?_); have hs7 : w6.cell? ⟨gb101, 2, none⟩ = some (.int .i64 x102002_1) := (blk_cell BK101.out 2).trans rfl; have hfs7 := blk_frozen BK101.out 2; refine skip_ (w1 := ?_) (by rfl) rfl ?_ ?_; rotate_left
      ·go_simp
       rfl
      refine hK.out _ _ ?_; clear hK K; refine done_ (done_of HT_.out Za) ?_
      try go_wp2
      go_roundg k1
      case measure => have := HK1.out; omega
      case rel => exact ⟨(wrap64 (x4_1 + 1)), (Int.tmod (wrap64 ((wrap64 (x102002_1 * 83)) + (wrap64 (rd l0 x4_1)))) 2147483647), Zc, H', ⟨Zf⟩, ⟨by (with_reducible repeat (first | refine blk_drewN ?_ _ | refine blk_drew ?_ | refine blk_alloc ?_ _)); refine blk_put (cs := #[.slice (some ad102) l0.length c0, .int .i64 0, .int .i64 x102002_1]) ?_ 2 _ rfl; (with_reducible repeat (first | refine blk_drewN ?_ _ | refine blk_drew ?_ | refine blk_alloc ?_ _)); exact BK101.out⟩, ⟨(Zj GE101)⟩, ⟨(Zaq GW101)⟩⟩
     ·rw [if_neg c5] at H
      exact absurd H (by simp)
    ·rw [if_neg c4] at H
     have c4b0 := decide_eq_false c4; clear c4; simp only [Option.some.injEq, Prod.mk.injEq] at H; obtain ⟨rfl, rfl, rfl⟩ := H
     go_wp2
     go_ret
     exact ⟨_, rfl, (show IsS100 w0 _ gb101 l0 0 x102002_1 from ⟨_, _, (Zq BK101), GE101.out, HR0.out⟩), (Zj GE101), (Zaq GW101)⟩
   ·rw [if_neg c3] at H
    have c3b0 := decide_eq_false c3; clear c3; simp only [Option.some.injEq, Prod.mk.injEq] at H; obtain ⟨rfl, rfl, rfl⟩ := H
    go_wp2
    go_ret
    exact ⟨_, rfl, (show IsS100 w0 _ gb101 l0 0 x102002_1 from ⟨_, _, (Zq BK101), GE101.out, HR0.out⟩), (Zj GE101), (Zaq GW101)⟩
def spec_l01Next.f (s0_0 : List Int) (s0_1 : Int) (s0_2 : Int) (a1 : Int) : Option (Int × Int × Int) := if a1 ≤ 1 then (some (0, s0_1, s0_2)) else (if s0_1 < (s0_0.length : Int) then (if 0 ≤ s0_1 then (if a1 ≤ 256 then (if (Int.tmod (wrap64 (s0_1 + 1)) 2) = 0 then (if 0 ≤ (wrap64 ((wrap64 (s0_1 + 1)) - 1)) then (if (wrap64 ((wrap64 (s0_1 + 1)) - 1)) < (s0_0.length : Int) then (if a1 = 0 then (none) else (some (Int.tmod (wrap64 (rd s0_0 (wrap64 ((wrap64 (s0_1 + 1)) - 1)))) a1, wrap64 (s0_1 + 1), Int.tmod (wrap64 ((wrap64 (s0_2 * 48271)) + 29)) 2147483647))) else (none)) else (none)) else (if a1 = 0 then (none) else (some (Int.tmod (wrap64 ((wrap64 (Int.tdiv (Int.tmod (wrap64 ((wrap64 (s0_2 * 48271)) + 29)) 2147483647) 31)) + (wrap64 (rd s0_0 s0_1)))) a1, wrap64 (s0_1 + 1), Int.tmod (wrap64 ((wrap64 (s0_2 * 48271)) + 29)) 2147483647)))) else (if a1 = 0 then (none) else (some (Int.tmod (wrap64 ((wrap64 (Int.tdiv (Int.tmod (wrap64 ((wrap64 (s0_2 * 48271)) + 29)) 2147483647) 31)) + (wrap64 (rd s0_0 s0_1)))) a1, wrap64 (s0_1 + 1), Int.tmod (wrap64 ((wrap64 (s0_2 * 48271)) + 29)) 2147483647)))) else (none)) else (if a1 = 0 then (none) else (some (Int.tmod (wrap64 (Int.tdiv (Int.tmod (wrap64 ((wrap64 (s0_2 * 48271)) + 29)) 2147483647) 31)) a1, s0_1, Int.tmod (wrap64 ((wrap64 (s0_2 * 48271)) + 29)) 2147483647))))
set_option maxHeartbeats 8000000 in
set_option maxRecDepth 100000 in
theorem spec_l01Next.calls (g : Nat) (s0_0 : List Int) (s0_1 : Int) (s0_2 : Int) (a1 : Int) (r1 : Int) (r2 : Int) (r3 : Int) (w0 w : World) (hI : IsS100 w0 w g s0_0 s0_1 s0_2) (hB : Below w0.heap.size w0 w) (h : spec_l01Next.f s0_0 s0_1 s0_2 a1 = some (r1, r2, r3)) :
  Calls Try.prog 52 #[.pointer (some ⟨g, 0, none⟩), .int .i64 a1] w fun e w' => e = .returned (.int .i64 r1) ∧ IsS100 w0 w' g s0_0 r2 r3 ∧ Below w0.heap.size w0 w' ∧ KeepBut w w' g none := by
 have HI0 := am_ hI; have HK := am_ (KeepBut.refl w g none); have HL := am_ hB.size; clear hI; have HW0 := am_ hB.size; have HB := am_ hB; clear hB; have H : (if a1 ≤ 1 then (some (0, s0_1, s0_2)) else (if s0_1 < (s0_0.length : Int) then (if 0 ≤ s0_1 then (if a1 ≤ 256 then (if (Int.tmod (wrap64 (s0_1 + 1)) 2) = 0 then (if 0 ≤ (wrap64 ((wrap64 (s0_1 + 1)) - 1)) then (if (wrap64 ((wrap64 (s0_1 + 1)) - 1)) < (s0_0.length : Int) then (if a1 = 0 then (none) else (some (Int.tmod (wrap64 (rd s0_0 (wrap64 ((wrap64 (s0_1 + 1)) - 1)))) a1, wrap64 (s0_1 + 1), Int.tmod (wrap64 ((wrap64 (s0_2 * 48271)) + 29)) 2147483647))) else (none)) else (none)) else (if a1 = 0 then (none) else (some (Int.tmod (wrap64 ((wrap64 (Int.tdiv (Int.tmod (wrap64 ((wrap64 (s0_2 * 48271)) + 29)) 2147483647) 31)) + (wrap64 (rd s0_0 s0_1)))) a1, wrap64 (s0_1 + 1), Int.tmod (wrap64 ((wrap64 (s0_2 * 48271)) + 29)) 2147483647)))) else (if a1 = 0 then (none) else (some (Int.tmod (wrap64 ((wrap64 (Int.tdiv (Int.tmod (wrap64 ((wrap64 (s0_2 * 48271)) + 29)) 2147483647) 31)) + (wrap64 (rd s0_0 s0_1)))) a1, wrap64 (s0_1 + 1), Int.tmod (wrap64 ((wrap64 (s0_2 * 48271)) + 29)) 2147483647)))) else (none)) else (if a1 = 0 then (none) else (some (Int.tmod (wrap64 (Int.tdiv (Int.tmod (wrap64 ((wrap64 (s0_2 * 48271)) + 29)) 2147483647) 31)) a1, s0_1, Int.tmod (wrap64 ((wrap64 (s0_2 * 48271)) + 29)) 2147483647))))) = some (r1, r2, r3) := h; clear h
 by_cases c3 : a1 ≤ 1
 ·rw [if_pos c3] at H
  have c3b0 := decide_eq_true c3; clear c3; simp only [Option.some.injEq, Prod.mk.injEq] at H; obtain ⟨rfl, rfl, rfl⟩ := H
  go_enter Try.func52, Try.ntmps52
  go_wp2
  repeat (go_quiet (fail); try go_wp2)
  go_ret
  exact ⟨Zi, Zar, Zas, Zat⟩
 ·rw [if_neg c3] at H
  have c3b0 := decide_eq_false c3; clear c3
  by_cases c4 : s0_1 < (s0_0.length : Int)
  ·rw [if_pos c4] at H
   have c4b0 := decide_eq_true c4; clear c4
   by_cases c5 : 0 ≤ s0_1
   ·rw [if_pos c5] at H
    have c5b0 := decide_eq_true c5; clear c5
    by_cases c6 : a1 ≤ 256
    ·rw [if_pos c6] at H
     have c6b0 := decide_eq_true c6; clear c6
     by_cases c7 : (Int.tmod (wrap64 (s0_1 + 1)) 2) = 0
     ·rw [if_pos c7] at H
      have c7b0 := beq_iff_eq.mpr c7; have c7b1 := bne_eq_false_iff_eq.mpr c7; clear c7; obtain ⟨ji8, hji8⟩ : ∃ j_ : Int, (wrap64 ((wrap64 (s0_1 + 1)) - 1)) = j_ := ⟨_, rfl⟩
      replace H : (if 0 ≤ (ji8) then (if (ji8) < (s0_0.length : Int) then (if a1 = 0 then (none) else (some (Int.tmod (wrap64 (rd s0_0 (ji8))) a1, wrap64 (s0_1 + 1), Int.tmod (wrap64 ((wrap64 (s0_2 * 48271)) + 29)) 2147483647))) else (none)) else (none)) = some (r1, r2, r3) := by first | (rw [hji8] at H; exact H) | (simp only [hji8] at H ⊢; exact H)
      have hji8w : (IntKind.i64.wrap ((wrap64 (s0_1 + 1)) - 1)) = ji8 := (i64_w _).trans hji8
      by_cases c9 : 0 ≤ (ji8)
      ·rw [if_pos c9] at H
       have c9b0 := decide_eq_true c9; clear c9
       by_cases c10 : (ji8) < (s0_0.length : Int)
       ·rw [if_pos c10] at H
        have c10b0 := decide_eq_true c10; clear c10
        by_cases c11 : a1 = 0
        ·rw [if_pos c11] at H
         exact absurd H (by simp)
        ·rw [if_neg c11] at H
         have c11b0 := beq_eq_false_iff_ne.mpr c11; have c11b1 := bne_iff_ne.mpr c11; simp only [Option.some.injEq, Prod.mk.injEq] at H; obtain ⟨rfl, rfl, rfl⟩ := H; obtain ⟨ASz12_0, cSz12_0, HGz12, hgz12, HSz12_0⟩ := HI0.out; have hcz12_0 := cellS100_0 HGz12; have hcz12_1 := cellS100_1 HGz12; have hcz12_2 := cellS100_2 HGz12; have hfz12_1 := blk_frozen HGz12 1; have hfz12_2 := blk_frozen HGz12 2; clear HGz12 hgz12; have p103 : 0 ≤ (s0_1 : Int) := of_decide_eq_true Ze; have q103 : s0_1 < (s0_0.length : Int) := of_decide_eq_true Ze; obtain ⟨ad103, e103, hx103_0⟩ := Kd.at_int HSz12_0 s0_1 p103 q103
         cases e103
         have hn103_0 : ad103.block ≠ g := Nat.ne_of_lt (Nat.lt_of_lt_of_le (Zau hx103_0) (IsS100.ge HI0.out)); replace hx103_0 := pw_cell_below HB.out hx103_0; replace hx103_0 := (cell_far (p := ⟨g, 2, none⟩) Zav (.int .i64 (Int.tmod (wrap64 ((wrap64 (s0_2 * 48271)) + 29)) 2147483647))).trans hx103_0
         (try have hy103_0 := fun (n_ : Nat) => (show (((w.drewN n_).setCell ⟨g, 2, none⟩ (.int .i64 (Int.tmod (wrap64 ((wrap64 (s0_2 * 48271)) + 29)) 2147483647)))).cell? _ = some _ from hx103_0))
         clear hn103_0; replace p103 := eq_true p103; replace q103 := eq_true q103; have p104 : 0 ≤ ((ji8) : Int) := of_decide_eq_true Ze; have q104 : (ji8) < (s0_0.length : Int) := of_decide_eq_true Ze; obtain ⟨ad104, e104, hx104_0⟩ := Kd.at_int HSz12_0 (ji8) p104 q104; obtain rfl : ad103 = ad104 := (by injection e104); have hn104_0 : ad103.block ≠ g := Nat.ne_of_lt (Nat.lt_of_lt_of_le (Zau hx104_0) (IsS100.ge HI0.out)); have hn104_1 : ad103.block ≠ g := Nat.ne_of_lt (Nat.lt_of_lt_of_le (Zau hx104_0) (IsS100.ge HI0.out)); replace hx104_0 := pw_cell_below HB.out hx104_0; replace hx104_0 := (cell_far (p := ⟨g, 2, none⟩) (by first | (rw [add_block]; exact hn104_0) | (show (Addr.add _ _).block ≠ _; rw [add_block]; exact hn104_0) | exact hn104_0) (.int .i64 (Int.tmod (wrap64 ((wrap64 (s0_2 * 48271)) + 29)) 2147483647))).trans hx104_0; replace hx104_0 := (cell_far (p := ⟨g, 1, none⟩) (by first | (rw [add_block]; exact hn104_1) | (show (Addr.add _ _).block ≠ _; rw [add_block]; exact hn104_1) | exact hn104_1) (.int .i64 (wrap64 (s0_1 + 1)))).trans hx104_0
         (try have hy104_0 := fun (n_ : Nat) => (show ((((w.drewN n_).setCell ⟨g, 2, none⟩ (.int .i64 (Int.tmod (wrap64 ((wrap64 (s0_2 * 48271)) + 29)) 2147483647))).setCell ⟨g, 1, none⟩ (.int .i64 (wrap64 (s0_1 + 1))))).cell? _ = some _ from hx104_0))
         (try have hz104_0 := fun (n_ : Nat) => (show (((w.setCell ⟨g, 2, none⟩ (.int .i64 (Int.tmod (wrap64 ((wrap64 (s0_2 * 48271)) + 29)) 2147483647))).drewN n_).setCell ⟨g, 1, none⟩ (.int .i64 (wrap64 (s0_1 + 1)))).cell? _ = some _ from hx104_0))
         clear hn104_0; clear hn104_1; replace p104 := eq_true p104; replace q104 := eq_true q104
         go_enter Try.func52, Try.ntmps52
         go_wp2
         repeat (go_quiet (fail); try go_wp2)
         go_ret
         exact ⟨by first | rfl | (simp [errW_none, errW_some] <;> rfl) | (simp only [← hji8]; first | rfl | (simp [errW_none, errW_some] <;> rfl)) | (simp [*, errW_none, errW_some] <;> rfl), Zar, Zas, Zat⟩
       ·rw [if_neg c10] at H
        exact absurd H (by simp)
      ·rw [if_neg c9] at H
       exact absurd H (by simp)
     ·rw [if_neg c7] at H
      have c7b0 := beq_eq_false_iff_ne.mpr c7; have c7b1 := bne_iff_ne.mpr c7
      by_cases c13 : a1 = 0
      ·rw [if_pos c13] at H
       exact absurd H (by simp)
      ·rw [if_neg c13] at H
       have c13b0 := beq_eq_false_iff_ne.mpr c13; have c13b1 := bne_iff_ne.mpr c13; simp only [Option.some.injEq, Prod.mk.injEq] at H; obtain ⟨rfl, rfl, rfl⟩ := H; obtain ⟨ASz14_0, cSz14_0, HGz14, hgz14, HSz14_0⟩ := HI0.out; have hcz14_0 := cellS100_0 HGz14; have hcz14_1 := cellS100_1 HGz14; have hcz14_2 := cellS100_2 HGz14; have hfz14_1 := blk_frozen HGz14 1; have hfz14_2 := blk_frozen HGz14 2; clear HGz14 hgz14; have p103 : 0 ≤ (s0_1 : Int) := of_decide_eq_true Ze; have q103 : s0_1 < (s0_0.length : Int) := of_decide_eq_true Ze; obtain ⟨ad103, e103, hx103_0⟩ := Kd.at_int HSz14_0 s0_1 p103 q103
       cases e103
       have hn103_0 : ad103.block ≠ g := Nat.ne_of_lt (Nat.lt_of_lt_of_le (Zau hx103_0) (IsS100.ge HI0.out)); replace hx103_0 := pw_cell_below HB.out hx103_0; replace hx103_0 := (cell_far (p := ⟨g, 2, none⟩) Zav (.int .i64 (Int.tmod (wrap64 ((wrap64 (s0_2 * 48271)) + 29)) 2147483647))).trans hx103_0
       (try have hy103_0 := fun (n_ : Nat) => (show (((w.drewN n_).setCell ⟨g, 2, none⟩ (.int .i64 (Int.tmod (wrap64 ((wrap64 (s0_2 * 48271)) + 29)) 2147483647)))).cell? _ = some _ from hx103_0))
       clear hn103_0; replace p103 := eq_true p103; replace q103 := eq_true q103
       go_enter Try.func52, Try.ntmps52
       go_wp2
       repeat (go_quiet (fail); try go_wp2)
       go_ret
       exact ⟨Zi, Zar, Zas, Zat⟩
    ·rw [if_neg c6] at H
     have c6b0 := decide_eq_false c6; clear c6
     by_cases c15 : a1 = 0
     ·rw [if_pos c15] at H
      exact absurd H (by simp)
     ·rw [if_neg c15] at H
      have c15b0 := beq_eq_false_iff_ne.mpr c15; have c15b1 := bne_iff_ne.mpr c15; simp only [Option.some.injEq, Prod.mk.injEq] at H; obtain ⟨rfl, rfl, rfl⟩ := H; obtain ⟨ASz16_0, cSz16_0, HGz16, hgz16, HSz16_0⟩ := HI0.out; have hcz16_0 := cellS100_0 HGz16; have hcz16_1 := cellS100_1 HGz16; have hcz16_2 := cellS100_2 HGz16; have hfz16_1 := blk_frozen HGz16 1; have hfz16_2 := blk_frozen HGz16 2; clear HGz16 hgz16; have p103 : 0 ≤ (s0_1 : Int) := of_decide_eq_true Ze; have q103 : s0_1 < (s0_0.length : Int) := of_decide_eq_true Ze; obtain ⟨ad103, e103, hx103_0⟩ := Kd.at_int HSz16_0 s0_1 p103 q103
      cases e103
      have hn103_0 : ad103.block ≠ g := Nat.ne_of_lt (Nat.lt_of_lt_of_le (Zau hx103_0) (IsS100.ge HI0.out)); replace hx103_0 := pw_cell_below HB.out hx103_0; replace hx103_0 := (cell_far (p := ⟨g, 2, none⟩) Zav (.int .i64 (Int.tmod (wrap64 ((wrap64 (s0_2 * 48271)) + 29)) 2147483647))).trans hx103_0
      (try have hy103_0 := fun (n_ : Nat) => (show (((w.drewN n_).setCell ⟨g, 2, none⟩ (.int .i64 (Int.tmod (wrap64 ((wrap64 (s0_2 * 48271)) + 29)) 2147483647)))).cell? _ = some _ from hx103_0))
      clear hn103_0; replace p103 := eq_true p103; replace q103 := eq_true q103
      go_enter Try.func52, Try.ntmps52
      go_wp2
      repeat (go_quiet (fail); try go_wp2)
      go_ret
      exact ⟨Zi, Zar, Zas, Zat⟩
   ·rw [if_neg c5] at H
    exact absurd H (by simp)
  ·rw [if_neg c4] at H
   have c4b0 := decide_eq_false c4; clear c4
   by_cases c17 : a1 = 0
   ·rw [if_pos c17] at H
    exact absurd H (by simp)
   ·rw [if_neg c17] at H
    have c17b0 := beq_eq_false_iff_ne.mpr c17; have c17b1 := bne_iff_ne.mpr c17; simp only [Option.some.injEq, Prod.mk.injEq] at H; obtain ⟨rfl, rfl, rfl⟩ := H; obtain ⟨ASz18_0, cSz18_0, HGz18, hgz18, HSz18_0⟩ := HI0.out; have hcz18_0 := cellS100_0 HGz18; have hcz18_1 := cellS100_1 HGz18; have hcz18_2 := cellS100_2 HGz18; have hfz18_1 := blk_frozen HGz18 1; have hfz18_2 := blk_frozen HGz18 2; clear HGz18 hgz18
    go_enter Try.func52, Try.ntmps52
    go_wp2
    repeat (go_quiet (fail); try go_wp2)
    go_ret
    exact ⟨Zi, Zar, Zas, Zat⟩
def spec_l07Good.l0 : Nat → List (S104) → Int → List Int → Int → Int → Option ((List (S104)) × Int × Int)
 | 0, _, _, _, _, _ => none
 | k + 1, x3, x4, x1000, x1001, x1002 => if x4 > 0 then ((spec_l01Next.f x1000 x1001 x1002 4).bind fun bt199 => ((spec_l01Next.f x1000 bt199.2.1 bt199.2.2 600).bind fun bt202 => (if x3.length < 8796093022208 then (spec_l07Good.l0 k (x3 ++ [(⟨wrap64 (2 + bt199.1), wrap64 (400 + bt202.1)⟩ : S104)]) (wrap64 (x4 - 1)) x1000 bt202.2.1 bt202.2.2) else (none)))) else (some (x3, x1001, x1002))
def spec_l07Good.f (k : Nat) (s0_0 : List Int) (s0_1 : Int) (s0_2 : Int) : Option ((List (S104)) × Int × Int) := (spec_l01Next.f s0_0 s0_1 s0_2 6).bind fun bt196 => (spec_l07Good.l0 k (([] : List (S104))) (wrap64 (1 + bt196.1)) s0_0 bt196.2.1 bt196.2.2)
set_option maxHeartbeats 8000000 in
set_option maxRecDepth 100000 in
theorem spec_l07Good.calls (k : Nat) (g : Nat) (s0_0 : List Int) (s0_1 : Int) (s0_2 : Int) (r1 : List (S104)) (r2 : Int) (r3 : Int) (w0 w : World) (hI : IsS100 w0 w g s0_0 s0_1 s0_2) (hB : Below w0.heap.size w0 w) (h : spec_l07Good.f k s0_0 s0_1 s0_2 = some (r1, r2, r3)) :
  Calls Try.prog 95 #[.pointer (some ⟨g, 0, none⟩)] w fun e w' => ∃ v0_ : Value, e = .returned (v0_) ∧ Kd.R k104 104 w' w.heap.size (fun _ => True) v0_ r1 ∧ IsS100 w0 w' g s0_0 r2 r3 ∧ Below w0.heap.size w0 w' ∧ KeepBut w w' g none := by
 have hu104 := Try.underlying104; have HI0 := am_ hI; have HK := am_ (KeepBut.refl w g none); have HL := am_ hB.size; clear hI; have HW0 := am_ hB.size; have HB := am_ hB; clear hB; have H : ((spec_l01Next.f s0_0 s0_1 s0_2 6).bind fun bt196 => (spec_l07Good.l0 k (([] : List (S104))) (wrap64 (1 + bt196.1)) s0_0 bt196.2.1 bt196.2.2)) = some (r1, r2, r3) := h; clear h; obtain ⟨y193, hy193⟩ : ∃ y_ : List (S104), y_ = (([] : List (S104))) := ⟨_, rfl⟩
 replace H : ((spec_l01Next.f s0_0 s0_1 s0_2 6).bind fun bt196 => (spec_l07Good.l0 k y193 (wrap64 (1 + bt196.1)) s0_0 bt196.2.1 bt196.2.2)) = some (r1, r2, r3) := by (try rw [hy193]); first | with_reducible exact H | with_reducible exact (Option.bind_some _ _).symm.trans H | exact H
 have Ny193 := am_ hy193; clear hy193; replace H := Option.bind_eq_some_iff.mp H; obtain ⟨⟨t196, t197, t198⟩, A20, H⟩ := H; replace H : (spec_l07Good.l0 k y193 (wrap64 (1 + t196)) s0_0 t197 t198) = some (r1, r2, r3) := H; have A2 := am_ A20; clear A20; have H' := am_ H; clear H
 go_enter Try.func95, Try.ntmps95
 go_wp2_with (first | ((with_reducible refine gate_dst (N := 5) rfl ?_); refine Kd.R_lit k104 _ 104 ?hg (N := 5) ?hd (xs := ([] : List (S104))) (inner := []) (ok := fun _ => True) (okp := fun _ => True) ?hr ?hp (fun _ hk => hk) trivial (Below.refl _ _) (Nat.le_refl _) (by simp) ?_; (case hd => rfl); (case hg => rfl); (case hr => first | (go_simp; done) | (go_simp; rfl)); (case hp => exact (Reps.none _ _)); intro v194 w3 ho4 hb hg_ hnew_; clear hg_ hnew_; (first | rw [← Ny193.out] at ho4 | (simp only [Int.reduceToNat] at ho4; rw [← Ny193.out] at ho4)); replace HO195 := am_ (Kd.R_lower ho4 (keep_size (w := w) (g := g) (row := none) Zat)); replace HK := am_ (KeepBut.trans Zat (KeepBut.of_below hb g none) (.inl rfl)); replace HB := (bsZ Zas hb); replace HI0 := am_ (IsS100.below Zar hb); clear hb ho4) | ((with_reducible refine gate_callee (f := 52) rfl ?_); refine gZ 7 Try.func52 #[.pointer (some ⟨g, 0, none⟩), .int .i64 6] ?_; (with_reducible refine (spec_l01Next.calls g s0_0 s0_1 s0_2 6 t196 t197 t198 w0 _ ?_ ?_ A2.out).mono ?_); exact Zar; exact Zas; rintro e w5 ⟨rfl, hi, hb, hk⟩; refine ⟨_, rfl, ?_⟩; replace HO195 := (hoZ (IsS100.apart (show IsS100 w0 _ g s0_0 s0_1 s0_2 from Zar) (Zt HO195) (by decide)) hk); replace HK := am_ (KeepBut.trans Zat hk (.inl rfl)); replace HB := am_ (hb); replace HI0 := am_ (hi); clear hb hk hi))
 go_loopg [3, 4] k (fun kq v3 v4 w' => ∃ (x3_1 : List (S104)) (x4_1 : Int) (x1001_1 : Int) (x1002_1 : Int), v4 = .int .i64 x4_1 ∧ Aside0 (spec_l07Good.l0 kq x3_1 x4_1 s0_0 x1001_1 x1002_1 = some (r1, r2, r3)) ∧ Aside0 (kq ≤ k) ∧ Aside0 (Kd.R k104 104 w' w.heap.size (fun _ => True) v3 x3_1) ∧ Aside0 (IsS100 w0 w' g s0_0 x1001_1 x1002_1) ∧ Aside0 (KeepBut w w' g none) ∧ Aside0 (Below w0.heap.size w0 w'))
 case atStart => exact ⟨(y193), (wrap64 (1 + t196)), (t197), (t198), Zc, H', ⟨Nat.le_refl _⟩, ⟨(Zt HO195)⟩, ⟨Zar⟩, ⟨Zat⟩, ⟨Zas⟩⟩
 case round =>
  clear H'
  try clear p2
  try clear c5
  obtain ⟨x3_1, x4_1, x1001_1, x1002_1, rfl, HA, HK1, HO_3, HI0, HK, HB⟩ := hrel
  cases gk with
  | zero => exact absurd HA.out (by simp [spec_l07Good.l0])
  | succ k1 =>
   have H := HA.out; clear HA; simp only [spec_l07Good.l0] at H
   by_cases c6 : x4_1 > 0
   ·rw [if_pos c6] at H
    have c6b0 : decide (0 < x4_1) = true := decide_eq_true c6; clear c6; replace H := Option.bind_eq_some_iff.mp H; obtain ⟨⟨t199, t200, t201⟩, A70, H⟩ := H; replace H : ((spec_l01Next.f s0_0 t200 t201 600).bind fun bt202 => (if x3_1.length < 8796093022208 then (spec_l07Good.l0 k1 (x3_1 ++ [(⟨wrap64 (2 + t199), wrap64 (400 + bt202.1)⟩ : S104)]) (wrap64 (x4_1 - 1)) s0_0 bt202.2.1 bt202.2.2) else (none))) = some (r1, r2, r3) := H; have A7 := am_ A70; clear A70; replace H := Option.bind_eq_some_iff.mp H; obtain ⟨⟨t202, t203, t204⟩, A80, H⟩ := H; replace H : (if x3_1.length < 8796093022208 then (spec_l07Good.l0 k1 (x3_1 ++ [(⟨wrap64 (2 + t199), wrap64 (400 + t202)⟩ : S104)]) (wrap64 (x4_1 - 1)) s0_0 t203 t204) else (none)) = some (r1, r2, r3) := H; have A8 := am_ A80; clear A80
    by_cases c9 : x3_1.length < 8796093022208
    ·rw [if_pos c9] at H
     have LMc9 := am_ c9; clear c9; obtain ⟨y205, hy205⟩ : ∃ y_ : List (S104), y_ = (x3_1 ++ [(⟨wrap64 (2 + t199), wrap64 (400 + t202)⟩ : S104)]) := ⟨_, rfl⟩
     (first | (rw [← hy205] at H; with_reducible replace H := bindZ H) | rw [← hy205] at H | skip)
     have Ny205 := am_ hy205; clear hy205; have H' := am_ H; clear H
     go_wp2_with (first | ((with_reducible refine gate_callee (f := 52) rfl ?_); refine gZ 15 Try.func52 #[.pointer (some ⟨g, 0, none⟩), .int .i64 4] ?_; (with_reducible refine (spec_l01Next.calls g s0_0 x1001_1 x1002_1 4 t199 t200 t201 w0 _ ?_ ?_ A7.out).mono ?_); exact Zar; exact Zas; rintro e w10 ⟨rfl, hi, hb, hk⟩; refine ⟨_, rfl, ?_⟩; replace HO_3 := (hoZ (IsS100.apart (show IsS100 w0 _ g s0_0 x1001_1 x1002_1 from Zar) (Zt HO_3) (by decide)) hk); replace HK := am_ (KeepBut.trans Zat hk (.inl rfl)); replace HB := am_ (hb); replace HI0 := am_ (hi); clear hb hk hi) | ((with_reducible refine gate_callee (f := 52) rfl ?_); refine gZ 18 Try.func52 #[.pointer (some ⟨g, 0, none⟩), .int .i64 600] ?_; (with_reducible refine (spec_l01Next.calls g s0_0 t200 t201 600 t202 t203 t204 w0 _ ?_ ?_ A8.out).mono ?_); exact Zar; exact Zas; rintro e w11 ⟨rfl, hi, hb, hk⟩; refine ⟨_, rfl, ?_⟩; replace HO_3 := (hoZ (IsS100.apart (show IsS100 w0 _ g s0_0 t200 t201 from Zar) (Zt HO_3) (by decide)) hk); replace HK := am_ (KeepBut.trans Zat hk (.inl rfl)); replace HB := am_ (hb); replace HI0 := am_ (hi); clear hb hk hi) | ((with_reducible refine gate_builtin (b := .append) (xs := #[.tmp 13, .tmp 21]) rfl ?_); at_builtin; refine Kd.R_append k104 w.heap.size rfl (.tmp 13) (.tmp 21) 24 104 (.agg #[(.int .i64 0), (.int .i64 0)]) 16 rfl Try.underlying24 info104 rfl (by decide) (by omega) u3 x3_1 (⟨wrap64 (2 + t199), wrap64 (400 + t202)⟩ : S104) [.int .i64 (wrap64 (2 + t199)), .int .i64 (wrap64 (400 + t202))] (fun _ => True) (fun _ => False) rfl rfl ?aP (fun _ hk => hk.elim) ?aF ?aO (Below.refl _ _) ?aS ?aL ?_; (case aP => exact k104_mkM _ _ _ (⟨wrap64 (2 + t199), wrap64 (400 + t202)⟩ : S104)); (case aF => exact (fun _ _ => trivial)); (case aO => exact (Zt HO_3)); (case aS => exact (keep_size (w := w) (g := g) (row := none) Zat)); (case aL => have := LMc9.out; omega); intro v206 w12 ho hb hg hat; rw [← Ny205.out] at ho; replace HB := am_ (below_weaken Zas HL.out hb); replace HI0 := am_ (IsS100.grown Zar hg (IsS100.own_ne HI0.out HO_3.out (by decide))); replace HK := am_ (KeepBut.trans Zat (KeepBut.of_grown hg g) (Kd.R_base2 HO_3.out)); replace HO207 := am_ (ho); clear HO_3; clear ho hb hg hat))
     go_roundg k1
     case measure => have := HK1.out; omega
     case rel => exact ⟨(y205), (wrap64 (x4_1 - 1)), (t203), (t204), Zc, H', ⟨Zf⟩, ⟨(Zt HO207)⟩, ⟨Zar⟩, ⟨Zat⟩, ⟨Zas⟩⟩
    ·rw [if_neg c9] at H
     exact absurd H (by simp)
   ·rw [if_neg c6] at H
    have c6b0 : decide (0 < x4_1) = false := decide_eq_false c6; clear c6; simp only [Option.some.injEq, Prod.mk.injEq] at H; obtain ⟨rfl, rfl, rfl⟩ := H
    go_wp2
    go_ret
    exact ⟨_, Zi, (Zt HO_3), Zar, Zas, Zat⟩
def spec_l03Names.f  : Option (List ByteArray) := some (([(⟨#[97, 115, 116, 101, 114]⟩ : ByteArray), (⟨#[99, 111, 109, 101, 116]⟩ : ByteArray), (⟨#[100, 97, 104, 108, 105, 97]⟩ : ByteArray), (⟨#[112, 97, 108, 109]⟩ : ByteArray), (⟨#[112, 101, 111, 110, 121]⟩ : ByteArray), (⟨#[119, 105, 108, 108, 111, 119]⟩ : ByteArray)] : List ByteArray))
set_option maxHeartbeats 8000000 in
set_option maxRecDepth 100000 in
theorem spec_l03Names.calls  (r : List ByteArray) (w : World) (h : spec_l03Names.f  = some r) :
  Calls Try.prog 96 #[] w fun e w' => ∃ v0_ : Value, e = .returned (v0_) ∧ Kd.R Kd.string 9 w' w.heap.size (fun _ => True) v0_ r ∧ Below w.heap.size w w' := by
 have HB := am_ (Below.refl w.heap.size w); have H : (some (([(⟨#[97, 115, 116, 101, 114]⟩ : ByteArray), (⟨#[99, 111, 109, 101, 116]⟩ : ByteArray), (⟨#[100, 97, 104, 108, 105, 97]⟩ : ByteArray), (⟨#[112, 97, 108, 109]⟩ : ByteArray), (⟨#[112, 101, 111, 110, 121]⟩ : ByteArray), (⟨#[119, 105, 108, 108, 111, 119]⟩ : ByteArray)] : List ByteArray))) = some r := h; clear h; obtain ⟨y208, hy208⟩ : ∃ y_ : List ByteArray, y_ = (([(⟨#[97, 115, 116, 101, 114]⟩ : ByteArray), (⟨#[99, 111, 109, 101, 116]⟩ : ByteArray), (⟨#[100, 97, 104, 108, 105, 97]⟩ : ByteArray), (⟨#[112, 97, 108, 109]⟩ : ByteArray), (⟨#[112, 101, 111, 110, 121]⟩ : ByteArray), (⟨#[119, 105, 108, 108, 111, 119]⟩ : ByteArray)] : List ByteArray)) := ⟨_, rfl⟩
 (first | (rw [← hy208] at H; with_reducible replace H := bindZ H) | rw [← hy208] at H | skip)
 have Ny208 := am_ hy208; clear hy208; obtain rfl := Option.some.inj H
 go_enter Try.func96, Try.ntmps96
 go_wp2_with (first | ((with_reducible refine gate_dst (N := 1) rfl ?_); refine Kd.R_lit Kd.string _ 9 ?hg (N := 1) ?hd (xs := ([(⟨#[97, 115, 116, 101, 114]⟩ : ByteArray), (⟨#[99, 111, 109, 101, 116]⟩ : ByteArray), (⟨#[100, 97, 104, 108, 105, 97]⟩ : ByteArray), (⟨#[112, 97, 108, 109]⟩ : ByteArray), (⟨#[112, 101, 111, 110, 121]⟩ : ByteArray), (⟨#[119, 105, 108, 108, 111, 119]⟩ : ByteArray)] : List ByteArray)) (inner := [.string (⟨#[97, 115, 116, 101, 114]⟩ : ByteArray), .string (⟨#[99, 111, 109, 101, 116]⟩ : ByteArray), .string (⟨#[100, 97, 104, 108, 105, 97]⟩ : ByteArray), .string (⟨#[112, 97, 108, 109]⟩ : ByteArray), .string (⟨#[112, 101, 111, 110, 121]⟩ : ByteArray), .string (⟨#[119, 105, 108, 108, 111, 119]⟩ : ByteArray)]) (ok := fun _ => True) (okp := fun _ => True) ?hr ?hp (fun _ hk => hk) trivial (Below.refl _ _) (Nat.le_refl _) (by simp) ?_; (case hd => rfl); (case hg => rfl); (case hr => first | (go_simp; done) | (go_simp; rfl)); (case hp => exact (Reps.one (show Kd.M Kd.string _ _ _ (⟨#[97, 115, 116, 101, 114]⟩ : ByteArray) [.string (⟨#[97, 115, 116, 101, 114]⟩ : ByteArray)] from rfl) (Reps.one (show Kd.M Kd.string _ _ _ (⟨#[99, 111, 109, 101, 116]⟩ : ByteArray) [.string (⟨#[99, 111, 109, 101, 116]⟩ : ByteArray)] from rfl) (Reps.one (show Kd.M Kd.string _ _ _ (⟨#[100, 97, 104, 108, 105, 97]⟩ : ByteArray) [.string (⟨#[100, 97, 104, 108, 105, 97]⟩ : ByteArray)] from rfl) (Reps.one (show Kd.M Kd.string _ _ _ (⟨#[112, 97, 108, 109]⟩ : ByteArray) [.string (⟨#[112, 97, 108, 109]⟩ : ByteArray)] from rfl) (Reps.one (show Kd.M Kd.string _ _ _ (⟨#[112, 101, 111, 110, 121]⟩ : ByteArray) [.string (⟨#[112, 101, 111, 110, 121]⟩ : ByteArray)] from rfl) (Reps.one (show Kd.M Kd.string _ _ _ (⟨#[119, 105, 108, 108, 111, 119]⟩ : ByteArray) [.string (⟨#[119, 105, 108, 108, 111, 119]⟩ : ByteArray)] from rfl) (Reps.none _ _)))))))); intro v209 w1 ho2 hb hg_ hnew_; clear hg_ hnew_; (first | rw [← Ny208.out] at ho2 | (simp only [Int.reduceToNat] at ho2; rw [← Ny208.out] at ho2)); replace HO210 := am_ (Kd.R_lower ho2 (below_size Zh)); replace HB := (bsZ Zh hb); clear hb ho2))
 go_ret
 exact ⟨_, Zi, (Zt HO210), Zh⟩
def spec_l01Pick.f (s0_0 : List Int) (s0_1 : Int) (s0_2 : Int) (l1 : List Int) : Option (Int × Int × Int) := (spec_l01Next.f s0_0 s0_1 s0_2 (l1.length : Int)).bind fun bt211 => (if 0 ≤ bt211.1 then (if bt211.1 < (l1.length : Int) then (some (rd l1 bt211.1, bt211.2.1, bt211.2.2)) else (none)) else (none))
set_option maxHeartbeats 8000000 in
set_option maxRecDepth 100000 in
theorem spec_l01Pick.calls (g : Nat) (s0_0 : List Int) (s0_1 : Int) (s0_2 : Int) (A1 : Option Addr) (c1 : Nat) (l1 : List Int) (r1 : Int) (r2 : Int) (r3 : Int) (w0 w : World) (hI : IsS100 w0 w g s0_0 s0_1 s0_2) (hB : Below w0.heap.size w0 w) (hr1 : Kd.C (Kd.int .i64) w A1 l1.length l1) (hc1 : l1.length ≤ c1) (hf1 : ∀ ad, A1 = some ad → 0 < l1.length → ad.block ≠ g) (h : spec_l01Pick.f s0_0 s0_1 s0_2 l1 = some (r1, r2, r3)) :
  Calls Try.prog 51 #[.pointer (some ⟨g, 0, none⟩), .slice A1 l1.length c1] w fun e w' => e = .returned (.int .i64 r1) ∧ IsS100 w0 w' g s0_0 r2 r3 ∧ Below w0.heap.size w0 w' ∧ KeepBut w w' g none := by
 have HR1 := am_ hr1; have HC1 := am_ hc1; clear hr1 hc1; have HI0 := am_ hI; have HK := am_ (KeepBut.refl w g none); have HL := am_ hB.size; clear hI; have HW0 := am_ hB.size; have HB := am_ hB; clear hB; have H : ((spec_l01Next.f s0_0 s0_1 s0_2 (l1.length : Int)).bind fun bt211 => (if 0 ≤ bt211.1 then (if bt211.1 < (l1.length : Int) then (some (rd l1 bt211.1, bt211.2.1, bt211.2.2)) else (none)) else (none))) = some (r1, r2, r3) := h; clear h; replace H := Option.bind_eq_some_iff.mp H; obtain ⟨⟨t211, t212, t213⟩, A30, H⟩ := H; replace H : (if 0 ≤ t211 then (if t211 < (l1.length : Int) then (some (rd l1 t211, t212, t213)) else (none)) else (none)) = some (r1, r2, r3) := H; have A3 := am_ A30; clear A30
 by_cases c4 : 0 ≤ t211
 ·rw [if_pos c4] at H
  have c4b0 := decide_eq_true c4; clear c4
  by_cases c5 : t211 < (l1.length : Int)
  ·rw [if_pos c5] at H
   have c5b0 := decide_eq_true c5; clear c5; simp only [Option.some.injEq, Prod.mk.injEq] at H; obtain ⟨rfl, rfl, rfl⟩ := H
   go_enter Try.func51, Try.ntmps51
   go_wp2_with (first | ((with_reducible refine gate_callee (f := 52) rfl ?_); refine gZ 9 Try.func52 #[.pointer (some ⟨g, 0, none⟩), .int .i64 (l1.length : Int)] ?_; (with_reducible refine (spec_l01Next.calls g s0_0 s0_1 s0_2 (l1.length : Int) t211 t212 t213 w0 _ ?_ ?_ A3.out).mono ?_); exact Zar; exact Zas; rintro e w6 ⟨rfl, hi, hb, hk⟩; refine ⟨_, rfl, ?_⟩; replace HK := am_ (KeepBut.trans Zat hk (.inl rfl)); replace HB := am_ (hb); replace HI0 := am_ (hi); clear hb hk hi; have p214 : 0 ≤ (t211 : Int) := of_decide_eq_true Ze; have q214 : t211 < (l1.length : Int) := of_decide_eq_true Ze; obtain ⟨ad214, e214, hx214_0⟩ := Kd.at_int HR1.out t211 p214 q214; cases e214; replace hx214_0 := keep_cell HK.out hx214_0 (by first | (rw [add_block]; exact hf1 _ rfl (by omega)) | exact hf1 _ rfl (by omega) | exact hf1 ad214 rfl (by omega)); replace p214 := eq_true p214; replace q214 := eq_true q214))
   go_ret
   exact ⟨Zi, Zar, Zas, Zat⟩
  ·rw [if_neg c5] at H
   exact absurd H (by simp)
 ·rw [if_neg c4] at H
  exact absurd H (by simp)
end Go.Proofs.Ythhijbdekboahaa.F
