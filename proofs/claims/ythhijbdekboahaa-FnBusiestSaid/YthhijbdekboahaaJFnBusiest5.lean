import Derived.Test.YthhijbdekboahaaJFnBusiest4
import Derived.Below
import Derived.Deep.Draws
import Derived.Deep.AppendLies
import Derived.Maps.AppendAt
import Derived.OwnWalk
import Derived.Laws.BytesArg
import Derived.Laws.MakeOwn
import Derived.Laws.OwnMore
import Derived.Tactics
import Derived.Lib.ConvBytes
import Derived.Laws.Slices
import Derived.WalkKit
import Derived.KernelRfl
import Derived.RowKit3
import Derived.Deep.LoopGhost
import Derived.Deep.QuietTactic
import Derived.BigQuiet
import Derived.WideLaws
import Derived.Deep.DeepCutAuto
import Derived.Deep.CutBlock
import Derived.Deep.RegionHeld3
import Derived.Lib.AppendStr
import Derived.ArgAppend
import Derived.Laws.IdiomCopy
import Derived.RowKit
import Derived.OrdersHeld
import Derived.Laws.BitsLemmas
import Derived.Laws.StructEq
import Derived.Test.YthhijbdekboahaaProg
import Derived.Laws.Cover1
namespace Go.Proofs.Ythhijbdekboahaa.F
open Go.RowKit Go.Proofs.YthhijbdekboahaaW.PrintWords Go.Proofs.YthhijbdekboahaaW.PrintLast Go.Proofs.YthhijbdekboahaaW.PrintMore
attribute [local go_sem] max2_int min2_int max_two min_two max_three min_three max_four min_four
set_option linter.unusedVariables false
set_option linter.unusedSimpArgs false
mutual
def impl_IsShow.j0 : Nat → Bool → List (S104) → List (S62) → List (S39) → Option (Bool)
 | 0, _, _, _, _ => none
 | k + 1, x20, x573000, x573001, x573002 => if x20 = true then (some false) else (impl_IsShow.l0 k x573002 (x573002.length : Int) 0 x573000 x573001 x573002)
def impl_IsShow.l0 : Nat → List (S39) → Int → Int → List (S104) → List (S62) → List (S39) → Option (Bool)
 | 0, _, _, _, _, _, _ => none
 | k + 1, x22, x23, x24, x573000, x573001, x573002 => if x24 < x23 then (if 0 ≤ x24 then (if x24 < (x22.length : Int) then ((impl_within.f ((rd_T39 x22 x24).f3) 0 11).bind fun t577 => (if t577 = true then ((impl_firedAt.f k x573000 x573001 x573002 ((rd_T39 x22 x24).f0) ((rd_T39 x22 x24).f1) ((rd_T39 x22 x24).f2) ((rd_T39 x22 x24).f3)).bind fun t578 => (if t578 < 0 then (some false) else (impl_IsShow.l0 k x22 x23 (wrap64 (x24 + 1)) x573000 x573001 x573002))) else (some false))) else (none)) else (none)) else (some true)
end
def impl_IsShow.f (k : Nat) (l0_0 : List (S104)) (l0_1 : List (S62)) (l0_2 : List (S39)) : Option (Bool) := (impl_IsScore.f k l0_0).bind fun t573 => (if t573 = true then ((impl_AreArticles.f k l0_1).bind fun t574 => (if t574 = true then (impl_IsShow.j0 k (decide ((l0_2.length : Int) > 20)) l0_0 l0_1 l0_2) else (impl_IsShow.j0 k true l0_0 l0_1 l0_2))) else (impl_IsShow.j0 k true l0_0 l0_1 l0_2))
set_option maxHeartbeats 8000000 in
set_option maxRecDepth 100000 in
theorem impl_IsShow.calls (k : Nat) (A0_0 : Option Addr) (c0_0 : Nat) (l0_0 : List (S104)) (A0_1 : Option Addr) (c0_1 : Nat) (l0_1 : List (S62)) (A0_2 : Option Addr) (c0_2 : Nat) (l0_2 : List (S39)) (r : Bool) (w : World) (hr0_0 : Kd.C k104 w A0_0 l0_0.length l0_0) (hc0_0 : l0_0.length ≤ c0_0) (hr0_1 : Kd.C k62 w A0_1 l0_1.length l0_1) (hc0_1 : l0_1.length ≤ c0_1) (hr0_2 : Kd.C k39 w A0_2 l0_2.length l0_2) (hc0_2 : l0_2.length ≤ c0_2) (h : impl_IsShow.f k l0_0 l0_1 l0_2 = some r) :
  Calls Try.prog 25 #[.agg #[.slice A0_0 l0_0.length c0_0, .slice A0_1 l0_1.length c0_1, .slice A0_2 l0_2.length c0_2]] w fun e w' => e = .returned (.bool r) ∧ Below w.heap.size w w' := by
 have hu28 := Try.underlying28; have hu39 := Try.underlying39; have HR0_0 := am_ hr0_0; have HC0_0 := am_ hc0_0; clear hr0_0 hc0_0; have HR0_1 := am_ hr0_1; have HC0_1 := am_ hc0_1; clear hr0_1 hc0_1; have HR0_2 := am_ hr0_2; have HC0_2 := am_ hc0_2; clear hr0_2 hc0_2; have HB := am_ (Below.refl w.heap.size w); have H : ((impl_IsScore.f k l0_0).bind fun t573 => (if t573 = true then ((impl_AreArticles.f k l0_1).bind fun t574 => (if t574 = true then (impl_IsShow.j0 k (decide ((l0_2.length : Int) > 20)) l0_0 l0_1 l0_2) else (impl_IsShow.j0 k true l0_0 l0_1 l0_2))) else (impl_IsShow.j0 k true l0_0 l0_1 l0_2))) = some r := h; clear h; have HC2 := am_ H; clear H
 go_enter Try.func25, Try.ntmps25
 go_upto_region 1 with (first | ((with_reducible refine gate_dst (N := 1) rfl ?_); (try (refine gate_guard (by rfl) ?_; dsimp only)); refine boxZ 1 #[.slice A0_0 l0_0.length c0_0, .slice A0_1 l0_1.length c0_1, .slice A0_2 l0_2.length c0_2] 28 ?_; intro gb572 hg w3 hbox hb; replace BK572 := am_ (hbox); replace GW572 := am_ ((Zp : w.heap.size ≤ gb572)); replace GE572 := GW572; replace HB := (bsZ Zc hb); clear hb hbox hg))
 (try simp only [Act.put, List.setIfInBounds_toArray, List.set_cons_zero, List.set_cons_succ])
 go_cut [20] (fun v20 wc => ∃ (kq : Nat) (x20_1 : Bool), v20 = .bool x20_1 ∧ Aside0 (impl_IsShow.j0 kq x20_1 l0_0 l0_1 l0_2 = some r) ∧ Aside0 (kq ≤ k) ∧ Aside0 (wc.heap[gb572]? = some (.cells #[(.slice A0_0 l0_0.length c0_0), (.slice A0_1 l0_1.length c0_1), (.slice A0_2 l0_2.length c0_2)] 28 (0, 0))) ∧ Aside0 (Below w.heap.size w wc))
 case first =>
  have H := HC2.out; clear HC2; replace H := Option.bind_eq_some_iff.mp H; obtain ⟨t573, A40, H⟩ := H; have A4 := am_ A40; clear A40; have HS_ := am_ H; clear H; refine ci3 BK572 ?_; intros
  go_wp2_with (first | ((with_reducible refine gate_callee (f := 68) rfl ?_); refine gZ 7 Try.func68 #[.slice A0_0 l0_0.length c0_0] ?_; (with_reducible refine (impl_IsScore.calls k _ _ l0_0 t573 _ ?_ ?_ A4.out).mono ?_); exact (Zs HR0_0); exact HC0_0.out; rintro e w9 ⟨rfl, hb⟩; refine ⟨_, rfl, ?_⟩; replace BK572 := (bkZ BK572 hb); replace HB := (bsZ (Ze GE572) hb); clear hb; refine ?roundEnd))
  case roundEnd =>
   by_cases c5 : t573 = true
   ·have H := HS_.out
    clear HS_; subst c5
    have H1 : ((impl_AreArticles.f k l0_1).bind fun t574 => (if t574 = true then (impl_IsShow.j0 k (decide ((l0_2.length : Int) > 20)) l0_0 l0_1 l0_2) else (impl_IsShow.j0 k true l0_0 l0_1 l0_2))) = some r := by rw [if_pos rfl] at H; exact H
    clear H; have H := H1; clear H1; replace H := Option.bind_eq_some_iff.mp H; obtain ⟨t574, A60, H⟩ := H; have A6 := am_ A60; clear A60; have HS_ := am_ H; clear H; refine ci3 BK572 ?_; intros
    go_wp2_with (first | (go_at_call 69; (with_reducible refine (impl_AreArticles.calls k _ _ l0_1 t574 _ ?_ ?_ A6.out).mono ?_); exact (Zs HR0_1); exact HC0_1.out; rintro e w11 ⟨rfl, hb⟩; replace BK572 := (bkZ BK572 hb); replace HB := (bsZ (Ze GE572) hb); clear hb; refine ?roundEnd))
    case roundEnd =>
     by_cases c7 : t574 = true
     ·have H := HS_.out
      clear HS_; subst c7
      have H1 : (impl_IsShow.j0 k (decide ((l0_2.length : Int) > 20)) l0_0 l0_1 l0_2) = some r := by rw [if_pos rfl] at H; exact H
      clear H; have H := H1; clear H1; have H' := am_ H; clear H; refine ci3 BK572 ?_; intros
      go_wp2_with (first | fail)
      go_meet
      case rel => exact ⟨_, (decide ((l0_2.length : Int) > 20)), Za, H', ⟨Zw⟩, ⟨(Zd BK572)⟩, ⟨(Ze GE572)⟩⟩
     ·have H := HS_.out
      clear HS_; replace c7 := Bool.eq_false_iff.mpr c7; subst c7
      have H1 : (impl_IsShow.j0 k true l0_0 l0_1 l0_2) = some r := by rw [if_neg (show ¬ (false = true) by decide)] at H; exact H
      clear H; have H := H1; clear H1; have H' := am_ H; clear H
      go_wp2_with (first | fail)
      go_meet
      case rel => exact ⟨_, (true), Za, H', ⟨Zw⟩, ⟨(Zd BK572)⟩, ⟨(Ze GE572)⟩⟩
   ·have H := HS_.out
    clear HS_; replace c5 := Bool.eq_false_iff.mpr c5; subst c5
    have H1 : (impl_IsShow.j0 k true l0_0 l0_1 l0_2) = some r := by rw [if_neg (show ¬ (false = true) by decide)] at H; exact H
    clear H; have H := H1; clear H1; have H' := am_ H; clear H
    go_wp2_with (first | fail)
    go_meet
    case rel => exact ⟨_, (true), Za, H', ⟨Zw⟩, ⟨(Zd BK572)⟩, ⟨(Ze GE572)⟩⟩
 case rest =>
  clear HC2
  try clear c2
  try clear p2
  try clear c5
  try clear c6
  try clear c7
  obtain ⟨kq, x20_1, rfl, HA, HJ1, BK572, HB⟩ := hcut
  cases kq with
  | zero => exact absurd HA.out (by simp [impl_IsShow.j0])
  | succ kj1 =>
   have H := HA.out; clear HA; simp only [impl_IsShow.j0] at H
   by_cases c19 : x20_1 = true
   ·subst c19
    have H1 : (some false) = some r := by rw [if_pos rfl] at H; exact H
    clear H; have H := H1; clear H1; obtain rfl := Option.some.inj H
    go_wp2
    go_ret
    exact ⟨Zj, (Ze GE572)⟩
   ·replace c19 := Bool.eq_false_iff.mpr c19
    subst c19
    have H1 : (impl_IsShow.l0 kj1 l0_2 (l0_2.length : Int) 0 l0_0 l0_1 l0_2) = some r := by rw [if_neg (show ¬ (false = true) by decide)] at H; exact H
    clear H; have H := H1; clear H1; have H' := am_ H; clear H; refine ci3 BK572 ?_; intros
    go_wp2
    go_loopg [24] kj1 (fun kq v24 w' => ∃ (x24_2 : Int), v24 = .int .i64 x24_2 ∧ Aside0 (impl_IsShow.l0 kq l0_2 (l0_2.length : Int) x24_2 l0_0 l0_1 l0_2 = some r) ∧ Aside0 (kq ≤ kj1) ∧ Aside0 (w'.heap[gb572]? = some (.cells #[(.slice A0_0 l0_0.length c0_0), (.slice A0_1 l0_1.length c0_1), (.slice A0_2 l0_2.length c0_2)] 28 (0, 0))) ∧ Aside0 (Below w.heap.size w w'))
    case atStart => exact ⟨(0), Za, H', ⟨Nat.le_refl _⟩, ⟨(Zd BK572)⟩, ⟨(Ze GE572)⟩⟩
    case round =>
     clear H'
     try clear c1
     try clear c2
     try clear p2
     try clear c5
     try clear c6
     try clear c7
     try clear c19
     try clear p2
     obtain ⟨x24_2, rfl, HA, HK2, BK572, HB⟩ := hrel
     cases gk with
     | zero => exact absurd HA.out (by simp [impl_IsShow.l0])
     | succ k2 =>
      have H := HA.out; clear HA; simp only [impl_IsShow.l0] at H
      by_cases c21 : x24_2 < (l0_2.length : Int)
      ·rw [if_pos c21] at H
       have c21b0 := decide_eq_true c21; clear c21
       by_cases c22 : 0 ≤ x24_2
       ·rw [if_pos c22] at H
        have c22b0 := decide_eq_true c22; clear c22
        by_cases c23 : x24_2 < (l0_2.length : Int)
        ·rw [if_pos c23] at H
         have c23b0 := decide_eq_true c23; clear c23; replace H := Option.bind_eq_some_iff.mp H; obtain ⟨t577, A240, H⟩ := H; have A24 := am_ A240; clear A240
         by_cases c25 : t577 = true
         ·subst c25
          have H1 : ((impl_firedAt.f k2 l0_0 l0_1 l0_2 ((rd_T39 l0_2 x24_2).f0) ((rd_T39 l0_2 x24_2).f1) ((rd_T39 l0_2 x24_2).f2) ((rd_T39 l0_2 x24_2).f3)).bind fun t578 => (if t578 < 0 then (some false) else (impl_IsShow.l0 k2 l0_2 (l0_2.length : Int) (wrap64 (x24_2 + 1)) l0_0 l0_1 l0_2))) = some r := by rw [if_pos rfl] at H; exact H
          clear H; have H := H1; clear H1; replace H := Option.bind_eq_some_iff.mp H; obtain ⟨t578, A260, H⟩ := H; have A26 := am_ A260; clear A260; have HS_ := am_ H; clear H; have p575 : 0 ≤ (x24_2 : Int) := of_decide_eq_true Zg; have q575 : x24_2 < (l0_2.length : Int) := of_decide_eq_true Zg; obtain ⟨ad575, e575, hx575_0, hx575_1, hx575_2, hx575_3⟩ := at_T39 HR0_2.out x24_2 p575 q575
          cases e575
          replace hx575_0 := cbH HB hx575_0; replace hx575_1 := cbH HB hx575_1; replace hx575_2 := cbH HB hx575_2; replace hx575_3 := cbH HB hx575_3; replace p575 := eq_true p575; replace q575 := eq_true q575
          go_wp2_with (first | ((with_reducible refine gate_dst (N := 4) rfl ?_); (try (refine gate_guard (by rfl) ?_; dsimp only)); refine boxZ 4 #[.int .i64 0, .int .i64 0, .string (⟨#[]⟩ : ByteArray), .int .i64 0] 39 ?_; intro gb576 hg w28 hbox hb; replace BK576 := am_ (hbox); replace GW576 := am_ (((Zr GE572) : w.heap.size ≤ gb576)); replace GE576 := GW576; replace HB := (bsZ (Ze GE572) hb); replace NB572_576 := am_ ((by rw [hg]; exact Nat.ne_of_lt (blk_lt (g := gb572) (b0Z BK572)) : gb572 ≠ gb576)); replace NB576_572 := am_ ((by rw [hg]; exact Nat.ne_of_gt (blk_lt (g := gb572) (b0Z BK572)) : gb576 ≠ gb572)); replace BK572 := (bkZ BK572 hb); clear hb hbox hg; have hnb29 := NB576_572.out; have hnc29 := NB572_576.out; refine ci4 BK576 ?_; intros) | ((with_reducible refine gate_callee (f := 53) rfl ?_); refine gZ 30 Try.func53 #[.int .i64 ((rd_T39 l0_2 x24_2).f3), .int .i64 0, .int .i64 11] ?_; (with_reducible refine (impl_within.calls ((rd_T39 l0_2 x24_2).f3) 0 11 true _ A24.out).mono ?_); rintro e w' ⟨rfl, ⟨nd, rfl⟩⟩; refine ⟨_, rfl, ?_⟩; refine ci3 BK572 ?_; intros) | (go_at_call 70; (with_reducible refine (impl_firedAt.calls k2 _ _ l0_0 _ _ l0_1 _ _ l0_2 ((rd_T39 l0_2 x24_2).f0) ((rd_T39 l0_2 x24_2).f1) ((rd_T39 l0_2 x24_2).f2) ((rd_T39 l0_2 x24_2).f3) t578 _ ?_ ?_ ?_ ?_ ?_ ?_ A26.out).mono ?_); exact Kd.C_below HR0_0.out (Zu GE572 GE576); exact HC0_0.out; exact Kd.C_below HR0_1.out (Zu GE572 GE576); exact HC0_1.out; exact Kd.C_below HR0_2.out (Zu GE572 GE576); exact HC0_2.out; rintro e w32 ⟨rfl, hb⟩; replace BK572 := am_ (blk_below (g := gb572) (bfZ BK572 NB572_576) hb); replace BK576 := am_ (blk_below (g := gb576) (o := .cells #[.int .i64 ((rd_T39 l0_2 x24_2).f0), .int .i64 ((rd_T39 l0_2 x24_2).f1), .string ((rd_T39 l0_2 x24_2).f2), .int .i64 ((rd_T39 l0_2 x24_2).f3)] 39 (0, 0)) (bpZ BK576) hb); replace HB := (bsZ (Zu GE572 GE576) hb); clear hb; refine ?roundEnd))
          case roundEnd =>
           by_cases c27 : t578 < 0
           ·have H := HS_.out
            clear HS_; rw [if_pos c27] at H; have c27b0 := decide_eq_true c27; clear c27; obtain rfl := Option.some.inj H
            go_wp2_with (first | fail)
            go_ret
            exact ⟨Zj, (Zu GE572 GE576)⟩
           ·have H := HS_.out
            clear HS_; rw [if_neg c27] at H; have c27b0 := decide_eq_false c27; clear c27; have H' := am_ H; clear H
            go_wp2_with (first | fail)
            go_roundg k2
            case measure => have := HJ1.out; have := HK2.out; omega
            case rel => exact ⟨(wrap64 (x24_2 + 1)), Za, H', ⟨by have := HJ1.out; have := HK2.out; omega⟩, ⟨(Zd BK572)⟩, ⟨(Zu GE572 GE576)⟩⟩
         ·replace c25 := Bool.eq_false_iff.mpr c25
          subst c25
          have H1 : (some false) = some r := by rw [if_neg (show ¬ (false = true) by decide)] at H; exact H
          clear H; have H := H1; clear H1; obtain rfl := Option.some.inj H; have p575 : 0 ≤ (x24_2 : Int) := of_decide_eq_true Zg; have q575 : x24_2 < (l0_2.length : Int) := of_decide_eq_true Zg; obtain ⟨ad575, e575, hx575_0, hx575_1, hx575_2, hx575_3⟩ := at_T39 HR0_2.out x24_2 p575 q575
          cases e575
          replace hx575_0 := cbH HB hx575_0; replace hx575_1 := cbH HB hx575_1; replace hx575_2 := cbH HB hx575_2; replace hx575_3 := cbH HB hx575_3; replace p575 := eq_true p575; replace q575 := eq_true q575
          go_wp2_with (first | ((with_reducible refine gate_dst (N := 4) rfl ?_); (try (refine gate_guard (by rfl) ?_; dsimp only)); refine boxZ 4 #[.int .i64 0, .int .i64 0, .string (⟨#[]⟩ : ByteArray), .int .i64 0] 39 ?_; intro gb576 hg w38 hbox hb; replace BK576 := am_ (hbox); replace GW576 := am_ (((Zr GE572) : w.heap.size ≤ gb576)); replace GE576 := GW576; replace HB := (bsZ (Ze GE572) hb); replace NB572_576 := am_ ((by rw [hg]; exact Nat.ne_of_lt (blk_lt (g := gb572) (b0Z BK572)) : gb572 ≠ gb576)); replace NB576_572 := am_ ((by rw [hg]; exact Nat.ne_of_gt (blk_lt (g := gb572) (b0Z BK572)) : gb576 ≠ gb572)); replace BK572 := (bkZ BK572 hb); clear hb hbox hg; have hnb39 := NB576_572.out; have hnc39 := NB572_576.out; refine ci4 BK576 ?_; intros) | ((with_reducible refine gate_callee (f := 53) rfl ?_); refine gZ 30 Try.func53 #[.int .i64 ((rd_T39 l0_2 x24_2).f3), .int .i64 0, .int .i64 11] ?_; (with_reducible refine (impl_within.calls ((rd_T39 l0_2 x24_2).f3) 0 11 false _ A24.out).mono ?_); rintro e w' ⟨rfl, ⟨nd, rfl⟩⟩; refine ⟨_, rfl, ?_⟩))
          go_ret
          exact ⟨Zj, (Zu GE572 GE576)⟩
        ·rw [if_neg c23] at H
         exact absurd H (by simp)
       ·rw [if_neg c22] at H
        exact absurd H (by simp)
      ·rw [if_neg c21] at H
       have c21b0 := decide_eq_false c21; clear c21; obtain rfl := Option.some.inj H
       go_wp2
       go_ret
       exact ⟨Zj, (Ze GE572)⟩
def impl_fireTimes.l0 : Nat → List Int → List (S39) → Int → Int → List (S104) → List (S62) → List (S39) → Option (List Int)
 | 0, _, _, _, _, _, _, _ => none
 | k + 1, x3, x7, x8, x9, x580000, x580001, x580002 => if x9 < x8 then (if 0 ≤ x9 then (if x9 < (x7.length : Int) then ((impl_firedAt.f k x580000 x580001 x580002 ((rd_T39 x7 x9).f0) ((rd_T39 x7 x9).f1) ((rd_T39 x7 x9).f2) ((rd_T39 x7 x9).f3)).bind fun t582 => (if x3.length < 17592186044416 then (impl_fireTimes.l0 k (x3 ++ [t582]) x7 x8 (wrap64 (x9 + 1)) x580000 x580001 x580002) else (none))) else (none)) else (none)) else (some x3)
def impl_fireTimes.f (k : Nat) (l0_0 : List (S104)) (l0_1 : List (S62)) (l0_2 : List (S39)) : Option (List Int) := impl_fireTimes.l0 k ([] : List Int) l0_2 (l0_2.length : Int) 0 l0_0 l0_1 l0_2
set_option maxHeartbeats 8000000 in
set_option maxRecDepth 100000 in
theorem impl_fireTimes.calls (k : Nat) (A0_0 : Option Addr) (c0_0 : Nat) (l0_0 : List (S104)) (A0_1 : Option Addr) (c0_1 : Nat) (l0_1 : List (S62)) (A0_2 : Option Addr) (c0_2 : Nat) (l0_2 : List (S39)) (r : List Int) (w : World) (hr0_0 : Kd.C k104 w A0_0 l0_0.length l0_0) (hc0_0 : l0_0.length ≤ c0_0) (hr0_1 : Kd.C k62 w A0_1 l0_1.length l0_1) (hc0_1 : l0_1.length ≤ c0_1) (hr0_2 : Kd.C k39 w A0_2 l0_2.length l0_2) (hc0_2 : l0_2.length ≤ c0_2) (h : impl_fireTimes.f k l0_0 l0_1 l0_2 = some r) :
  Calls Try.prog 54 #[.agg #[.slice A0_0 l0_0.length c0_0, .slice A0_1 l0_1.length c0_1, .slice A0_2 l0_2.length c0_2]] w fun e w' => ∃ v0_ : Value, e = .returned (v0_) ∧ Kd.R (Kd.int .i64) 2 w' w.heap.size (fun _ => True) v0_ r ∧ Below w.heap.size w w' := by
 have hu28 := Try.underlying28; have hu39 := Try.underlying39; have HR0_0 := am_ hr0_0; have HC0_0 := am_ hc0_0; clear hr0_0 hc0_0; have HR0_1 := am_ hr0_1; have HC0_1 := am_ hc0_1; clear hr0_1 hc0_1; have HR0_2 := am_ hr0_2; have HC0_2 := am_ hc0_2; clear hr0_2 hc0_2; have HB := am_ (Below.refl w.heap.size w); have H : (impl_fireTimes.l0 k ([] : List Int) l0_2 (l0_2.length : Int) 0 l0_0 l0_1 l0_2) = some r := h; clear h; have H' := am_ H; clear H
 go_enter Try.func54, Try.ntmps54
 go_wp2_with (first | ((with_reducible refine gate_dst (N := 1) rfl ?_); refine boxZ 1 #[.slice A0_0 l0_0.length c0_0, .slice A0_1 l0_1.length c0_1, .slice A0_2 l0_2.length c0_2] 28 ?_; intro gb579 hg w2 hbox hb; replace BK579 := am_ (hbox); replace GW579 := am_ ((Zp : w.heap.size ≤ gb579)); replace GE579 := GW579; replace HB := (bsZ Zc hb); clear hb hbox hg; refine ci3 BK579 ?_; intros))
 go_loopg [3, 9] k (fun kq v3 v9 w' => ∃ (x3_1 : List Int) (x9_1 : Int), v9 = .int .i64 x9_1 ∧ Aside0 (impl_fireTimes.l0 kq x3_1 l0_2 (l0_2.length : Int) x9_1 l0_0 l0_1 l0_2 = some r) ∧ Aside0 (kq ≤ k) ∧ Aside0 (Kd.R (Kd.int .i64) 2 w' w.heap.size (fun _ => True) v3 x3_1) ∧ Aside0 (w'.heap[gb579]? = some (.cells #[(.slice A0_0 l0_0.length c0_0), (.slice A0_1 l0_1.length c0_1), (.slice A0_2 l0_2.length c0_2)] 28 (0, 0))) ∧ Aside0 (Below w.heap.size w w'))
 case atStart => exact ⟨(([] : List Int)), (0), Za, H', ⟨Nat.le_refl _⟩, ⟨Zag⟩, ⟨(Zd BK579)⟩, ⟨(Ze GE579)⟩⟩
 case round =>
  clear H'
  try clear p2
  obtain ⟨x3_1, x9_1, rfl, HA, HK1, HO_3, BK579, HB⟩ := hrel
  cases gk with
  | zero => exact absurd HA.out (by simp [impl_fireTimes.l0])
  | succ k1 =>
   have H := HA.out; clear HA; simp only [impl_fireTimes.l0] at H
   by_cases c4 : x9_1 < (l0_2.length : Int)
   ·rw [if_pos c4] at H
    have c4b0 := decide_eq_true c4; clear c4
    by_cases c5 : 0 ≤ x9_1
    ·rw [if_pos c5] at H
     have c5b0 := decide_eq_true c5; clear c5
     by_cases c6 : x9_1 < (l0_2.length : Int)
     ·rw [if_pos c6] at H
      have c6b0 := decide_eq_true c6; clear c6; replace H := Option.bind_eq_some_iff.mp H; obtain ⟨t582, A70, H⟩ := H; have A7 := am_ A70; clear A70
      by_cases c8 : x3_1.length < 17592186044416
      ·rw [if_pos c8] at H
       have LMc8 := am_ c8; clear c8; obtain ⟨y583, hy583⟩ : ∃ y_ : List Int, y_ = (x3_1 ++ [t582]) := ⟨_, rfl⟩
       (first | (rw [← hy583] at H; with_reducible replace H := bindZ H) | rw [← hy583] at H)
       have Ny583 := am_ hy583; clear hy583; have H' := am_ H; clear H; have p580 : 0 ≤ (x9_1 : Int) := of_decide_eq_true Zg; have q580 : x9_1 < (l0_2.length : Int) := of_decide_eq_true Zg; obtain ⟨ad580, e580, hx580_0, hx580_1, hx580_2, hx580_3⟩ := at_T39 HR0_2.out x9_1 p580 q580
       cases e580
       replace hx580_0 := cbH HB hx580_0; replace hx580_1 := cbH HB hx580_1; replace hx580_2 := cbH HB hx580_2; replace hx580_3 := cbH HB hx580_3; replace p580 := eq_true p580; replace q580 := eq_true q580
       go_wp2_with (first | ((with_reducible refine gate_dst (N := 5) rfl ?_); refine boxZ 5 #[.int .i64 0, .int .i64 0, .string (⟨#[]⟩ : ByteArray), .int .i64 0] 39 ?_; intro gb581 hg w9 hbox hb; replace HO_3 := (hbZ HO_3 hb); replace BK581 := am_ (hbox); replace GW581 := am_ (((Zr GE579) : w.heap.size ≤ gb581)); replace GE581 := GW581; replace HB := (bsZ (Ze GE579) hb); replace NB579_581 := am_ ((by rw [hg]; exact Nat.ne_of_lt (blk_lt (g := gb579) (b0Z BK579)) : gb579 ≠ gb581)); replace NB581_579 := am_ ((by rw [hg]; exact Nat.ne_of_gt (blk_lt (g := gb579) (b0Z BK579)) : gb581 ≠ gb579)); replace BK579 := (bkZ BK579 hb); clear hb hbox hg; have hnb10 := NB581_579.out; have hnc10 := NB579_581.out; refine ci4 BK581 ?_; intros; refine ci3 BK579 ?_; intros) | ((with_reducible refine gate_callee (f := 70) rfl ?_); refine gZ 16 Try.func70 #[.agg #[.slice A0_0 l0_0.length c0_0, .slice A0_1 l0_1.length c0_1, .slice (some ad580) l0_2.length c0_2], .agg #[.int .i64 ((rd_T39 l0_2 x9_1).f0), .int .i64 ((rd_T39 l0_2 x9_1).f1), .string ((rd_T39 l0_2 x9_1).f2), .int .i64 ((rd_T39 l0_2 x9_1).f3)]] ?_; (with_reducible refine (impl_firedAt.calls k1 _ _ l0_0 _ _ l0_1 _ _ l0_2 ((rd_T39 l0_2 x9_1).f0) ((rd_T39 l0_2 x9_1).f1) ((rd_T39 l0_2 x9_1).f2) ((rd_T39 l0_2 x9_1).f3) t582 _ ?_ ?_ ?_ ?_ ?_ ?_ A7.out).mono ?_); exact Kd.C_below HR0_0.out (Zu GE579 GE581); exact HC0_0.out; exact Kd.C_below HR0_1.out (Zu GE579 GE581); exact HC0_1.out; exact Kd.C_below HR0_2.out (Zu GE579 GE581); exact HC0_2.out; rintro e w13 ⟨rfl, hb⟩; refine ⟨_, rfl, ?_⟩; replace HO_3 := am_ (Kd.R_below (Zar HO_3 BK581) hb); replace BK579 := am_ (blk_below (g := gb579) (bfZ BK579 NB579_581) hb); replace BK581 := am_ (blk_below (g := gb581) (o := .cells #[.int .i64 ((rd_T39 l0_2 x9_1).f0), .int .i64 ((rd_T39 l0_2 x9_1).f1), .string ((rd_T39 l0_2 x9_1).f2), .int .i64 ((rd_T39 l0_2 x9_1).f3)] 39 (0, 0)) (bpZ BK581) hb); replace HB := (bsZ (Zu GE579 GE581) hb); clear hb) | ((with_reducible refine gate_builtin (b := .append) (xs := #[.tmp 13, .tmp 17]) rfl ?_); at_builtin; refine Kd.R_append (Kd.int .i64) (w0 := w) w.heap.size rfl (.tmp 13) (.tmp 17) 33 2 (.int .i64 0) 8 rfl Try.underlying33 info2 rfl (by decide) (by omega) u3 x3_1 t582 [.int .i64 t582] (fun _ => True) (fun _ => False) rfl rfl ?aP (fun _ hk => hk.elim) ?aF ?aO ?aB ?aS ?aL ?_; (case aP => exact rfl); (case aB => exact (Zu GE579 GE581)); (case aF => exact (fun _ _ => trivial)); (case aO => exact (Zz HO_3)); (case aS => exact (below_size (Zu GE579 GE581))); (case aL => have := LMc8.out; omega); intro v584 w14 ho hb hg hat; rw [← Ny583.out] at ho; replace BK579 := am_ (blk_grown (g := gb579) (b0Z BK579) hg (Kd.R_ne HO_3.out BK579.out (by decide))); replace BK581 := am_ (blk_grown (g := gb581) (b0Z BK581) hg (Kd.R_ne HO_3.out BK581.out (by decide))); replace HB := am_ (hb); replace HO585 := am_ (ho); clear HO_3; clear ho hb hg hat))
       go_roundg k1
       case measure => have := HK1.out; omega
       case rel => exact ⟨(y583), (wrap64 (x9_1 + 1)), Za, H', ⟨Zi⟩, ⟨(Zz HO585)⟩, ⟨(Zd BK579)⟩, ⟨(Zu GE579 GE581)⟩⟩
      ·rw [if_neg c8] at H
       exact absurd H (by simp)
     ·rw [if_neg c6] at H
      exact absurd H (by simp)
    ·rw [if_neg c5] at H
     exact absurd H (by simp)
   ·rw [if_neg c4] at H
    have c4b0 := decide_eq_false c4; clear c4; obtain rfl := Option.some.inj H
    go_wp2
    go_ret
    exact ⟨_, Zj, (Zz HO_3), (Ze GE579)⟩
def impl_copyList.f (l0 : List Int) : Option (List Int) := (some (([] : List Int) : List Int)).bind fun y586 => (if y586.length + l0.length < 17592186044416 then (some (y586 ++ l0)) else (none))
set_option maxHeartbeats 8000000 in
set_option maxRecDepth 100000 in
theorem impl_copyList.calls (A0 : Option Addr) (c0 : Nat) (l0 : List Int) (r : List Int) (w : World) (hr0 : Kd.C (Kd.int .i64) w A0 l0.length l0) (hc0 : l0.length ≤ c0) (h : impl_copyList.f l0 = some r) :
  Calls Try.prog 87 #[.slice A0 l0.length c0] w fun e w' => ∃ v0_ : Value, e = .returned (v0_) ∧ Kd.R (Kd.int .i64) 2 w' w.heap.size (fun _ => True) v0_ r ∧ Below w.heap.size w w' := by
 have HR0 := am_ hr0; have HC0 := am_ hc0; clear hr0 hc0; have HB := am_ (Below.refl w.heap.size w); have H : ((some (([] : List Int) : List Int)).bind fun y586 => (if y586.length + l0.length < 17592186044416 then (some (y586 ++ l0)) else (none))) = some r := h; clear h; obtain ⟨y586, hy586⟩ : ∃ y_ : List Int, y_ = (([] : List Int)) := ⟨_, rfl⟩
 replace H : (if y586.length + l0.length < 17592186044416 then (some (y586 ++ l0)) else (none)) = some r := by (try rw [hy586]); first | with_reducible exact H | with_reducible exact (Option.bind_some _ _).symm.trans H | exact H
 have Ny586 := am_ hy586; clear hy586
 by_cases c2 : y586.length + l0.length < 17592186044416
 ·rw [if_pos c2] at H
  have LMc2 := am_ c2; clear c2; obtain ⟨y589, hy589⟩ : ∃ y_ : List Int, y_ = (y586 ++ l0) := ⟨_, rfl⟩
  (first | (rw [← hy589] at H; with_reducible replace H := bindZ H) | rw [← hy589] at H)
  have Ny589 := am_ hy589; clear hy589; obtain rfl := Option.some.inj H
  go_enter Try.func87, Try.ntmps87
  go_wp2_with (first | ((with_reducible refine gate_dst (N := 3) rfl ?_); refine Kd.R_lit (Kd.int .i64) _ 2 ?hg (N := 3) ?hd (xs := ([] : List Int)) (inner := []) (ok := fun _ => True) (okp := fun _ => True) ?hr ?hp (fun _ hk => hk) trivial (Below.refl _ _) (Nat.le_refl _) (by simp) ?_; (case hd => rfl); (case hg => rfl); (case hr => first | (go_simp; done) | (go_simp; rfl)); (case hp => exact (Reps.none _ _)); intro v587 w3 ho4 hb hg_ hnew_; clear hg_ hnew_; (first | rw [← Ny586.out] at ho4 | (simp only [Int.reduceToNat] at ho4; rw [← Ny586.out] at ho4)); replace HO588 := am_ (Kd.R_lower ho4 (below_size Zc)); replace HB := (bsZ Zc hb); clear hb ho4) | ((with_reducible refine gate_builtin (b := .append) (xs := #[.tmp 3, .tmp 4]) rfl ?_); at_builtin; refine Kd.R_append_rows (Kd.int .i64) (w0 := w) w.heap.size rfl (.tmp 3) (.tmp 4) 33 2 (.int .i64 0) 8 rfl Try.underlying33 info2 rfl (by decide) (by omega) v587 y586 l0 _ _ _ (fun _ => True) (fun _ => False) rfl rfl ?aO ?aR (fun _ _ h => h) (fun _ h => h.elim) ?aF ?aB ?aS ?aL ?_; (case aR => repeat (first | exact (Kd.C_below HR0.out HB.out) | (with_reducible refine Kd.C_alloc ?_ _) | (with_reducible refine Kd.C_drewN ?_ _) | (with_reducible refine Kd.C_drew ?_))); (case aB => exact Zc); (case aF => exact (fun _ _ => trivial)); (case aO => exact (Zz HO588)); (case aS => exact (below_size Zc)); (case aL => have := LMc2.out; omega); intro v590 w5 ho hb hg hat; rw [← Ny589.out] at ho; replace HB := am_ (hb); replace HO591 := am_ (ho); clear HO588; clear ho hb hg hat))
  go_ret
  exact ⟨_, Zj, (Zz HO591), Zc⟩
 ·rw [if_neg c2] at H
  exact absurd H (by simp)
mutual
def impl_sorted.l0 : Nat → List Int → Int → Int → Option (List Int)
 | 0, _, _, _ => none
 | k + 1, x3, x10, x11 => if x11 < x10 then (impl_sorted.l1 k x3 x11 x10 x11) else (some x3)
def impl_sorted.l1 : Nat → List Int → Int → Int → Int → Option (List Int)
 | 0, _, _, _, _ => none
 | k + 1, x3, x5, x10, x11 => if x5 > 0 then (if 0 ≤ (wrap64 (x5 - 1)) then (if (wrap64 (x5 - 1)) < (x3.length : Int) then (if 0 ≤ x5 then (if x5 < (x3.length : Int) then (if (rd x3 (wrap64 (x5 - 1))) > (rd x3 x5) then (impl_sorted.l1 k ((x3.set (x5 : Int).toNat (rd x3 (wrap64 (x5 - 1)))).set ((wrap64 (x5 - 1)) : Int).toNat (rd x3 x5)) (wrap64 (x5 - 1)) x10 x11) else (impl_sorted.l0 k x3 x10 (wrap64 (x11 + 1)))) else (none)) else (none)) else (none)) else (none)) else (impl_sorted.l0 k x3 x10 (wrap64 (x11 + 1)))
end
def impl_sorted.f (k : Nat) (l0 : List Int) : Option (List Int) := (impl_copyList.f l0).bind fun t592 => (impl_sorted.l0 k t592 (t592.length : Int) 0)
set_option maxHeartbeats 8000000 in
set_option maxRecDepth 100000 in
theorem impl_sorted.calls (k : Nat) (A0 : Option Addr) (c0 : Nat) (l0 : List Int) (r : List Int) (w : World) (hr0 : Kd.C (Kd.int .i64) w A0 l0.length l0) (hc0 : l0.length ≤ c0) (h : impl_sorted.f k l0 = some r) :
  Calls Try.prog 55 #[.slice A0 l0.length c0] w fun e w' => ∃ v0_ : Value, e = .returned (v0_) ∧ Kd.R (Kd.int .i64) 2 w' w.heap.size (fun _ => True) v0_ r ∧ Below w.heap.size w w' := by
 have HR0 := am_ hr0; have HC0 := am_ hc0; clear hr0 hc0; have HB := am_ (Below.refl w.heap.size w); have H : ((impl_copyList.f l0).bind fun t592 => (impl_sorted.l0 k t592 (t592.length : Int) 0)) = some r := h; clear h; replace H := Option.bind_eq_some_iff.mp H; obtain ⟨t592, A20, H⟩ := H; have A2 := am_ A20; clear A20; have H' := am_ H; clear H
 go_enter Try.func55, Try.ntmps55
 go_wp2_with (first | (go_at_call 87; (with_reducible refine (impl_copyList.calls _ _ l0 t592 _ ?_ ?_ A2.out).mono ?_); exact (Zcn HR0); exact HC0.out; rintro e w3 ⟨v593, rfl, ho0, hb⟩; replace HO594 := am_ (Kd.R_lower ho0 (below_size Zc)); replace HB := (bsZ Zc hb); clear hb ho0; obtain ⟨Ao4, co4, eo4⟩ := Kd.R_slice HO594.out; subst eo4))
 repeat (go_quiet (first | (go_at_call 87; (with_reducible refine (impl_copyList.calls _ _ l0 t592 _ ?_ ?_ A2.out).mono ?_); exact (Zcn HR0); exact HC0.out; rintro e w3 ⟨v593, rfl, ho0, hb⟩; replace HO594 := am_ (Kd.R_lower ho0 (below_size Zc)); replace HB := (bsZ Zc hb); clear hb ho0; obtain ⟨Ao4, co4, eo4⟩ := Kd.R_slice HO594.out; subst eo4)); try go_wp2_with (first | (go_at_call 87; (with_reducible refine (impl_copyList.calls _ _ l0 t592 _ ?_ ?_ A2.out).mono ?_); exact (Zcn HR0); exact HC0.out; rintro e w3 ⟨v593, rfl, ho0, hb⟩; replace HO594 := am_ (Kd.R_lower ho0 (below_size Zc)); replace HB := (bsZ Zc hb); clear hb ho0; obtain ⟨Ao4, co4, eo4⟩ := Kd.R_slice HO594.out; subst eo4)))
 go_loopg [11] k (fun kq v11 w' => ∃ (x3_1 : List Int) (x11_1 : Int), v11 = .int .i64 x11_1 ∧ Aside0 (impl_sorted.l0 kq x3_1 (t592.length : Int) x11_1 = some r) ∧ Aside0 (kq ≤ k) ∧ Aside0 (Kd.R (Kd.int .i64) 2 w' w.heap.size (fun _ => True) (.slice Ao4 t592.length co4) x3_1) ∧ Aside0 (Below w.heap.size w w'))
 case atStart => exact ⟨(t592), (0), Za, H', ⟨Nat.le_refl _⟩, ⟨(Zz HO594)⟩, ⟨Zc⟩⟩
 case round =>
  clear H'
  try clear p2
  obtain ⟨x3_1, x11_1, rfl, HA, HK1, HO_3, HB⟩ := hrel; have hl3_1 := (Kd.R_reads' HO_3.out).1; rw [hl3_1] at HO_3
  (try simp only [hl3_1])
  cases gk with
  | zero => exact absurd HA.out (by simp [impl_sorted.l0])
  | succ k1 =>
   have H := HA.out; clear HA; simp only [impl_sorted.l0] at H
   by_cases c5 : x11_1 < (t592.length : Int)
   ·rw [if_pos c5] at H
    have c5b0 := decide_eq_true c5; rw [hl3_1] at c5b0; clear c5; have H' := am_ H; clear H
    go_wp2
    repeat (go_quiet (fail); try go_wp2)
    go_loopg [5] k1 (fun kq v5 w' => ∃ (x3_2 : List Int) (x5_2 : Int), v5 = .int .i64 x5_2 ∧ Aside0 (impl_sorted.l1 kq x3_2 x5_2 (t592.length : Int) x11_1 = some r) ∧ Aside0 (kq ≤ k1) ∧ Aside0 (Kd.R (Kd.int .i64) 2 w' w.heap.size (fun _ => True) (.slice Ao4 x3_1.length co4) x3_2) ∧ Aside0 (Below w.heap.size w w'))
    case atStart => exact ⟨(x3_1), (x11_1), Za, H', ⟨Nat.le_refl _⟩, ⟨by (try simp only [hl3_1]); (with_reducible repeat (first | apply Kd.R_alloc | apply Kd.R_drewN | apply Kd.R_drew)); exact HO_3.out⟩, ⟨Zc⟩⟩
    case round =>
     clear H'
     try clear p2
     try clear c5
     try clear c5b0
     try clear p2
     obtain ⟨x3_2, x5_2, rfl, HA, HK2, HO_3, HB⟩ := hrel; have hl3_2 := (Kd.R_reads' HO_3.out).1; rw [hl3_2] at HO_3
     (try simp only [hl3_2])
     cases gk with
     | zero => exact absurd HA.out (by simp [impl_sorted.l1])
     | succ k2 =>
      have H := HA.out; clear HA; simp only [impl_sorted.l1] at H
      by_cases c6 : x5_2 > 0
      ·rw [if_pos c6] at H
       have c6b0 : decide (0 < x5_2) = true := decide_eq_true c6; clear c6; obtain ⟨ji7, hji7⟩ : ∃ j_ : Int, (wrap64 (x5_2 - 1)) = j_ := ⟨_, rfl⟩
       replace H : (if 0 ≤ (ji7) then (if (ji7) < (x3_2.length : Int) then (if 0 ≤ x5_2 then (if x5_2 < (x3_2.length : Int) then (if (rd x3_2 (ji7)) > (rd x3_2 x5_2) then (impl_sorted.l1 k2 ((x3_2.set (x5_2 : Int).toNat (rd x3_2 (ji7))).set ((ji7) : Int).toNat (rd x3_2 x5_2)) ji7 (t592.length : Int) x11_1) else (impl_sorted.l0 k2 x3_2 (t592.length : Int) (wrap64 (x11_1 + 1)))) else (none)) else (none)) else (none)) else (none)) = some r := by first | (rw [hji7] at H; exact H) | (simp only [hji7] at H ⊢; exact H)
       have hji7w : (IntKind.i64.wrap (x5_2 - 1)) = ji7 := (i64_w _).trans hji7
       by_cases c8 : 0 ≤ (ji7)
       ·rw [if_pos c8] at H
        have c8b0 := decide_eq_true c8; clear c8
        by_cases c9 : (ji7) < (x3_2.length : Int)
        ·rw [if_pos c9] at H
         have c9b0 := decide_eq_true c9; clear c9
         by_cases c10 : 0 ≤ x5_2
         ·rw [if_pos c10] at H
          have c10b0 := decide_eq_true c10; clear c10
          by_cases c11 : x5_2 < (x3_2.length : Int)
          ·rw [if_pos c11] at H
           have c11b0 := decide_eq_true c11; clear c11
           by_cases c12 : (rd x3_2 (ji7)) > (rd x3_2 x5_2)
           ·rw [if_pos c12] at H
            have c12b0 : decide ((rd x3_2 x5_2) < (rd x3_2 (ji7))) = true := decide_eq_true c12; clear c12; obtain ⟨y599, hy599⟩ : ∃ y_ : List Int, y_ = (x3_2.set (x5_2 : Int).toNat (rd x3_2 (ji7))) := ⟨_, rfl⟩
            (first | (rw [← hy599] at H; with_reducible replace H := bindZ H) | rw [← hy599] at H)
            have Ny599 := am_ hy599; clear hy599; obtain ⟨y600, hy600⟩ : ∃ y_ : List Int, y_ = (y599.set ((ji7) : Int).toNat (rd x3_2 x5_2)) := ⟨_, rfl⟩
            (first | (rw [← hy600] at H; with_reducible replace H := bindZ H) | rw [← hy600] at H)
            have Ny600 := am_ hy600; clear hy600; have H' := am_ H; clear H; have p595 : 0 ≤ ((ji7) : Int) := of_decide_eq_true Zg; have q595 : (ji7) < (x3_2.length : Int) := of_decide_eq_true Zg; obtain ⟨ad595, e595, hx595_0⟩ := Kd.at_int (Kd.R_reads' HO_3.out).2.2 (ji7) p595 q595
            cases e595
            replace p595 := eq_true p595; replace q595 := eq_true q595; have p596 : 0 ≤ (x5_2 : Int) := of_decide_eq_true Zg; have q596 : x5_2 < (x3_2.length : Int) := of_decide_eq_true Zg; obtain ⟨ad596, e596, hx596_0⟩ := Kd.at_int (Kd.R_reads' HO_3.out).2.2 x5_2 p596 q596; obtain rfl : ad595 = ad596 := (by injection e596); replace p596 := eq_true p596; replace q596 := eq_true q596; have p597 : 0 ≤ (x5_2 : Int) := of_decide_eq_true Zg; have q597 : x5_2 < (x3_2.length : Int) := of_decide_eq_true Zg; obtain ⟨ad597, e597, hx597_0⟩ := Kd.at_int (Kd.R_reads' HO_3.out).2.2 x5_2 p597 q597; obtain rfl : ad595 = ad597 := (by injection e597); replace p597 := eq_true p597; replace q597 := eq_true q597; have p598 : 0 ≤ ((ji7) : Int) := of_decide_eq_true Zg; have q598 : (ji7) < (x3_2.length : Int) := of_decide_eq_true Zg; obtain ⟨ad598, e598, hx598_0⟩ := Kd.at_int (Kd.R_reads' HO_3.out).2.2 (ji7) p598 q598; obtain rfl : ad595 = ad598 := (by injection e598); replace p598 := eq_true p598; replace q598 := eq_true q598; have p13 : 0 ≤ (x5_2 : Int) := of_decide_eq_true Zg; have q13 : (x5_2 : Int) < ((x3_2.length : Int) : Int) := of_decide_eq_true Zg; obtain ⟨go13, co13, eo13, gb13, gl13, cl13, HG13⟩ := Kd.R_form HO_3.out (by omega)
            (first | cases eo13 | (injection eo13 with ea_ en_ ec_; (first | subst ea_ | (injection ea_ with ea_; subst ea_)); subst ec_; clear en_))
            have GB13 := am_ gb13; have GG13 := am_ HG13; clear gb13 gl13 HG13
            (first | simp only [add_plain] at hx595_0 | skip)
            (first | simp only [add_plain] at hx596_0 | skip)
            (first | simp only [add_plain] at hx597_0 | skip)
            (first | simp only [add_plain] at hx598_0 | skip)
            have HP15 := Kd.R_putg HO_3.out (x5_2 : Int) (rd x3_2 (ji7))
            go_wp2_with (first | ((with_reducible refine gate_store (t := 2) (p := 42) rfl ?_); (try (rw [drewN_self wr]; generalize hq_ : World.drewN wr _ = wr; replace HO_3 := am_ (Kd.R_at hq_ HO_3.out); replace HB := am_ (below_at hq_ HB.out); clear hq_; (try (have HP15 := Kd.R_putg HO_3.out (x5_2 : Int) (rd x3_2 (ji7)))))); obtain ⟨hx13_0, hf13_0⟩ := Kd.R_celln 0 HO_3.out (x5_2 : Int) (of_decide_eq_true Zg) (of_decide_eq_true Zg); refine store_event (t := 2) (p := 42) (v := ?vo_w16) (w1 := (wr.setCell ⟨go13, (x5_2 : Int).toNat, none⟩ (.int .i64 (rd x3_2 (ji7))))) ?hg ?ho ?hn ?hr ?_; (case ho => rfl); (case hg => rfl); (case hn => rfl); (case hr => first | (go_simp; done) | (go_simp; rfl)); intro w16 hw; have hg : wr.grownBy w16 (some go13) := (by rw [hw]; exact HP15.2); have hp_ : Kd.R (Kd.int .i64) 2 w16 w.heap.size (fun _ => True) (.slice (some ⟨go13, 0, none⟩) x3_2.length co4) y599 := (by rw [hw, Ny599.out]; exact HP15.1); clear HP15; replace HO_3 := am_ (hp_); replace HB := am_ ((by rw [hw]; exact below_set (HB.out) GB13.out : Below w.heap.size w w16)); clear hg hw hp_) | ((with_reducible refine gate_store (t := 2) (p := 47) rfl ?_); (try (rw [drewN_self w16]; generalize hq_ : World.drewN w16 _ = w16; replace HO_3 := am_ (Kd.R_at hq_ HO_3.out); replace HB := am_ (below_at hq_ HB.out); clear hq_; (try (obtain ⟨hy17_, hz17_⟩ := Kd.R_celln 0 HO_3.out ((ji7) : Int) (of_decide_eq_true Zg) (of_decide_eq_true Zg))); (try (have HP17 := Kd.R_putg HO_3.out ((ji7) : Int) (rd x3_2 x5_2))))); have p14 : 0 ≤ ((ji7) : Int) := of_decide_eq_true Zg; have q14 : ((ji7) : Int) < ((x3_2.length : Int) : Int) := of_decide_eq_true Zg; obtain ⟨hx14_0, hf14_0⟩ := Kd.R_celln 0 HO_3.out ((ji7) : Int) p14 q14; replace p14 := eq_true p14; replace q14 := eq_true q14; obtain ⟨hy17_, hz17_⟩ := Kd.R_celln 0 HO_3.out ((ji7) : Int) (of_decide_eq_true Zg) (of_decide_eq_true Zg); have HP17 := Kd.R_putg HO_3.out ((ji7) : Int) (rd x3_2 x5_2); refine store_event (t := 2) (p := 47) (v := ?vo_w18) (w1 := (w16.setCell ⟨go13, ((ji7) : Int).toNat, none⟩ (.int .i64 (rd x3_2 x5_2)))) ?hg ?ho ?hn ?hr ?_; (case ho => rfl); (case hg => rfl); (case hn => rfl); (case hr => first | (go_simp; done) | (go_simp; rfl)); intro w18 hw; have hg : w16.grownBy w18 (some go13) := (by rw [hw]; exact HP17.2); have hp_ : Kd.R (Kd.int .i64) 2 w18 w.heap.size (fun _ => True) (.slice (some ⟨go13, 0, none⟩) x3_2.length co4) y600 := (by rw [hw, Ny600.out]; exact HP17.1); clear HP17; replace HO_3 := am_ (hp_); replace HB := am_ ((by rw [hw]; exact below_set (HB.out) GB13.out : Below w.heap.size w w18)); clear hg hw hp_))
            repeat (go_quiet (first | ((with_reducible refine gate_store (t := 2) (p := 42) rfl ?_); (try (rw [drewN_self wr]; generalize hq_ : World.drewN wr _ = wr; replace HO_3 := am_ (Kd.R_at hq_ HO_3.out); replace HB := am_ (below_at hq_ HB.out); clear hq_; (try (have HP15 := Kd.R_putg HO_3.out (x5_2 : Int) (rd x3_2 (ji7)))))); obtain ⟨hx13_0, hf13_0⟩ := Kd.R_celln 0 HO_3.out (x5_2 : Int) (of_decide_eq_true Zg) (of_decide_eq_true Zg); refine store_event (t := 2) (p := 42) (v := ?vo_w16) (w1 := (wr.setCell ⟨go13, (x5_2 : Int).toNat, none⟩ (.int .i64 (rd x3_2 (ji7))))) ?hg ?ho ?hn ?hr ?_; (case ho => rfl); (case hg => rfl); (case hn => rfl); (case hr => first | (go_simp; done) | (go_simp; rfl)); intro w16 hw; have hg : wr.grownBy w16 (some go13) := (by rw [hw]; exact HP15.2); have hp_ : Kd.R (Kd.int .i64) 2 w16 w.heap.size (fun _ => True) (.slice (some ⟨go13, 0, none⟩) x3_2.length co4) y599 := (by rw [hw, Ny599.out]; exact HP15.1); clear HP15; replace HO_3 := am_ (hp_); replace HB := am_ ((by rw [hw]; exact below_set (HB.out) GB13.out : Below w.heap.size w w16)); clear hg hw hp_) | ((with_reducible refine gate_store (t := 2) (p := 47) rfl ?_); (try (rw [drewN_self w16]; generalize hq_ : World.drewN w16 _ = w16; replace HO_3 := am_ (Kd.R_at hq_ HO_3.out); replace HB := am_ (below_at hq_ HB.out); clear hq_; (try (obtain ⟨hy17_, hz17_⟩ := Kd.R_celln 0 HO_3.out ((ji7) : Int) (of_decide_eq_true Zg) (of_decide_eq_true Zg))); (try (have HP17 := Kd.R_putg HO_3.out ((ji7) : Int) (rd x3_2 x5_2))))); have p14 : 0 ≤ ((ji7) : Int) := of_decide_eq_true Zg; have q14 : ((ji7) : Int) < ((x3_2.length : Int) : Int) := of_decide_eq_true Zg; obtain ⟨hx14_0, hf14_0⟩ := Kd.R_celln 0 HO_3.out ((ji7) : Int) p14 q14; replace p14 := eq_true p14; replace q14 := eq_true q14; obtain ⟨hy17_, hz17_⟩ := Kd.R_celln 0 HO_3.out ((ji7) : Int) (of_decide_eq_true Zg) (of_decide_eq_true Zg); have HP17 := Kd.R_putg HO_3.out ((ji7) : Int) (rd x3_2 x5_2); refine store_event (t := 2) (p := 47) (v := ?vo_w18) (w1 := (w16.setCell ⟨go13, ((ji7) : Int).toNat, none⟩ (.int .i64 (rd x3_2 x5_2)))) ?hg ?ho ?hn ?hr ?_; (case ho => rfl); (case hg => rfl); (case hn => rfl); (case hr => first | (go_simp; done) | (go_simp; rfl)); intro w18 hw; have hg : w16.grownBy w18 (some go13) := (by rw [hw]; exact HP17.2); have hp_ : Kd.R (Kd.int .i64) 2 w18 w.heap.size (fun _ => True) (.slice (some ⟨go13, 0, none⟩) x3_2.length co4) y600 := (by rw [hw, Ny600.out]; exact HP17.1); clear HP17; replace HO_3 := am_ (hp_); replace HB := am_ ((by rw [hw]; exact below_set (HB.out) GB13.out : Below w.heap.size w w18)); clear hg hw hp_)); try go_wp2_with (first | ((with_reducible refine gate_store (t := 2) (p := 42) rfl ?_); (try (rw [drewN_self wr]; generalize hq_ : World.drewN wr _ = wr; replace HO_3 := am_ (Kd.R_at hq_ HO_3.out); replace HB := am_ (below_at hq_ HB.out); clear hq_; (try (have HP15 := Kd.R_putg HO_3.out (x5_2 : Int) (rd x3_2 (ji7)))))); obtain ⟨hx13_0, hf13_0⟩ := Kd.R_celln 0 HO_3.out (x5_2 : Int) (of_decide_eq_true Zg) (of_decide_eq_true Zg); refine store_event (t := 2) (p := 42) (v := ?vo_w16) (w1 := (wr.setCell ⟨go13, (x5_2 : Int).toNat, none⟩ (.int .i64 (rd x3_2 (ji7))))) ?hg ?ho ?hn ?hr ?_; (case ho => rfl); (case hg => rfl); (case hn => rfl); (case hr => first | (go_simp; done) | (go_simp; rfl)); intro w16 hw; have hg : wr.grownBy w16 (some go13) := (by rw [hw]; exact HP15.2); have hp_ : Kd.R (Kd.int .i64) 2 w16 w.heap.size (fun _ => True) (.slice (some ⟨go13, 0, none⟩) x3_2.length co4) y599 := (by rw [hw, Ny599.out]; exact HP15.1); clear HP15; replace HO_3 := am_ (hp_); replace HB := am_ ((by rw [hw]; exact below_set (HB.out) GB13.out : Below w.heap.size w w16)); clear hg hw hp_) | ((with_reducible refine gate_store (t := 2) (p := 47) rfl ?_); (try (rw [drewN_self w16]; generalize hq_ : World.drewN w16 _ = w16; replace HO_3 := am_ (Kd.R_at hq_ HO_3.out); replace HB := am_ (below_at hq_ HB.out); clear hq_; (try (obtain ⟨hy17_, hz17_⟩ := Kd.R_celln 0 HO_3.out ((ji7) : Int) (of_decide_eq_true Zg) (of_decide_eq_true Zg))); (try (have HP17 := Kd.R_putg HO_3.out ((ji7) : Int) (rd x3_2 x5_2))))); have p14 : 0 ≤ ((ji7) : Int) := of_decide_eq_true Zg; have q14 : ((ji7) : Int) < ((x3_2.length : Int) : Int) := of_decide_eq_true Zg; obtain ⟨hx14_0, hf14_0⟩ := Kd.R_celln 0 HO_3.out ((ji7) : Int) p14 q14; replace p14 := eq_true p14; replace q14 := eq_true q14; obtain ⟨hy17_, hz17_⟩ := Kd.R_celln 0 HO_3.out ((ji7) : Int) (of_decide_eq_true Zg) (of_decide_eq_true Zg); have HP17 := Kd.R_putg HO_3.out ((ji7) : Int) (rd x3_2 x5_2); refine store_event (t := 2) (p := 47) (v := ?vo_w18) (w1 := (w16.setCell ⟨go13, ((ji7) : Int).toNat, none⟩ (.int .i64 (rd x3_2 x5_2)))) ?hg ?ho ?hn ?hr ?_; (case ho => rfl); (case hg => rfl); (case hn => rfl); (case hr => first | (go_simp; done) | (go_simp; rfl)); intro w18 hw; have hg : w16.grownBy w18 (some go13) := (by rw [hw]; exact HP17.2); have hp_ : Kd.R (Kd.int .i64) 2 w18 w.heap.size (fun _ => True) (.slice (some ⟨go13, 0, none⟩) x3_2.length co4) y600 := (by rw [hw, Ny600.out]; exact HP17.1); clear HP17; replace HO_3 := am_ (hp_); replace HB := am_ ((by rw [hw]; exact below_set (HB.out) GB13.out : Below w.heap.size w w18)); clear hg hw hp_)))
            (try simp only [← hl3_2])
            go_roundg k2
            case measure => have := HK1.out; have := HK2.out; omega
            case rel => exact ⟨(y600), (ji7), (by first | rfl | (simp; done) | (simp only [← hji7] <;> (first | rfl | simp)) | (simp [*]; done)), H', ⟨Zcc⟩, ⟨(Zco HO_3)⟩, ⟨Zc⟩⟩
           ·rw [if_neg c12] at H
            have c12b0 : decide ((rd x3_2 x5_2) < (rd x3_2 (ji7))) = false := decide_eq_false c12; clear c12; have H' := am_ H; clear H; have p595 : 0 ≤ ((ji7) : Int) := of_decide_eq_true Zg; have q595 : (ji7) < (x3_2.length : Int) := of_decide_eq_true Zg; obtain ⟨ad595, e595, hx595_0⟩ := Kd.at_int (Kd.R_reads' HO_3.out).2.2 (ji7) p595 q595
            cases e595
            replace p595 := eq_true p595; replace q595 := eq_true q595; have p596 : 0 ≤ (x5_2 : Int) := of_decide_eq_true Zg; have q596 : x5_2 < (x3_2.length : Int) := of_decide_eq_true Zg; obtain ⟨ad596, e596, hx596_0⟩ := Kd.at_int (Kd.R_reads' HO_3.out).2.2 x5_2 p596 q596; obtain rfl : ad595 = ad596 := (by injection e596); replace p596 := eq_true p596; replace q596 := eq_true q596
            go_wp2
            repeat (go_quiet (fail); try go_wp2)
            (try simp only [← hl3_1, ← hl3_2])
            go_roundg k2
            case measure => have := HK1.out; have := HK2.out; omega
            case rel => exact ⟨(x3_2), (wrap64 (x11_1 + 1)), Za, H', ⟨Zcc⟩, ⟨(Zco HO_3)⟩, ⟨Zc⟩⟩
          ·rw [if_neg c11] at H
           exact absurd H (by simp)
         ·rw [if_neg c10] at H
          exact absurd H (by simp)
        ·rw [if_neg c9] at H
         exact absurd H (by simp)
       ·rw [if_neg c8] at H
        exact absurd H (by simp)
      ·rw [if_neg c6] at H
       have c6b0 : decide (0 < x5_2) = false := decide_eq_false c6; clear c6; have H' := am_ H; clear H
       go_wp2
       repeat (go_quiet (fail); try go_wp2)
       (try simp only [← hl3_1, ← hl3_2])
       go_roundg k2
       case measure => have := HK1.out; have := HK2.out; omega
       case rel => exact ⟨(x3_2), (wrap64 (x11_1 + 1)), Za, H', ⟨Zcc⟩, ⟨(Zco HO_3)⟩, ⟨Zc⟩⟩
   ·rw [if_neg c5] at H
    have c5b0 := decide_eq_false c5; rw [hl3_1] at c5b0; clear c5; obtain rfl := Option.some.inj H
    go_wp2
    repeat (go_quiet (fail); try go_wp2)
    go_ret
    exact ⟨_, Zj, (Zz HO_3), Zc⟩
mutual
def impl_BusiestTime.l0 : Nat → Int → List Int → Int → Int → List Int → Int → Int → Option (Int × Int × Int)
 | 0, _, _, _, _, _, _, _ => none
 | k + 1, x1, x7, x8, x9, x24, x25, x26 => if x26 < x25 then (if 0 ≤ x26 then (if x26 < (x24.length : Int) then (impl_BusiestTime.l1 k x1 x7 x8 x9 (rd x24 x26) 0 x24 x25 x26 x7 (x7.length : Int) 0) else (none)) else (none)) else (if x9 = 0 then (some (0, 0, 4)) else (some (x8, x9, 0)))
def impl_BusiestTime.l1 : Nat → Int → List Int → Int → Int → Int → Int → List Int → Int → Int → List Int → Int → Int → Option (Int × Int × Int)
 | 0, _, _, _, _, _, _, _, _, _, _, _, _ => none
 | k + 1, x1, x7, x8, x9, x11, x12, x24, x25, x26, x30, x31, x32 => if x32 < x31 then (if 0 ≤ x32 then (if x32 < (x30.length : Int) then (if (rd x30 x32) ≥ x11 then (if (rd x30 x32) < (wrap64 (x11 + x1)) then (impl_BusiestTime.l1 k x1 x7 x8 x9 x11 (wrap64 (x12 + 1)) x24 x25 x26 x30 x31 (wrap64 (x32 + 1))) else (impl_BusiestTime.l1 k x1 x7 x8 x9 x11 x12 x24 x25 x26 x30 x31 (wrap64 (x32 + 1)))) else (impl_BusiestTime.l1 k x1 x7 x8 x9 x11 x12 x24 x25 x26 x30 x31 (wrap64 (x32 + 1)))) else (none)) else (none)) else (if x12 > x9 then (impl_BusiestTime.l0 k x1 x7 x11 x12 x24 x25 (wrap64 (x26 + 1))) else (impl_BusiestTime.l0 k x1 x7 x8 x9 x24 x25 (wrap64 (x26 + 1))))
end
def impl_BusiestTime.f (k : Nat) (l0_0 : List (S104)) (l0_1 : List (S62)) (l0_2 : List (S39)) (a1 : Int) : Option (Int × Int × Int) := (impl_IsShow.f k l0_0 l0_1 l0_2).bind fun t602 => (if t602 = true then ((impl_within.f a1 1 10000000).bind fun t603 => (if t603 = true then ((impl_fireTimes.f k l0_0 l0_1 l0_2).bind fun t604 => ((impl_sorted.f k t604).bind fun t607 => (impl_BusiestTime.l0 k a1 t604 0 0 t607 (t607.length : Int) 0))) else (some (0, 0, 2)))) else (some (0, 0, 1)))
set_option maxHeartbeats 8000000 in
set_option maxRecDepth 100000 in
theorem impl_BusiestTime.calls (k : Nat) (A0_0 : Option Addr) (c0_0 : Nat) (l0_0 : List (S104)) (A0_1 : Option Addr) (c0_1 : Nat) (l0_1 : List (S62)) (A0_2 : Option Addr) (c0_2 : Nat) (l0_2 : List (S39)) (a1 : Int) (r1 : Int) (r2 : Int) (r3 : Int) (w : World) (hr0_0 : Kd.C k104 w A0_0 l0_0.length l0_0) (hc0_0 : l0_0.length ≤ c0_0) (hr0_1 : Kd.C k62 w A0_1 l0_1.length l0_1) (hc0_1 : l0_1.length ≤ c0_1) (hr0_2 : Kd.C k39 w A0_2 l0_2.length l0_2) (hc0_2 : l0_2.length ≤ c0_2) (h : impl_BusiestTime.f k l0_0 l0_1 l0_2 a1 = some (r1, r2, r3)) :
  Calls Try.prog 10 #[.agg #[.slice A0_0 l0_0.length c0_0, .slice A0_1 l0_1.length c0_1, .slice A0_2 l0_2.length c0_2], .int .i64 a1] w fun e w' => e = .returned (.tuple #[.int .i64 r1, .int .i64 r2, .int .i64 r3]) ∧ Below w.heap.size w w' := by
 have hu28 := Try.underlying28; have HR0_0 := am_ hr0_0; have HC0_0 := am_ hc0_0; clear hr0_0 hc0_0; have HR0_1 := am_ hr0_1; have HC0_1 := am_ hc0_1; clear hr0_1 hc0_1; have HR0_2 := am_ hr0_2; have HC0_2 := am_ hc0_2; clear hr0_2 hc0_2; have HB := am_ (Below.refl w.heap.size w); have H : ((impl_IsShow.f k l0_0 l0_1 l0_2).bind fun t602 => (if t602 = true then ((impl_within.f a1 1 10000000).bind fun t603 => (if t603 = true then ((impl_fireTimes.f k l0_0 l0_1 l0_2).bind fun t604 => ((impl_sorted.f k t604).bind fun t607 => (impl_BusiestTime.l0 k a1 t604 0 0 t607 (t607.length : Int) 0))) else (some (0, 0, 2)))) else (some (0, 0, 1)))) = some (r1, r2, r3) := h; clear h; replace H := Option.bind_eq_some_iff.mp H; obtain ⟨t602, A30, H⟩ := H; have A3 := am_ A30; clear A30; have HS_ := am_ H; clear H
 go_enter Try.func10, Try.ntmps10
 go_wp2_with (first | ((with_reducible refine gate_dst (N := 2) rfl ?_); refine boxZ 2 #[.slice A0_0 l0_0.length c0_0, .slice A0_1 l0_1.length c0_1, .slice A0_2 l0_2.length c0_2] 28 ?_; intro gb601 hg w9 hbox hb; replace BK601 := am_ (hbox); replace GW601 := am_ ((Zp : w.heap.size ≤ gb601)); replace GE601 := GW601; replace HB := (bsZ Zc hb); clear hb hbox hg; refine ci3 BK601 ?_; intros) | ((with_reducible refine gate_callee (f := 25) rfl ?_); refine gZ 16 Try.func25 #[.agg #[.slice A0_0 l0_0.length c0_0, .slice A0_1 l0_1.length c0_1, .slice A0_2 l0_2.length c0_2]] ?_; (with_reducible refine (impl_IsShow.calls k _ _ l0_0 _ _ l0_1 _ _ l0_2 t602 _ ?_ ?_ ?_ ?_ ?_ ?_ A3.out).mono ?_); exact (Zs HR0_0); exact HC0_0.out; exact (Zs HR0_1); exact HC0_1.out; exact (Zs HR0_2); exact HC0_2.out; rintro e w11 ⟨rfl, hb⟩; refine ⟨_, rfl, ?_⟩; replace BK601 := (bkZ BK601 hb); replace HB := (bsZ (Ze GE601) hb); clear hb; refine ?roundEnd))
 case roundEnd =>
  by_cases c4 : t602 = true
  ·have H := HS_.out
   clear HS_; subst c4
   have H1 : ((impl_within.f a1 1 10000000).bind fun t603 => (if t603 = true then ((impl_fireTimes.f k l0_0 l0_1 l0_2).bind fun t604 => ((impl_sorted.f k t604).bind fun t607 => (impl_BusiestTime.l0 k a1 t604 0 0 t607 (t607.length : Int) 0))) else (some (0, 0, 2)))) = some (r1, r2, r3) := by rw [if_pos rfl] at H; exact H
   clear H; have H := H1; clear H1; replace H := Option.bind_eq_some_iff.mp H; obtain ⟨t603, A50, H⟩ := H; have A5 := am_ A50; clear A50; have HS_ := am_ H; clear H
   by_cases c6 : t603 = true
   ·have H := HS_.out
    clear HS_; subst c6
    have H1 : ((impl_fireTimes.f k l0_0 l0_1 l0_2).bind fun t604 => ((impl_sorted.f k t604).bind fun t607 => (impl_BusiestTime.l0 k a1 t604 0 0 t607 (t607.length : Int) 0))) = some (r1, r2, r3) := by rw [if_pos rfl] at H; exact H
    clear H; have H := H1; clear H1; replace H := Option.bind_eq_some_iff.mp H; obtain ⟨t604, A70, H⟩ := H; have A7 := am_ A70; clear A70; replace H := Option.bind_eq_some_iff.mp H; obtain ⟨t607, A80, H⟩ := H; have A8 := am_ A80; clear A80; have H' := am_ H; clear H
    go_wp2_with (first | ((with_reducible refine gate_callee (f := 53) rfl ?_); refine gZ 19 Try.func53 #[.int .i64 a1, .int .i64 1, .int .i64 10000000] ?_; (with_reducible refine (impl_within.calls a1 1 10000000 true _ A5.out).mono ?_); rintro e w' ⟨rfl, ⟨nd, rfl⟩⟩; refine ⟨_, rfl, ?_⟩; refine ci3 BK601 ?_; intros) | ((with_reducible refine gate_callee (f := 54) rfl ?_); refine gZ 22 Try.func54 #[.agg #[.slice A0_0 l0_0.length c0_0, .slice A0_1 l0_1.length c0_1, .slice A0_2 l0_2.length c0_2]] ?_; (with_reducible refine (impl_fireTimes.calls k _ _ l0_0 _ _ l0_1 _ _ l0_2 t604 _ ?_ ?_ ?_ ?_ ?_ ?_ A7.out).mono ?_); exact (Zv HR0_0 GE601); exact HC0_0.out; exact (Zv HR0_1 GE601); exact HC0_1.out; exact (Zv HR0_2 GE601); exact HC0_2.out; rintro e w13 ⟨v605, rfl, ho0, hb⟩; refine ⟨_, rfl, ?_⟩; replace HO606 := am_ (Kd.R_lower ho0 (below_size (Ze GE601))); replace BK601 := (bkZ BK601 hb); replace HB := (bsZ (Ze GE601) hb); clear hb ho0; obtain ⟨Ao14, co14, eo14⟩ := Kd.R_slice HO606.out; subst eo14) | ((with_reducible refine gate_callee (f := 55) rfl ?_); refine gZ 24 Try.func55 #[.slice Ao14 t604.length co14] ?_; (with_reducible refine (impl_sorted.calls k _ _ t604 t607 _ ?_ ?_ A8.out).mono ?_); exact (Zap HO606); exact (Kd.R_reads' HO606.out).2.1; rintro e w15 ⟨v608, rfl, ho0, hb⟩; refine ⟨_, rfl, ?_⟩; replace HO609 := am_ (Kd.R_lower (Kd.R_new' ho0 (Kd.R_lt (Zz HO606))) (below_size (Ze GE601))); replace HO606 := am_ (Kd.R_elder' (Zz HO606) (Kd.R_base ho0) hb); replace BK601 := (bkZ BK601 hb); replace HB := (bsZ (Ze GE601) hb); clear hb ho0; obtain ⟨Ao16, co16, eo16⟩ := Kd.R_slice HO609.out; subst eo16))
    go_loopg [8, 9, 26] k (fun kq v8 v9 v26 w' => ∃ (x8_1 : Int) (x9_1 : Int) (x26_1 : Int), v8 = .int .i64 x8_1 ∧ v9 = .int .i64 x9_1 ∧ v26 = .int .i64 x26_1 ∧ Aside0 (impl_BusiestTime.l0 kq a1 t604 x8_1 x9_1 t607 (t607.length : Int) x26_1 = some (r1, r2, r3)) ∧ Aside0 (kq ≤ k) ∧ Aside0 (Kd.R (Kd.int .i64) 2 w' w.heap.size (fun k_ => some k_ ≠ ((.slice Ao16 t607.length co16) : Value).ownBlock) (.slice Ao14 t604.length co14) t604) ∧ Aside0 (Kd.R (Kd.int .i64) 2 w' w.heap.size (fun k_ => some k_ ≠ ((.slice Ao14 t604.length co14) : Value).ownBlock) (.slice Ao16 t607.length co16) t607) ∧ Aside0 (w'.heap[gb601]? = some (.cells #[(.slice A0_0 l0_0.length c0_0), (.slice A0_1 l0_1.length c0_1), (.slice A0_2 l0_2.length c0_2)] 28 (0, 0))) ∧ Aside0 (Below w.heap.size w w'))
    case atStart => exact ⟨(0), (0), (0), Za, Za, Za, H', ⟨Nat.le_refl _⟩, ⟨(Zai HO606)⟩, ⟨(Zai HO609)⟩, ⟨(Zd BK601)⟩, ⟨(Ze GE601)⟩⟩
    case round =>
     clear H'
     try clear c1
     try clear c2
     try clear p2
     try clear c4
     try clear c5
     try clear c6
     try clear c10
     obtain ⟨x8_1, x9_1, x26_1, rfl, rfl, rfl, HA, HK1, HO_7, HO_24, BK601, HB⟩ := hrel
     cases gk with
     | zero => exact absurd HA.out (by simp [impl_BusiestTime.l0])
     | succ k1 =>
      have H := HA.out; clear HA; simp only [impl_BusiestTime.l0] at H
      by_cases c17 : x26_1 < (t607.length : Int)
      ·rw [if_pos c17] at H
       have c17b0 := decide_eq_true c17; clear c17
       by_cases c18 : 0 ≤ x26_1
       ·rw [if_pos c18] at H
        have c18b0 := decide_eq_true c18; clear c18
        by_cases c19 : x26_1 < (t607.length : Int)
        ·rw [if_pos c19] at H
         have c19b0 := decide_eq_true c19; clear c19; have H' := am_ H; clear H; have p610 : 0 ≤ (x26_1 : Int) := of_decide_eq_true Zg; have q610 : x26_1 < (t607.length : Int) := of_decide_eq_true Zg; obtain ⟨ad610, e610, hx610_0⟩ := Kd.at_int (Kd.R_reads' HO_24.out).2.2 x26_1 p610 q610
         cases e610
         replace p610 := eq_true p610; replace q610 := eq_true q610
         go_wp2
         go_loopg [12, 32] k1 (fun kq v12 v32 w' => ∃ (x12_2 : Int) (x32_2 : Int), v12 = .int .i64 x12_2 ∧ v32 = .int .i64 x32_2 ∧ Aside0 (impl_BusiestTime.l1 kq a1 t604 x8_1 x9_1 (rd t607 x26_1) x12_2 t607 (t607.length : Int) x26_1 t604 (t604.length : Int) x32_2 = some (r1, r2, r3)) ∧ Aside0 (kq ≤ k1) ∧ Aside0 (Kd.R (Kd.int .i64) 2 w' w.heap.size (fun k_ => some k_ ≠ ((.slice (some ad610) t607.length co16) : Value).ownBlock) (.slice Ao14 t604.length co14) t604) ∧ Aside0 (Kd.R (Kd.int .i64) 2 w' w.heap.size (fun k_ => some k_ ≠ ((.slice Ao14 t604.length co14) : Value).ownBlock ∧ some k_ ≠ ((.slice Ao14 t604.length co14) : Value).ownBlock) (.slice (some ad610) t607.length co16) t607) ∧ Aside0 (Kd.R (Kd.int .i64) 2 w' w.heap.size (fun k_ => some k_ ≠ ((.slice (some ad610) t607.length co16) : Value).ownBlock) (.slice Ao14 t604.length co14) t604) ∧ Aside0 (w'.heap[gb601]? = some (.cells #[(.slice A0_0 l0_0.length c0_0), (.slice A0_1 l0_1.length c0_1), (.slice A0_2 l0_2.length c0_2)] 28 (0, 0))) ∧ Aside0 (Below w.heap.size w w'))
         case atStart => exact ⟨(0), (0), Za, Za, H', ⟨Nat.le_refl _⟩, ⟨(Zz HO_7)⟩, ⟨by (with_reducible repeat (first | apply Kd.R_alloc | apply Kd.R_drewN | apply Kd.R_drew)); exact Kd.R_mono HO_24.out (fun _ hk => ⟨hk, hk⟩)⟩, ⟨(Zz HO_7)⟩, ⟨(Zd BK601)⟩, ⟨(Ze GE601)⟩⟩
         case round =>
          clear H'
          try clear c1
          try clear c2
          try clear p2
          try clear c4
          try clear c5
          try clear c6
          try clear p6
          try clear q6
          try clear hx6
          try clear c10
          try clear c17
          try clear c17b0
          try clear c18
          try clear c18b0
          try clear c19
          try clear c19b0
          try clear hx610_0
          try clear p2
          try clear p610
          try clear q610
          obtain ⟨x12_2, x32_2, rfl, rfl, HA, HK2, HO_7, HO_24, HO_30, BK601, HB⟩ := hrel
          cases gk with
          | zero => exact absurd HA.out (by simp [impl_BusiestTime.l1])
          | succ k2 =>
           have H := HA.out; clear HA; simp only [impl_BusiestTime.l1] at H
           by_cases c20 : x32_2 < (t604.length : Int)
           ·rw [if_pos c20] at H
            have c20b0 := decide_eq_true c20; clear c20
            by_cases c21 : 0 ≤ x32_2
            ·rw [if_pos c21] at H
             have c21b0 := decide_eq_true c21; clear c21
             by_cases c22 : x32_2 < (t604.length : Int)
             ·rw [if_pos c22] at H
              have c22b0 := decide_eq_true c22; clear c22
              by_cases c23 : (rd t604 x32_2) ≥ (rd t607 x26_1)
              ·rw [if_pos c23] at H
               have c23b0 : decide ((rd t607 x26_1) ≤ (rd t604 x32_2)) = true := decide_eq_true c23; clear c23
               by_cases c24 : (rd t604 x32_2) < (wrap64 ((rd t607 x26_1) + a1))
               ·rw [if_pos c24] at H
                have c24b0 := decide_eq_true c24; clear c24; have H' := am_ H; clear H; have p611 : 0 ≤ (x32_2 : Int) := of_decide_eq_true Zg; have q611 : x32_2 < (t604.length : Int) := of_decide_eq_true Zg; obtain ⟨ad611, e611, hx611_0⟩ := Kd.at_int (Kd.R_reads' HO_30.out).2.2 x32_2 p611 q611
                cases e611
                replace p611 := eq_true p611; replace q611 := eq_true q611
                go_wp2
                go_roundg k2
                case measure => have := HK1.out; have := HK2.out; omega
                case rel => exact ⟨(wrap64 (x12_2 + 1)), (wrap64 (x32_2 + 1)), Za, Za, H', ⟨Zcc⟩, ⟨(Zz HO_7)⟩, ⟨(Zz HO_24)⟩, ⟨(Zz HO_30)⟩, ⟨(Zd BK601)⟩, ⟨(Ze GE601)⟩⟩
               ·rw [if_neg c24] at H
                have c24b0 := decide_eq_false c24; clear c24; have H' := am_ H; clear H; have p611 : 0 ≤ (x32_2 : Int) := of_decide_eq_true Zg; have q611 : x32_2 < (t604.length : Int) := of_decide_eq_true Zg; obtain ⟨ad611, e611, hx611_0⟩ := Kd.at_int (Kd.R_reads' HO_30.out).2.2 x32_2 p611 q611
                cases e611
                replace p611 := eq_true p611; replace q611 := eq_true q611
                go_wp2
                go_roundg k2
                case measure => have := HK1.out; have := HK2.out; omega
                case rel => exact ⟨(x12_2), (wrap64 (x32_2 + 1)), Za, Za, H', ⟨Zcc⟩, ⟨(Zz HO_7)⟩, ⟨(Zz HO_24)⟩, ⟨(Zz HO_30)⟩, ⟨(Zd BK601)⟩, ⟨(Ze GE601)⟩⟩
              ·rw [if_neg c23] at H
               have c23b0 : decide ((rd t607 x26_1) ≤ (rd t604 x32_2)) = false := decide_eq_false c23; clear c23; have H' := am_ H; clear H; have p611 : 0 ≤ (x32_2 : Int) := of_decide_eq_true Zg; have q611 : x32_2 < (t604.length : Int) := of_decide_eq_true Zg; obtain ⟨ad611, e611, hx611_0⟩ := Kd.at_int (Kd.R_reads' HO_30.out).2.2 x32_2 p611 q611
               cases e611
               replace p611 := eq_true p611; replace q611 := eq_true q611
               go_wp2
               go_roundg k2
               case measure => have := HK1.out; have := HK2.out; omega
               case rel => exact ⟨(x12_2), (wrap64 (x32_2 + 1)), Za, Za, H', ⟨Zcc⟩, ⟨(Zz HO_7)⟩, ⟨(Zz HO_24)⟩, ⟨(Zz HO_30)⟩, ⟨(Zd BK601)⟩, ⟨(Ze GE601)⟩⟩
             ·rw [if_neg c22] at H
              exact absurd H (by simp)
            ·rw [if_neg c21] at H
             exact absurd H (by simp)
           ·rw [if_neg c20] at H
            have c20b0 := decide_eq_false c20; clear c20
            by_cases c25 : x12_2 > x9_1
            ·rw [if_pos c25] at H
             have c25b0 : decide (x9_1 < x12_2) = true := decide_eq_true c25; clear c25; have H' := am_ H; clear H
             go_wp2
             go_roundg k2
             case measure => have := HK1.out; have := HK2.out; omega
             case rel => exact ⟨((rd t607 x26_1)), (x12_2), (wrap64 (x26_1 + 1)), Za, Za, Za, H', ⟨Zcc⟩, ⟨(Zz HO_7)⟩, ⟨by (with_reducible repeat (first | apply Kd.R_alloc | apply Kd.R_drewN | apply Kd.R_drew)); exact Kd.R_mono HO_24.out (fun _ hk => hk.1)⟩, ⟨(Zd BK601)⟩, ⟨(Ze GE601)⟩⟩
            ·rw [if_neg c25] at H
             have c25b0 : decide (x9_1 < x12_2) = false := decide_eq_false c25; clear c25; have H' := am_ H; clear H
             go_wp2
             go_roundg k2
             case measure => have := HK1.out; have := HK2.out; omega
             case rel => exact ⟨(x8_1), (x9_1), (wrap64 (x26_1 + 1)), Za, Za, Za, H', ⟨Zcc⟩, ⟨(Zz HO_7)⟩, ⟨by (with_reducible repeat (first | apply Kd.R_alloc | apply Kd.R_drewN | apply Kd.R_drew)); exact Kd.R_mono HO_24.out (fun _ hk => hk.1)⟩, ⟨(Zd BK601)⟩, ⟨(Ze GE601)⟩⟩
        ·rw [if_neg c19] at H
         exact absurd H (by simp)
       ·rw [if_neg c18] at H
        exact absurd H (by simp)
      ·rw [if_neg c17] at H
       have c17b0 := decide_eq_false c17; clear c17
       by_cases c26 : x9_1 = 0
       ·rw [if_pos c26] at H
        have c26b0 := beq_iff_eq.mpr c26; have c26b1 := bne_eq_false_iff_eq.mpr c26; clear c26; simp only [Option.some.injEq, Prod.mk.injEq] at H; obtain ⟨rfl, rfl, rfl⟩ := H
        go_wp2
        go_ret3
        exact ⟨Zj, (Ze GE601)⟩
       ·rw [if_neg c26] at H
        have c26b0 := beq_eq_false_iff_ne.mpr c26; have c26b1 := bne_iff_ne.mpr c26; simp only [Option.some.injEq, Prod.mk.injEq] at H; obtain ⟨rfl, rfl, rfl⟩ := H
        go_wp2
        go_ret3
        exact ⟨Zj, (Ze GE601)⟩
   ·have H := HS_.out
    clear HS_; replace c6 := Bool.eq_false_iff.mpr c6; subst c6
    have H1 : (some (0, 0, 2)) = some (r1, r2, r3) := by rw [if_neg (show ¬ (false = true) by decide)] at H; exact H
    clear H; have H := H1; clear H1; simp only [Option.some.injEq, Prod.mk.injEq] at H; obtain ⟨rfl, rfl, rfl⟩ := H
    go_wp2_with (first | ((with_reducible refine gate_callee (f := 53) rfl ?_); refine gZ 19 Try.func53 #[.int .i64 a1, .int .i64 1, .int .i64 10000000] ?_; (with_reducible refine (impl_within.calls a1 1 10000000 false _ A5.out).mono ?_); rintro e w' ⟨rfl, ⟨nd, rfl⟩⟩; refine ⟨_, rfl, ?_⟩))
    go_ret3
    exact ⟨Zj, (Ze GE601)⟩
  ·have H := HS_.out
   clear HS_; replace c4 := Bool.eq_false_iff.mpr c4; subst c4
   have H1 : (some (0, 0, 1)) = some (r1, r2, r3) := by rw [if_neg (show ¬ (false = true) by decide)] at H; exact H
   clear H; have H := H1; clear H1; simp only [Option.some.injEq, Prod.mk.injEq] at H; obtain ⟨rfl, rfl, rfl⟩ := H
   go_wp2_with (first | fail)
   go_ret3
   exact ⟨Zj, (Ze GE601)⟩
def spec_l08Times.l0 : Nat → List Int → Int → List (S104) → List (S62) → List (S39) → Option (List Int)
 | 0, _, _, _, _, _ => none
 | k + 1, x3, x4, x613000, x613001, x613002 => if x4 < (x613002.length : Int) then (if 0 ≤ x4 then ((spec_l08Time.f k x613000 x613001 x613002 ((rd_T39 x613002 x4).f0) ((rd_T39 x613002 x4).f1) ((rd_T39 x613002 x4).f2) ((rd_T39 x613002 x4).f3)).bind fun t617 => (if x3.length < 17592186044416 then (spec_l08Times.l0 k (x3 ++ [t617]) (wrap64 (x4 + 1)) x613000 x613001 x613002) else (none))) else (none)) else (some x3)
def spec_l08Times.f (k : Nat) (l0_0 : List (S104)) (l0_1 : List (S62)) (l0_2 : List (S39)) : Option (List Int) := spec_l08Times.l0 k (([] : List Int)) 0 l0_0 l0_1 l0_2
def spec_l08Times.T5 : Bool × List (List Nat × List Nat) := (true, [([], []), ([], []), ([], []), ([2], [2]), ([], []), ([3, 4], [3, 4]), ([5], [5]), ([1, 6], [1, 6]), ([7], [7]), ([0, 8, 7], [0, 8]), ([9, 9, 0, 1, 2, 3, 4, 5, 6, 7, 8, 9], [0, 9])])
def spec_l08Times.B5 : List Nat := [0, 0, 0, 4, 0, 28, 60, 126, 254, 511, 1023]
theorem spec_l08Times.tab5 : rtab .any (opsOf Try.f58 5) = spec_l08Times.T5 := by kernel_rfl
theorem spec_l08Times.bits5 : waitsOk spec_l08Times.T5.2 spec_l08Times.B5 = true := by kernel_rfl
set_option maxHeartbeats 8000000 in
set_option maxRecDepth 100000 in
theorem spec_l08Times.calls (k : Nat) (A0_0 : Option Addr) (c0_0 : Nat) (l0_0 : List (S104)) (A0_1 : Option Addr) (c0_1 : Nat) (l0_1 : List (S62)) (A0_2 : Option Addr) (c0_2 : Nat) (l0_2 : List (S39)) (r : List Int) (w : World) (hr0_0 : Kd.C k104 w A0_0 l0_0.length l0_0) (hc0_0 : l0_0.length ≤ c0_0) (hr0_1 : Kd.C k62 w A0_1 l0_1.length l0_1) (hc0_1 : l0_1.length ≤ c0_1) (hr0_2 : Kd.C k39 w A0_2 l0_2.length l0_2) (hc0_2 : l0_2.length ≤ c0_2) (h : spec_l08Times.f k l0_0 l0_1 l0_2 = some r) :
  Calls Try.prog 58 #[.agg #[.slice A0_0 l0_0.length c0_0, .slice A0_1 l0_1.length c0_1, .slice A0_2 l0_2.length c0_2]] w fun e w' => ∃ v0_ : Value, e = .returned (v0_) ∧ Kd.R (Kd.int .i64) 2 w' w.heap.size (fun _ => True) v0_ r ∧ Below w.heap.size w w' := by
 have hu28 := Try.underlying28; have hu39 := Try.underlying39; have HR0_0 := am_ hr0_0; have HC0_0 := am_ hc0_0; clear hr0_0 hc0_0; have HR0_1 := am_ hr0_1; have HC0_1 := am_ hc0_1; clear hr0_1 hc0_1; have HR0_2 := am_ hr0_2; have HC0_2 := am_ hc0_2; clear hr0_2 hc0_2; have HB := am_ (Below.refl w.heap.size w); have H : (spec_l08Times.l0 k (([] : List Int)) 0 l0_0 l0_1 l0_2) = some r := h; clear h; obtain ⟨y613, hy613⟩ : ∃ y_ : List Int, y_ = (([] : List Int)) := ⟨_, rfl⟩
 replace H : (spec_l08Times.l0 k y613 0 l0_0 l0_1 l0_2) = some r := by (try rw [hy613]); first | with_reducible exact H | with_reducible exact (Option.bind_some _ _).symm.trans H | exact H
 have Ny613 := am_ hy613; clear hy613; have H' := am_ H; clear H
 go_enter Try.func58, Try.ntmps58
 go_wp2_with (first | ((with_reducible refine gate_dst (N := 1) rfl ?_); refine boxZ 1 #[.slice A0_0 l0_0.length c0_0, .slice A0_1 l0_1.length c0_1, .slice A0_2 l0_2.length c0_2] 28 ?_; intro gb612 hg w2 hbox hb; replace BK612 := am_ (hbox); replace GW612 := am_ ((Zp : w.heap.size ≤ gb612)); replace GE612 := GW612; replace HB := (bsZ Zc hb); clear hb hbox hg) | ((with_reducible refine gate_dst (N := 5) rfl ?_); refine Kd.R_lit (Kd.int .i64) _ 2 ?hg (N := 5) ?hd (xs := ([] : List Int)) (inner := []) (ok := fun _ => True) (okp := fun _ => True) ?hr ?hp (fun _ hk => hk) trivial (Below.refl _ _) (Nat.le_refl _) (by simp) ?_; (case hd => rfl); (case hg => rfl); (case hr => first | (go_simp; done) | (go_simp; rfl)); (case hp => exact (Reps.none _ _)); intro v614 w3 ho4 hb hg_ hnew_; clear hg_ hnew_; (first | rw [← Ny613.out] at ho4 | (simp only [Int.reduceToNat] at ho4; rw [← Ny613.out] at ho4)); replace HO615 := am_ (Kd.R_lower ho4 (below_size (Ze GE612))); replace BK612 := (bkZ BK612 hb); replace HB := (bsZ (Ze GE612) hb); clear hb ho4))
 go_loopg [3, 4] k (fun kq v3 v4 w' => ∃ (x3_1 : List Int) (x4_1 : Int), v4 = .int .i64 x4_1 ∧ Aside0 (spec_l08Times.l0 kq x3_1 x4_1 l0_0 l0_1 l0_2 = some r) ∧ Aside0 (kq ≤ k) ∧ Aside0 (Kd.R (Kd.int .i64) 2 w' w.heap.size (fun _ => True) v3 x3_1) ∧ Aside0 (w'.heap[gb612]? = some (.cells #[(.slice A0_0 l0_0.length c0_0), (.slice A0_1 l0_1.length c0_1), (.slice A0_2 l0_2.length c0_2)] 28 (0, 0))) ∧ Aside0 (Below w.heap.size w w'))
 case atStart => exact ⟨(y613), (0), Za, H', ⟨Nat.le_refl _⟩, ⟨(Zz HO615)⟩, ⟨(Zd BK612)⟩, ⟨(Ze GE612)⟩⟩
 case round =>
  clear H'
  try clear p2
  obtain ⟨x3_1, x4_1, rfl, HA, HK1, HO_3, BK612, HB⟩ := hrel
  cases gk with
  | zero => exact absurd HA.out (by simp [spec_l08Times.l0])
  | succ k1 =>
   have H := HA.out; clear HA; simp only [spec_l08Times.l0] at H
   by_cases c5 : x4_1 < (l0_2.length : Int)
   ·rw [if_pos c5] at H
    have c5b0 := decide_eq_true c5; clear c5
    by_cases c6 : 0 ≤ x4_1
    ·rw [if_pos c6] at H
     have c6b0 := decide_eq_true c6; clear c6; replace H := Option.bind_eq_some_iff.mp H; obtain ⟨t617, A70, H⟩ := H; have A7 := am_ A70; clear A70
     by_cases c8 : x3_1.length < 17592186044416
     ·rw [if_pos c8] at H
      have LMc8 := am_ c8; clear c8; obtain ⟨y618, hy618⟩ : ∃ y_ : List Int, y_ = (x3_1 ++ [t617]) := ⟨_, rfl⟩
      (first | (rw [← hy618] at H; with_reducible replace H := bindZ H) | rw [← hy618] at H)
      have Ny618 := am_ hy618; clear hy618; have H' := am_ H; clear H; refine ci3 BK612 ?_; intros
      try go_wp2
      replace HO_3 := am_ (Kd.R_drew HO_3.out); replace BK612 := am_ (blk_drew BK612.out); replace HB := am_ (below_drew1 HB.out); have p616 : 0 ≤ (x4_1 : Int) := of_decide_eq_true Zg; have q616 : x4_1 < (l0_2.length : Int) := of_decide_eq_true Zg; obtain ⟨ad616, e616, hx616_0, hx616_1, hx616_2, hx616_3⟩ := at_T39 HR0_2.out x4_1 p616 q616; have hw616_3 := hx616_3; have hw616_2 := hx616_2; have hw616_1 := hx616_1; have hw616_0 := hx616_0
      cases e616
      replace hx616_0 := cbH HB hx616_0; replace hx616_1 := cbH HB hx616_1; replace hx616_2 := cbH HB hx616_2; replace hx616_3 := cbH HB hx616_3; replace p616 := eq_true p616; replace q616 := eq_true q616; refine start_ (n := 11) (S := fun w' => w'.cell? ⟨gb612, 0, none⟩ = some (.slice A0_0 l0_0.length c0_0) ∧ w'.cell? ⟨gb612, 1, none⟩ = some (.slice A0_1 l0_1.length c0_1) ∧ w'.cell? ⟨gb612, 2, none⟩ = some (.slice (some ad616) l0_2.length c0_2) ∧ w'.cell? (ad616.add ((x4_1).toNat * 4)) = some (.int .i64 ((rd_T39 l0_2 x4_1).f0)) ∧ w'.cell? ⟨(ad616.add ((x4_1).toNat * 4)).block, (ad616.add ((x4_1).toNat * 4)).off + 1, none⟩ = some (.int .i64 ((rd_T39 l0_2 x4_1).f1)) ∧ w'.cell? ⟨(ad616.add ((x4_1).toNat * 4)).block, (ad616.add ((x4_1).toNat * 4)).off + 2, none⟩ = some (.string ((rd_T39 l0_2 x4_1).f2)) ∧ w'.cell? ⟨(ad616.add ((x4_1).toNat * 4)).block, (ad616.add ((x4_1).toNat * 4)).off + 3, none⟩ = some (.int .i64 ((rd_T39 l0_2 x4_1).f3))) (ds := []) (bT 11 0) Zh rfl rfl ⟨(blk_cell BK612.out 0).trans rfl, (blk_cell BK612.out 1).trans rfl, (blk_cell BK612.out 2).trans rfl, (cbH HB hw616_0 :), (cbH HB hw616_1 :), (cbH HB hw616_2 :), (cbH HB hw616_3 :)⟩ (fun hHeld => ?_); refine with_tabW spec_l08Times.tab5 spec_l08Times.bits5 (fun HT_ HW_ => ?_); generalize wr.drew = w10 at HO_3 BK612 HB hx616_0 hx616_1 hx616_2 hx616_3 hHeld ⊢; refine pureZ HT_ 0 (some 13) (bT 11 1) ?_; refine pureZ HT_ 2 (some 15) (bB 11 5) ?_; refine pureZ HT_ 4 (some 17) (bB 11 21) ?_; refine takeZ7 HT_ HW_ 1 (some 14) (bB 11 23) hHeld ?_; refine takeZ7 HT_ HW_ 3 (some 16) (bT 11 5) hHeld ?_; refine pureZ HT_ 5 (some 18) (bT 11 6) ?_; refine takeZ7 HT_ HW_ 6 (some 19) (bT 11 7) hHeld ?_; refine one_ (i := 7) (N := some 20) (bT 11 8) rfl rfl (one_of HT_.out Zh) (by decide) (fun K hK => ?_); refine goes_ Try.func90 Zh rfl #[.agg #[.slice A0_0 l0_0.length c0_0, .slice A0_1 l0_1.length c0_1, .slice (some ad616) l0_2.length c0_2], .agg #[.int .i64 ((rd_T39 l0_2 x4_1).f0), .int .i64 ((rd_T39 l0_2 x4_1).f1), .string ((rd_T39 l0_2 x4_1).f2), .int .i64 ((rd_T39 l0_2 x4_1).f3)]] (by rfl) rfl rfl Zq ?_
      with_reducible refine (spec_l08Time.calls k1 _ _ l0_0 _ _ l0_1 _ _ l0_2 ((rd_T39 l0_2 x4_1).f0) ((rd_T39 l0_2 x4_1).f1) ((rd_T39 l0_2 x4_1).f2) ((rd_T39 l0_2 x4_1).f3) t617 _ ?side1 ?side2 ?side3 ?side4 ?side5 ?side6 A7.out).mono ?_
      (case side1 => exact (Zs HR0_0))
      (case side2 => exact HC0_0.out)
      (case side3 => exact (Zs HR0_1))
      (case side4 => exact HC0_1.out)
      (case side5 => exact (Zs HR0_2))
      (case side6 => exact HC0_2.out)
      rintro e w11 ⟨rfl, hb⟩; refine ⟨_, rfl, ?_⟩; replace HO_3 := (hbZ HO_3 hb); replace BK612 := (bkZ BK612 hb); replace HB := (bsZ (Ze GE612) hb)
      (try clear hb)
      (try clear hb2)
      (try clear hk)
      (try clear hi)
      refine hK.out _ _ (by exact ⟨(blk_cell BK612.out 0).trans rfl, (blk_cell BK612.out 1).trans rfl, (blk_cell BK612.out 2).trans rfl, (cbH HB hw616_0 :), (cbH HB hw616_1 :), (cbH HB hw616_2 :), (cbH HB hw616_3 :)⟩) (fun hHeld => ?_); clear hK K; refine normZ 20 ?_; refine one_ (i := 8) (N := some 21) (bT 11 9) rfl rfl (one_of HT_.out Zh) (by decide) (fun K hK => ?_); refine value_ (w1 := ?_) (v := ?_) (by rfl) rfl ?_ ?_; rotate_left 2
      ·go_simp
       constructor
       ·rfl
       ·rfl
      refine hK.out _ _ ⟨(blk_cell (blk_alloc BK612.out _) 0).trans rfl, (blk_cell (blk_alloc BK612.out _) 1).trans rfl, (blk_cell (blk_alloc BK612.out _) 2).trans rfl, (World.cell?_alloc_lt _ _ _ (World.block_lt_of_cell? _ _ ((cbH HB hw616_0 :)))).trans ((cbH HB hw616_0 :)), (World.cell?_alloc_lt _ _ _ (World.block_lt_of_cell? _ _ ((cbH HB hw616_1 :)))).trans ((cbH HB hw616_1 :)), (World.cell?_alloc_lt _ _ _ (World.block_lt_of_cell? _ _ ((cbH HB hw616_2 :)))).trans ((cbH HB hw616_2 :)), (World.cell?_alloc_lt _ _ _ (World.block_lt_of_cell? _ _ ((cbH HB hw616_3 :)))).trans ((cbH HB hw616_3 :))⟩ (fun hHeld => ?_); clear hK K; refine normZ 21 ?_; refine one_ (i := 9) (N := some 22) (bT 11 10) rfl rfl (one_of HT_.out Zh) (by decide) (fun K hK => ?_); refine Kd.R_append_step (Kd.int .i64) (w0 := w) w.heap.size (by rfl) (.tmp 13) (.tmp 21) 33 2 (.int .i64 0) 8 rfl Try.underlying33 info2 rfl (by decide) (by omega) u3 x3_1 t617 [.int .i64 t617] (fun _ => True) (fun _ => False) rfl rfl ?aP (fun _ hk => hk.elim) ?aF ?aO ?aB ?aS ?aL ?_
      (case aP => exact rfl)
      (case aB => exact (Ze GE612))
      (case aF => exact (fun _ _ => trivial))
      (case aO => exact (Zz HO_3))
      (case aS => exact (below_size (Ze GE612)))
      (case aL => have := LMc8.out; omega)
      intro v619 w12 ho hb hg hat; rw [← Ny618.out] at ho; replace BK612 := am_ (blk_grown (g := gb612) (b0Z BK612) hg (Kd.R_ne HO_3.out BK612.out (by decide))); replace HB := am_ (hb); replace HO620 := am_ (ho); clear HO_3; clear ho hb hg hat; refine hK.out _ _ (by exact ⟨(blk_cell BK612.out 0).trans rfl, (blk_cell BK612.out 1).trans rfl, (blk_cell BK612.out 2).trans rfl, (cbH HB hw616_0 :), (cbH HB hw616_1 :), (cbH HB hw616_2 :), (cbH HB hw616_3 :)⟩) (fun hHeld => ?_); clear hK K; refine normZ 22 ?_; refine pureZ HT_ 10 (some 3) (bT 11 11) ?_; refine done_ (done_of HT_.out Zh) ?_
      try go_wp2
      go_roundg k1
      case measure => have := HK1.out; omega
      case rel => exact ⟨(y618), (wrap64 (x4_1 + 1)), Za, H', ⟨Zi⟩, ⟨(Zz HO620)⟩, ⟨(Zd BK612)⟩, ⟨(Ze GE612)⟩⟩
     ·rw [if_neg c8] at H
      exact absurd H (by simp)
    ·rw [if_neg c6] at H
     exact absurd H (by simp)
   ·rw [if_neg c5] at H
    have c5b0 := decide_eq_false c5; clear c5; obtain rfl := Option.some.inj H; refine ci3 BK612 ?_; intros
    go_wp2
    go_ret
    exact ⟨_, Zj, (Zz HO_3), (Ze GE612)⟩
def spec_l08Between.l0 : Nat → List Int → Int → Int → List Int → Int → Option (List Int)
 | 0, _, _, _, _, _ => none
 | k + 1, x0, x1, x2, x7, x8 => if x8 < (x0.length : Int) then (if 0 ≤ x8 then (if (rd x0 x8) ≥ x1 then (if (rd x0 x8) < x2 then (if x7.length < 17592186044416 then (spec_l08Between.l0 k x0 x1 x2 (x7 ++ [x8]) (wrap64 (x8 + 1))) else (none)) else (spec_l08Between.l0 k x0 x1 x2 x7 (wrap64 (x8 + 1)))) else (spec_l08Between.l0 k x0 x1 x2 x7 (wrap64 (x8 + 1)))) else (none)) else (some x7)
def spec_l08Between.f (k : Nat) (l0 : List Int) (a1 : Int) (a2 : Int) : Option (List Int) := spec_l08Between.l0 k l0 a1 a2 (([] : List Int)) 0
set_option maxHeartbeats 8000000 in
set_option maxRecDepth 100000 in
theorem spec_l08Between.calls (k : Nat) (A0 : Option Addr) (c0 : Nat) (l0 : List Int) (a1 : Int) (a2 : Int) (r : List Int) (w : World) (hr0 : Kd.C (Kd.int .i64) w A0 l0.length l0) (hc0 : l0.length ≤ c0) (h : spec_l08Between.f k l0 a1 a2 = some r) :
  Calls Try.prog 59 #[.slice A0 l0.length c0, .int .i64 a1, .int .i64 a2] w fun e w' => ∃ v0_ : Value, e = .returned (v0_) ∧ Kd.R (Kd.int .i64) 2 w' w.heap.size (fun _ => True) v0_ r ∧ Below w.heap.size w w' := by
 have HR0 := am_ hr0; have HC0 := am_ hc0; clear hr0 hc0; have HB := am_ (Below.refl w.heap.size w); have H : (spec_l08Between.l0 k l0 a1 a2 (([] : List Int)) 0) = some r := h; clear h; obtain ⟨y621, hy621⟩ : ∃ y_ : List Int, y_ = (([] : List Int)) := ⟨_, rfl⟩
 replace H : (spec_l08Between.l0 k l0 a1 a2 y621 0) = some r := by (try rw [hy621]); first | with_reducible exact H | with_reducible exact (Option.bind_some _ _).symm.trans H | exact H
 have Ny621 := am_ hy621; clear hy621; have H' := am_ H; clear H
 go_enter Try.func59, Try.ntmps59
 go_wp2_with (first | ((with_reducible refine gate_dst (N := 9) rfl ?_); refine Kd.R_lit (Kd.int .i64) _ 2 ?hg (N := 9) ?hd (xs := ([] : List Int)) (inner := []) (ok := fun _ => True) (okp := fun _ => True) ?hr ?hp (fun _ hk => hk) trivial (Below.refl _ _) (Nat.le_refl _) (by simp) ?_; (case hd => rfl); (case hg => rfl); (case hr => first | (go_simp; done) | (go_simp; rfl)); (case hp => exact (Reps.none _ _)); intro v622 w4 ho5 hb hg_ hnew_; clear hg_ hnew_; (first | rw [← Ny621.out] at ho5 | (simp only [Int.reduceToNat] at ho5; rw [← Ny621.out] at ho5)); replace HO623 := am_ (Kd.R_lower ho5 (below_size Zc)); replace HB := (bsZ Zc hb); clear hb ho5))
 go_loopg [7, 8] k (fun kq v7 v8 w' => ∃ (x7_1 : List Int) (x8_1 : Int), v8 = .int .i64 x8_1 ∧ Aside0 (spec_l08Between.l0 kq l0 a1 a2 x7_1 x8_1 = some r) ∧ Aside0 (kq ≤ k) ∧ Aside0 (Kd.R (Kd.int .i64) 2 w' w.heap.size (fun _ => True) v7 x7_1) ∧ Aside0 (Below w.heap.size w w'))
 case atStart => exact ⟨(y621), (0), Za, H', ⟨Nat.le_refl _⟩, ⟨(Zz HO623)⟩, ⟨Zc⟩⟩
 case round =>
  clear H'
  try clear p2
  try clear c5
  obtain ⟨x7_1, x8_1, rfl, HA, HK1, HO_7, HB⟩ := hrel
  cases gk with
  | zero => exact absurd HA.out (by simp [spec_l08Between.l0])
  | succ k1 =>
   have H := HA.out; clear HA; simp only [spec_l08Between.l0] at H
   by_cases c6 : x8_1 < (l0.length : Int)
   ·rw [if_pos c6] at H
    have c6b0 := decide_eq_true c6; clear c6
    by_cases c7 : 0 ≤ x8_1
    ·rw [if_pos c7] at H
     have c7b0 := decide_eq_true c7; clear c7
     by_cases c8 : (rd l0 x8_1) ≥ a1
     ·rw [if_pos c8] at H
      have c8b0 : decide (a1 ≤ (rd l0 x8_1)) = true := decide_eq_true c8; clear c8
      by_cases c9 : (rd l0 x8_1) < a2
      ·rw [if_pos c9] at H
       have c9b0 := decide_eq_true c9; clear c9
       by_cases c10 : x7_1.length < 17592186044416
       ·rw [if_pos c10] at H
        have LMc10 := am_ c10; clear c10; obtain ⟨y626, hy626⟩ : ∃ y_ : List Int, y_ = (x7_1 ++ [x8_1]) := ⟨_, rfl⟩
        (first | (rw [← hy626] at H; with_reducible replace H := bindZ H) | rw [← hy626] at H)
        have Ny626 := am_ hy626; clear hy626; have H' := am_ H; clear H; have p624 : 0 ≤ (x8_1 : Int) := of_decide_eq_true Zg; have q624 : x8_1 < (l0.length : Int) := of_decide_eq_true Zg; obtain ⟨ad624, e624, hx624_0⟩ := Kd.at_int HR0.out x8_1 p624 q624
        cases e624
        replace hx624_0 := cbH HB hx624_0; replace p624 := eq_true p624; replace q624 := eq_true q624; have p625 : 0 ≤ (x8_1 : Int) := of_decide_eq_true Zg; have q625 : x8_1 < (l0.length : Int) := of_decide_eq_true Zg; obtain ⟨ad625, e625, hx625_0⟩ := Kd.at_int HR0.out x8_1 p625 q625; obtain rfl : ad624 = ad625 := (by injection e625); replace hx625_0 := cbH HB hx625_0; replace p625 := eq_true p625; replace q625 := eq_true q625
        go_wp2_with (first | ((with_reducible refine gate_builtin (b := .append) (xs := #[.tmp 30, .tmp 32]) rfl ?_); at_builtin; refine Kd.R_append (Kd.int .i64) (w0 := w) w.heap.size rfl (.tmp 30) (.tmp 32) 33 2 (.int .i64 0) 8 rfl Try.underlying33 info2 rfl (by decide) (by omega) u7 x7_1 x8_1 [.int .i64 x8_1] (fun _ => True) (fun _ => False) rfl rfl ?aP (fun _ hk => hk.elim) ?aF ?aO ?aB ?aS ?aL ?_; (case aP => exact rfl); (case aB => exact Zc); (case aF => exact (fun _ _ => trivial)); (case aO => exact (Zz HO_7)); (case aS => exact (below_size Zc)); (case aL => have := LMc10.out; omega); intro v627 w11 ho hb hg hat; rw [← Ny626.out] at ho; replace HB := am_ (hb); replace HO628 := am_ (ho); clear HO_7; clear ho hb hg hat))
        go_roundg k1
        case measure => have := HK1.out; omega
        case rel => exact ⟨(y626), (wrap64 (x8_1 + 1)), Za, H', ⟨Zi⟩, ⟨(Zz HO628)⟩, ⟨Zc⟩⟩
       ·rw [if_neg c10] at H
        exact absurd H (by simp)
      ·rw [if_neg c9] at H
       have c9b0 := decide_eq_false c9; clear c9; have H' := am_ H; clear H; have p624 : 0 ≤ (x8_1 : Int) := of_decide_eq_true Zg; have q624 : x8_1 < (l0.length : Int) := of_decide_eq_true Zg; obtain ⟨ad624, e624, hx624_0⟩ := Kd.at_int HR0.out x8_1 p624 q624
       cases e624
       replace hx624_0 := cbH HB hx624_0; replace p624 := eq_true p624; replace q624 := eq_true q624; have p625 : 0 ≤ (x8_1 : Int) := of_decide_eq_true Zg; have q625 : x8_1 < (l0.length : Int) := of_decide_eq_true Zg; obtain ⟨ad625, e625, hx625_0⟩ := Kd.at_int HR0.out x8_1 p625 q625; obtain rfl : ad624 = ad625 := (by injection e625); replace hx625_0 := cbH HB hx625_0; replace p625 := eq_true p625; replace q625 := eq_true q625
       go_wp2
       go_roundg k1
       case measure => have := HK1.out; omega
       case rel => exact ⟨(x7_1), (wrap64 (x8_1 + 1)), Za, H', ⟨Zi⟩, ⟨(Zz HO_7)⟩, ⟨Zc⟩⟩
     ·rw [if_neg c8] at H
      have c8b0 : decide (a1 ≤ (rd l0 x8_1)) = false := decide_eq_false c8; clear c8; have H' := am_ H; clear H; have p624 : 0 ≤ (x8_1 : Int) := of_decide_eq_true Zg; have q624 : x8_1 < (l0.length : Int) := of_decide_eq_true Zg; obtain ⟨ad624, e624, hx624_0⟩ := Kd.at_int HR0.out x8_1 p624 q624
      cases e624
      replace hx624_0 := cbH HB hx624_0; replace p624 := eq_true p624; replace q624 := eq_true q624
      go_wp2
      go_roundg k1
      case measure => have := HK1.out; omega
      case rel => exact ⟨(x7_1), (wrap64 (x8_1 + 1)), Za, H', ⟨Zi⟩, ⟨(Zz HO_7)⟩, ⟨Zc⟩⟩
    ·rw [if_neg c7] at H
     exact absurd H (by simp)
   ·rw [if_neg c6] at H
    have c6b0 := decide_eq_false c6; clear c6; obtain rfl := Option.some.inj H
    go_wp2
    go_ret
    exact ⟨_, Zj, (Zz HO_7), Zc⟩
mutual
def spec_BusiestTime.j0 : Nat → Int → Int → List (S104) → List (S62) → List (S39) → Option (Int × Int × Int)
 | 0, _, _, _, _, _ => none
 | k + 1, x1, x7, x630000, x630001, x630002 => if x7 = 0 then ((spec_l08Times.f k x630000 x630001 x630002).bind fun t632 => (spec_BusiestTime.l0 k x1 t632 0 0 0)) else (some (0, 0, x7))
def spec_BusiestTime.l0 : Nat → Int → List Int → Int → Int → Int → Option (Int × Int × Int)
 | 0, _, _, _, _, _ => none
 | k + 1, x1, x8, x9, x10, x11 => if x11 < (x8.length : Int) then (if 0 ≤ x11 then ((spec_l08Between.f k x8 (rd x8 x11) (wrap64 ((rd x8 x11) + x1))).bind fun t637 => (if (t637.length : Int) > x10 then (spec_BusiestTime.l0 k x1 x8 (rd x8 x11) (t637.length : Int) (wrap64 (x11 + 1))) else (if (t637.length : Int) = x10 then (if (rd x8 x11) < x9 then (spec_BusiestTime.l0 k x1 x8 (rd x8 x11) (t637.length : Int) (wrap64 (x11 + 1))) else (spec_BusiestTime.l0 k x1 x8 x9 x10 (wrap64 (x11 + 1)))) else (spec_BusiestTime.l0 k x1 x8 x9 x10 (wrap64 (x11 + 1)))))) else (none)) else (some (x9, x10, 0))
end
def spec_BusiestTime.f (k : Nat) (l0_0 : List (S104)) (l0_1 : List (S62)) (l0_2 : List (S39)) (a1 : Int) : Option (Int × Int × Int) := (spec_IsShow.f k l0_0 l0_1 l0_2).bind fun t630 => (if t630 = true then ((spec_l01In.f a1 1 10000000).bind fun t631 => (if t631 = true then (if (l0_2.length : Int) = 0 then (spec_BusiestTime.j0 k a1 4 l0_0 l0_1 l0_2) else (spec_BusiestTime.j0 k a1 0 l0_0 l0_1 l0_2)) else (spec_BusiestTime.j0 k a1 2 l0_0 l0_1 l0_2))) else (spec_BusiestTime.j0 k a1 1 l0_0 l0_1 l0_2))
def spec_BusiestTime.T15 : Bool × List (List Nat × List Nat) := (true, [([], []), ([], []), ([], []), ([1, 2], [1, 2]), ([3], [3]), ([], []), ([], []), ([5, 6], [5, 6]), ([7], [7]), ([], []), ([8, 9], [8, 9]), ([0, 4, 10], [0, 4, 10]), ([11], [11]), ([12, 11, 0, 1, 2, 3, 4, 5, 6, 7, 8, 9, 10, 11, 12], [12])])
def spec_BusiestTime.B15 : List Nat := [0, 0, 0, 6, 14, 0, 0, 96, 224, 0, 992, 2047, 4095, 8191]
theorem spec_BusiestTime.tab15 : rtab .any (opsOf Try.f11 15) = spec_BusiestTime.T15 := by kernel_rfl
theorem spec_BusiestTime.bits15 : waitsOk spec_BusiestTime.T15.2 spec_BusiestTime.B15 = true := by kernel_rfl
set_option maxHeartbeats 8000000 in
set_option maxRecDepth 100000 in
theorem spec_BusiestTime.calls (k : Nat) (A0_0 : Option Addr) (c0_0 : Nat) (l0_0 : List (S104)) (A0_1 : Option Addr) (c0_1 : Nat) (l0_1 : List (S62)) (A0_2 : Option Addr) (c0_2 : Nat) (l0_2 : List (S39)) (a1 : Int) (r1 : Int) (r2 : Int) (r3 : Int) (w : World) (hr0_0 : Kd.C k104 w A0_0 l0_0.length l0_0) (hc0_0 : l0_0.length ≤ c0_0) (hr0_1 : Kd.C k62 w A0_1 l0_1.length l0_1) (hc0_1 : l0_1.length ≤ c0_1) (hr0_2 : Kd.C k39 w A0_2 l0_2.length l0_2) (hc0_2 : l0_2.length ≤ c0_2) (h : spec_BusiestTime.f k l0_0 l0_1 l0_2 a1 = some (r1, r2, r3)) :
  Calls Try.prog 11 #[.agg #[.slice A0_0 l0_0.length c0_0, .slice A0_1 l0_1.length c0_1, .slice A0_2 l0_2.length c0_2], .int .i64 a1] w fun e w' => e = .returned (.tuple #[.int .i64 r1, .int .i64 r2, .int .i64 r3]) ∧ Below w.heap.size w w' := by
 have hu28 := Try.underlying28; have HR0_0 := am_ hr0_0; have HC0_0 := am_ hc0_0; clear hr0_0 hc0_0; have HR0_1 := am_ hr0_1; have HC0_1 := am_ hc0_1; clear hr0_1 hc0_1; have HR0_2 := am_ hr0_2; have HC0_2 := am_ hc0_2; clear hr0_2 hc0_2; have HB := am_ (Below.refl w.heap.size w); have H : ((spec_IsShow.f k l0_0 l0_1 l0_2).bind fun t630 => (if t630 = true then ((spec_l01In.f a1 1 10000000).bind fun t631 => (if t631 = true then (if (l0_2.length : Int) = 0 then (spec_BusiestTime.j0 k a1 4 l0_0 l0_1 l0_2) else (spec_BusiestTime.j0 k a1 0 l0_0 l0_1 l0_2)) else (spec_BusiestTime.j0 k a1 2 l0_0 l0_1 l0_2))) else (spec_BusiestTime.j0 k a1 1 l0_0 l0_1 l0_2))) = some (r1, r2, r3) := h; clear h; have HC3 := am_ H; clear H
 go_enter Try.func11, Try.ntmps11
 go_upto_block 0 with (first | ((with_reducible refine gate_dst (N := 2) rfl ?_); refine boxZ 2 #[.slice A0_0 l0_0.length c0_0, .slice A0_1 l0_1.length c0_1, .slice A0_2 l0_2.length c0_2] 28 ?_; intro gb629 hg w4 hbox hb; replace BK629 := am_ (hbox); replace GW629 := am_ ((Zp : w.heap.size ≤ gb629)); replace GE629 := GW629; replace HB := (bsZ Zc hb); clear hb hbox hg))
 (try simp only [Act.put, List.setIfInBounds_toArray, List.set_cons_zero, List.set_cons_succ])
 go_cut [7] (fun v7 wc => ∃ (kq : Nat) (x7_2 : Int), v7 = .int .i64 x7_2 ∧ Aside0 (spec_BusiestTime.j0 kq a1 x7_2 l0_0 l0_1 l0_2 = some (r1, r2, r3)) ∧ Aside0 (kq ≤ k) ∧ Aside0 (wc.heap[gb629]? = some (.cells #[(.slice A0_0 l0_0.length c0_0), (.slice A0_1 l0_1.length c0_1), (.slice A0_2 l0_2.length c0_2)] 28 (0, 0))) ∧ Aside0 (Below w.heap.size w wc))
 case first =>
  have H := HC3.out; clear HC3; replace H := Option.bind_eq_some_iff.mp H; obtain ⟨t630, A50, H⟩ := H; have A5 := am_ A50; clear A50; have HS_ := am_ H; clear H; refine ci3 BK629 ?_; intros
  go_wp2_with (first | ((with_reducible refine gate_callee (f := 56) rfl ?_); refine gZ 15 Try.func56 #[.agg #[.slice A0_0 l0_0.length c0_0, .slice A0_1 l0_1.length c0_1, .slice A0_2 l0_2.length c0_2]] ?_; (with_reducible refine (spec_IsShow.calls k _ _ l0_0 _ _ l0_1 _ _ l0_2 t630 _ ?_ ?_ ?_ ?_ ?_ ?_ A5.out).mono ?_); exact (Zs HR0_0); exact HC0_0.out; exact (Zs HR0_1); exact HC0_1.out; exact (Zs HR0_2); exact HC0_2.out; rintro e w11 ⟨rfl, hb⟩; refine ⟨_, rfl, ?_⟩; replace BK629 := (bkZ BK629 hb); replace HB := (bsZ (Ze GE629) hb); clear hb; refine ?roundEnd))
  case roundEnd =>
   by_cases c6 : t630 = true
   ·have H := HS_.out
    clear HS_; subst c6
    have H1 : ((spec_l01In.f a1 1 10000000).bind fun t631 => (if t631 = true then (if (l0_2.length : Int) = 0 then (spec_BusiestTime.j0 k a1 4 l0_0 l0_1 l0_2) else (spec_BusiestTime.j0 k a1 0 l0_0 l0_1 l0_2)) else (spec_BusiestTime.j0 k a1 2 l0_0 l0_1 l0_2))) = some (r1, r2, r3) := by rw [if_pos rfl] at H; exact H
    clear H; have H := H1; clear H1; replace H := Option.bind_eq_some_iff.mp H; obtain ⟨t631, A70, H⟩ := H; have A7 := am_ A70; clear A70; have HS_ := am_ H; clear H
    by_cases c8 : t631 = true
    ·have H := HS_.out
     clear HS_; subst c8
     have H1 : (if (l0_2.length : Int) = 0 then (spec_BusiestTime.j0 k a1 4 l0_0 l0_1 l0_2) else (spec_BusiestTime.j0 k a1 0 l0_0 l0_1 l0_2)) = some (r1, r2, r3) := by rw [if_pos rfl] at H; exact H
     clear H; have H := H1; clear H1; have HS_ := am_ H; clear H
     go_wp2_with (first | ((with_reducible refine gate_callee (f := 57) rfl ?_); refine gZ 19 Try.func57 #[.int .i64 a1, .int .i64 1, .int .i64 10000000] ?_; (with_reducible refine (spec_l01In.calls a1 1 10000000 true _ A7.out).mono ?_); rintro e w' ⟨rfl, ⟨nd, rfl⟩⟩; refine ⟨_, rfl, ?_⟩; refine ci3 BK629 ?_; intros; refine ?roundEnd))
     case roundEnd =>
      by_cases c9 : (l0_2.length : Int) = 0
      ·have H := HS_.out
       clear HS_; rw [if_pos c9] at H; have c9b0 := beq_iff_eq.mpr c9; have c9b1 := bne_eq_false_iff_eq.mpr c9; clear c9
       (first | rw [c9b0] | (simp only [i64_w, i32_w]; rw [c9b0]) | skip)
       have H' := am_ H; clear H
       go_wp2_with (first | fail)
       go_meet
       case rel => exact ⟨_, (4), Za, H', ⟨Zw⟩, ⟨(Zd BK629)⟩, ⟨(Ze GE629)⟩⟩
      ·have H := HS_.out
       clear HS_; rw [if_neg c9] at H; have c9b0 := beq_eq_false_iff_ne.mpr c9; have c9b1 := bne_iff_ne.mpr c9; have c9b2 : ¬ (l0_2 = []) := fun h_ => c9 (by rw [h_]; rfl)
       (first | rw [c9b0] | (simp only [i64_w, i32_w]; rw [c9b0]) | skip)
       have H' := am_ H; clear H
       go_wp2_with (first | fail)
       go_meet
       case rel => exact ⟨_, (0), Za, H', ⟨Zw⟩, ⟨(Zd BK629)⟩, ⟨(Ze GE629)⟩⟩
    ·have H := HS_.out
     clear HS_; replace c8 := Bool.eq_false_iff.mpr c8; subst c8
     have H1 : (spec_BusiestTime.j0 k a1 2 l0_0 l0_1 l0_2) = some (r1, r2, r3) := by rw [if_neg (show ¬ (false = true) by decide)] at H; exact H
     clear H; have H := H1; clear H1; have H' := am_ H; clear H
     go_wp2_with (first | ((with_reducible refine gate_callee (f := 57) rfl ?_); refine gZ 19 Try.func57 #[.int .i64 a1, .int .i64 1, .int .i64 10000000] ?_; (with_reducible refine (spec_l01In.calls a1 1 10000000 false _ A7.out).mono ?_); rintro e w' ⟨rfl, ⟨nd, rfl⟩⟩; refine ⟨_, rfl, ?_⟩))
     go_meet
     case rel => exact ⟨_, (2), Za, H', ⟨Zw⟩, ⟨(Zd BK629)⟩, ⟨(Ze GE629)⟩⟩
   ·have H := HS_.out
    clear HS_; replace c6 := Bool.eq_false_iff.mpr c6; subst c6
    have H1 : (spec_BusiestTime.j0 k a1 1 l0_0 l0_1 l0_2) = some (r1, r2, r3) := by rw [if_neg (show ¬ (false = true) by decide)] at H; exact H
    clear H; have H := H1; clear H1; have H' := am_ H; clear H
    go_wp2_with (first | fail)
    go_meet
    case rel => exact ⟨_, (1), Za, H', ⟨Zw⟩, ⟨(Zd BK629)⟩, ⟨(Ze GE629)⟩⟩
 case rest =>
  clear HC3
  try clear c1
  try clear p2
  try clear c5
  try clear c6
  try clear c8
  try clear c9
  try clear c9b0
  try clear c9b1
  try clear c9b2
  try clear c11
  obtain ⟨kq, x7_2, rfl, HA, HJ2, BK629, HB⟩ := hcut
  cases kq with
  | zero => exact absurd HA.out (by simp [spec_BusiestTime.j0])
  | succ kj2 =>
   have H := HA.out; clear HA; simp only [spec_BusiestTime.j0] at H
   by_cases c20 : x7_2 = 0
   ·rw [if_pos c20] at H
    have c20b0 := beq_iff_eq.mpr c20; have c20b1 := bne_eq_false_iff_eq.mpr c20; clear c20; replace H := Option.bind_eq_some_iff.mp H; obtain ⟨t632, A210, H⟩ := H; have A21 := am_ A210; clear A210; have H' := am_ H; clear H; refine ci3 BK629 ?_; intros
    go_wp2_with (first | ((with_reducible refine gate_callee (f := 58) rfl ?_); refine gZ 30 Try.func58 #[.agg #[.slice A0_0 l0_0.length c0_0, .slice A0_1 l0_1.length c0_1, .slice A0_2 l0_2.length c0_2]] ?_; (with_reducible refine (spec_l08Times.calls kj2 _ _ l0_0 _ _ l0_1 _ _ l0_2 t632 _ ?_ ?_ ?_ ?_ ?_ ?_ A21.out).mono ?_); exact (Zs HR0_0); exact HC0_0.out; exact (Zs HR0_1); exact HC0_1.out; exact (Zs HR0_2); exact HC0_2.out; rintro e w23 ⟨v633, rfl, ho0, hb⟩; refine ⟨_, rfl, ?_⟩; replace HO634 := am_ (Kd.R_lower ho0 (below_size (Ze GE629))); replace BK629 := (bkZ BK629 hb); replace HB := (bsZ (Ze GE629) hb); clear hb ho0))
    go_loopg [9, 10, 11] kj2 (fun kq v9 v10 v11 w' => ∃ (x9_2 : Int) (x10_2 : Int) (x11_2 : Int), v9 = .int .i64 x9_2 ∧ v10 = .int .i64 x10_2 ∧ v11 = .int .i64 x11_2 ∧ Aside0 (spec_BusiestTime.l0 kq a1 t632 x9_2 x10_2 x11_2 = some (r1, r2, r3)) ∧ Aside0 (kq ≤ kj2) ∧ Aside0 (Kd.R (Kd.int .i64) 2 w' w.heap.size (fun _ => True) v633 t632) ∧ Aside0 (w'.heap[gb629]? = some (.cells #[(.slice A0_0 l0_0.length c0_0), (.slice A0_1 l0_1.length c0_1), (.slice A0_2 l0_2.length c0_2)] 28 (0, 0))) ∧ Aside0 (Below w.heap.size w w'))
    case atStart => exact ⟨(0), (0), (0), Za, Za, Za, H', ⟨Nat.le_refl _⟩, ⟨(Zz HO634)⟩, ⟨(Zd BK629)⟩, ⟨(Ze GE629)⟩⟩
    case round =>
     clear H'
     try clear c1
     try clear c2
     try clear p2
     try clear c5
     try clear c6
     try clear c8
     try clear c9
     try clear c9b0
     try clear c9b1
     try clear c9b2
     try clear c11
     try clear c20
     try clear c20b0
     try clear c20b1
     try clear p2
     obtain ⟨x9_2, x10_2, x11_2, rfl, rfl, rfl, HA, HK2, HO_8, BK629, HB⟩ := hrel
     cases gk with
     | zero => exact absurd HA.out (by simp [spec_BusiestTime.l0])
     | succ k2 =>
      have H := HA.out; clear HA; simp only [spec_BusiestTime.l0] at H
      by_cases c24 : x11_2 < (t632.length : Int)
      ·rw [if_pos c24] at H
       have c24b0 := decide_eq_true c24; clear c24
       by_cases c25 : 0 ≤ x11_2
       ·rw [if_pos c25] at H
        have c25b0 := decide_eq_true c25; clear c25; replace H := Option.bind_eq_some_iff.mp H; obtain ⟨t637, A260, H⟩ := H; have A26 := am_ A260; clear A260; have HS_ := am_ H; clear H; obtain ⟨Ao28, co28, eo28⟩ := Kd.R_slice HO_8.out; subst eo28
        try go_wp2
        replace HO_8 := am_ (Kd.R_drew HO_8.out); replace BK629 := am_ (blk_drew BK629.out); replace HB := am_ (below_drew1 HB.out); have p635 : 0 ≤ (x11_2 : Int) := of_decide_eq_true Zg; have q635 : x11_2 < (t632.length : Int) := of_decide_eq_true Zg; obtain ⟨ad635, e635, hx635_0⟩ := Kd.at_int (Kd.R_reads' HO_8.out).2.2 x11_2 p635 q635
        cases e635
        replace p635 := eq_true p635; replace q635 := eq_true q635; have p636 : 0 ≤ (x11_2 : Int) := of_decide_eq_true Zg; have q636 : x11_2 < (t632.length : Int) := of_decide_eq_true Zg; obtain ⟨ad636, e636, hx636_0⟩ := Kd.at_int (Kd.R_reads' HO_8.out).2.2 x11_2 p636 q636; obtain rfl : ad635 = ad636 := (by injection e636); replace p636 := eq_true p636; replace q636 := eq_true q636; refine start_ (n := 14) (S := fun w' => w'.cell? (ad635.add (x11_2).toNat) = some (.int .i64 (rd t632 x11_2)) ∧ w'.cell? (ad635.add (x11_2).toNat) = some (.int .i64 (rd t632 x11_2))) (ds := []) (bT 14 0) Zh rfl rfl ⟨hx635_0, hx636_0⟩ (fun hHeld => ?_); refine with_tabW spec_BusiestTime.tab15 spec_BusiestTime.bits15 (fun HT_ HW_ => ?_); generalize wr.drew = w29 at HO_8 BK629 HB hx635_0 hx636_0 hHeld ⊢; refine pureZ HT_ 0 (some 37) (bT 14 1) ?_; refine pureZ HT_ 1 (some 38) (bT 14 2) ?_; refine pureZ HT_ 2 (some 39) (bT 14 3) ?_; refine pureZ HT_ 3 (some 40) (bT 14 4) ?_; refine pureZ HT_ 5 (some 42) (bB 14 47) ?_; refine pureZ HT_ 6 (some 43) (bB 14 111) ?_; refine pureZ HT_ 7 (some 44) (bB 14 239) ?_; refine pureZ HT_ 9 (some 46) (bB 14 751) ?_; refine takeZ2 HT_ HW_ 4 (some 41) (bB 14 767) hHeld ?_; refine takeZ2 HT_ HW_ 8 (some 45) (bT 14 10) hHeld ?_; refine pureZ HT_ 10 (some 47) (bT 14 11) ?_; refine one_ (i := 11) (N := some 48) (bT 14 12) rfl rfl (one_of HT_.out Zh) (by decide) (fun K hK => ?_); refine goes_ Try.func59 Zh rfl #[.slice (some ad635) t632.length co28, .int .i64 (rd t632 x11_2), .int .i64 (wrap64 ((rd t632 x11_2) + a1))] (by rfl) rfl rfl Zq ?_
        with_reducible refine (spec_l08Between.calls k2 _ _ t632 (rd t632 x11_2) (wrap64 ((rd t632 x11_2) + a1)) t637 _ ?side1 ?side2 A26.out).mono ?_
        (case side1 => exact (Zap HO_8))
        (case side2 => exact (Kd.R_reads' HO_8.out).2.1)
        rintro e w30 ⟨v638, rfl, ho0, hb⟩; have HS0_ := (hb.cell (World.block_lt_of_cell? _ _ (hHeld.1))).trans (hHeld.1); have HS1_ := (hb.cell (World.block_lt_of_cell? _ _ (hHeld.2))).trans (hHeld.2); refine ⟨_, rfl, ?_⟩; replace HO639 := am_ (Kd.R_lower (Kd.R_new' ho0 (Kd.R_lt (Zz HO_8))) (below_size (Ze GE629))); replace HO_8 := am_ (Kd.R_elder' (Zz HO_8) (Kd.R_base ho0) hb); replace BK629 := (bkZ BK629 hb); replace HB := (bsZ (Ze GE629) hb)
        (try clear hb)
        (try clear hb2)
        (try clear hk)
        (try clear hi)
        (try clear ho0)
        obtain ⟨Ao31, co31, eo31⟩ := Kd.R_slice HO639.out
        (first | subst eo31 | (injection eo31 with f1_ f2_ f3_; have f4_ := f1_.symm; have f5_ := f3_.symm; clear f1_ f2_ f3_; subst f4_; subst f5_))
        refine hK.out _ _ ⟨HS0_, HS1_⟩ (fun hHeld => ?_); clear hK K; refine normZ 48 ?_; refine pureZ HT_ 12 (some 49) (bT 14 13) ?_; refine pureZ HT_ 13 (some 12) (bT 14 14) ?_; refine done_ (done_of HT_.out Zh) ?_
        by_cases c27 : (t637.length : Int) > x10_2
        ·have H := HS_.out
         clear HS_; rw [if_pos c27] at H; have c27b0 : decide (x10_2 < (t637.length : Int)) = true := decide_eq_true c27; clear c27; have H' := am_ H; clear H
         (try simp only [c27b0, Bool.not_true, Bool.not_false])
         have p640 : 0 ≤ (x11_2 : Int) := of_decide_eq_true Zg; have q640 : x11_2 < (t632.length : Int) := of_decide_eq_true Zg; obtain ⟨ad640, e640, hx640_0⟩ := Kd.at_int (Kd.R_reads' HO_8.out).2.2 x11_2 p640 q640; obtain rfl : ad635 = ad640 := (by injection e640); replace p640 := eq_true p640; replace q640 := eq_true q640
         try go_wp2
         go_roundg k2
         case measure => have := HJ2.out; have := HK2.out; omega
         case rel => exact ⟨(rd t632 x11_2), ((t637.length : Int)), (wrap64 (x11_2 + 1)), Za, Za, Za, H', ⟨by have := HJ2.out; have := HK2.out; omega⟩, ⟨(Zcp HO_8)⟩, ⟨(Zd BK629)⟩, ⟨(Ze GE629)⟩⟩
        ·have H := HS_.out
         clear HS_; rw [if_neg c27] at H; have c27b0 : decide (x10_2 < (t637.length : Int)) = false := decide_eq_false c27; clear c27; have HS_ := am_ H; clear H
         (try simp only [c27b0, Bool.not_true, Bool.not_false])
         by_cases c32 : (t637.length : Int) = x10_2
         ·have H := HS_.out
          clear HS_; rw [if_pos c32] at H; have c32b0 := beq_iff_eq.mpr c32; have c32b1 := bne_eq_false_iff_eq.mpr c32; clear c32; have HS_ := am_ H; clear H
          (try simp only [c32b0, c32b1, Bool.not_true, Bool.not_false])
          have p641 : 0 ≤ (x11_2 : Int) := of_decide_eq_true Zg; have q641 : x11_2 < (t632.length : Int) := of_decide_eq_true Zg; obtain ⟨ad641, e641, hx641_0⟩ := Kd.at_int (Kd.R_reads' HO_8.out).2.2 x11_2 p641 q641; obtain rfl : ad635 = ad641 := (by injection e641); replace p641 := eq_true p641; replace q641 := eq_true q641
          by_cases c33 : (rd t632 x11_2) < x9_2
          ·have H := HS_.out
           clear HS_; rw [if_pos c33] at H; have c33b0 := decide_eq_true c33; clear c33; have H' := am_ H; clear H
           (try simp only [c33b0, Bool.not_true, Bool.not_false])
           have p642 : 0 ≤ (x11_2 : Int) := of_decide_eq_true Zg; have q642 : x11_2 < (t632.length : Int) := of_decide_eq_true Zg; obtain ⟨ad642, e642, hx642_0⟩ := Kd.at_int (Kd.R_reads' HO_8.out).2.2 x11_2 p642 q642; obtain rfl : ad635 = ad642 := (by injection e642); replace p642 := eq_true p642; replace q642 := eq_true q642
           try go_wp2
           go_roundg k2
           case measure => have := HJ2.out; have := HK2.out; omega
           case rel => exact ⟨(rd t632 x11_2), ((t637.length : Int)), (wrap64 (x11_2 + 1)), Za, Za, Za, H', ⟨by have := HJ2.out; have := HK2.out; omega⟩, ⟨(Zcp HO_8)⟩, ⟨(Zd BK629)⟩, ⟨(Ze GE629)⟩⟩
          ·have H := HS_.out
           clear HS_; rw [if_neg c33] at H; have c33b0 := decide_eq_false c33; clear c33; have H' := am_ H; clear H
           (try simp only [c33b0, Bool.not_true, Bool.not_false])
           try go_wp2
           go_roundg k2
           case measure => have := HJ2.out; have := HK2.out; omega
           case rel => exact ⟨(x9_2), (x10_2), (wrap64 (x11_2 + 1)), Za, Za, Za, H', ⟨by have := HJ2.out; have := HK2.out; omega⟩, ⟨(Zcp HO_8)⟩, ⟨(Zd BK629)⟩, ⟨(Ze GE629)⟩⟩
         ·have H := HS_.out
          clear HS_; rw [if_neg c32] at H; have c32b0 := beq_eq_false_iff_ne.mpr c32; have c32b1 := bne_iff_ne.mpr c32; have H' := am_ H; clear H
          (try simp only [c32b0, c32b1, Bool.not_true, Bool.not_false])
          try go_wp2
          go_roundg k2
          case measure => have := HJ2.out; have := HK2.out; omega
          case rel => exact ⟨(x9_2), (x10_2), (wrap64 (x11_2 + 1)), Za, Za, Za, H', ⟨by have := HJ2.out; have := HK2.out; omega⟩, ⟨(Zcp HO_8)⟩, ⟨(Zd BK629)⟩, ⟨(Ze GE629)⟩⟩
       ·rw [if_neg c25] at H
        exact absurd H (by simp)
      ·rw [if_neg c24] at H
       have c24b0 := decide_eq_false c24; clear c24; simp only [Option.some.injEq, Prod.mk.injEq] at H; obtain ⟨rfl, rfl, rfl⟩ := H; obtain ⟨Ao46, co46, eo46⟩ := Kd.R_slice HO_8.out; subst eo46
       go_wp2
       go_ret3
       exact ⟨Zj, (Ze GE629)⟩
   ·rw [if_neg c20] at H
    have c20b0 := beq_eq_false_iff_ne.mpr c20; have c20b1 := bne_iff_ne.mpr c20; simp only [Option.some.injEq, Prod.mk.injEq] at H; obtain ⟨rfl, rfl, rfl⟩ := H
    go_wp2
    go_ret3
    exact ⟨Zj, (Ze GE629)⟩
def impl_FireTimes.f (k : Nat) (l0_0 : List (S104)) (l0_1 : List (S62)) (l0_2 : List (S39)) : Option (List Int × Int) := (impl_IsShow.f k l0_0 l0_1 l0_2).bind fun t644 => (if t644 = true then ((impl_fireTimes.f k l0_0 l0_1 l0_2).bind fun t645 => (some (t645, 0))) else (some (([] : List Int), 1)))
set_option maxHeartbeats 8000000 in
set_option maxRecDepth 100000 in
theorem impl_FireTimes.calls (k : Nat) (A0_0 : Option Addr) (c0_0 : Nat) (l0_0 : List (S104)) (A0_1 : Option Addr) (c0_1 : Nat) (l0_1 : List (S62)) (A0_2 : Option Addr) (c0_2 : Nat) (l0_2 : List (S39)) (r1 : List Int) (r2 : Int) (w : World) (hr0_0 : Kd.C k104 w A0_0 l0_0.length l0_0) (hc0_0 : l0_0.length ≤ c0_0) (hr0_1 : Kd.C k62 w A0_1 l0_1.length l0_1) (hc0_1 : l0_1.length ≤ c0_1) (hr0_2 : Kd.C k39 w A0_2 l0_2.length l0_2) (hc0_2 : l0_2.length ≤ c0_2) (h : impl_FireTimes.f k l0_0 l0_1 l0_2 = some (r1, r2)) :
  Calls Try.prog 12 #[.agg #[.slice A0_0 l0_0.length c0_0, .slice A0_1 l0_1.length c0_1, .slice A0_2 l0_2.length c0_2]] w fun e w' => ∃ v0_ : Value, e = .returned (.tuple #[v0_, .int .i64 r2]) ∧ Kd.R (Kd.int .i64) 2 w' w.heap.size (fun _ => True) v0_ r1 ∧ Below w.heap.size w w' := by
 have hu28 := Try.underlying28; have HR0_0 := am_ hr0_0; have HC0_0 := am_ hc0_0; clear hr0_0 hc0_0; have HR0_1 := am_ hr0_1; have HC0_1 := am_ hc0_1; clear hr0_1 hc0_1; have HR0_2 := am_ hr0_2; have HC0_2 := am_ hc0_2; clear hr0_2 hc0_2; have HB := am_ (Below.refl w.heap.size w); have H : ((impl_IsShow.f k l0_0 l0_1 l0_2).bind fun t644 => (if t644 = true then ((impl_fireTimes.f k l0_0 l0_1 l0_2).bind fun t645 => (some (t645, 0))) else (some (([] : List Int), 1)))) = some (r1, r2) := h; clear h; replace H := Option.bind_eq_some_iff.mp H; obtain ⟨t644, A20, H⟩ := H; have A2 := am_ A20; clear A20; have HS_ := am_ H; clear H
 go_enter Try.func12, Try.ntmps12
 go_wp2_with (first | ((with_reducible refine gate_dst (N := 1) rfl ?_); refine boxZ 1 #[.slice A0_0 l0_0.length c0_0, .slice A0_1 l0_1.length c0_1, .slice A0_2 l0_2.length c0_2] 28 ?_; intro gb643 hg w5 hbox hb; replace BK643 := am_ (hbox); replace GW643 := am_ ((Zp : w.heap.size ≤ gb643)); replace GE643 := GW643; replace HB := (bsZ Zc hb); clear hb hbox hg; refine ci3 BK643 ?_; intros) | ((with_reducible refine gate_callee (f := 25) rfl ?_); refine gZ 5 Try.func25 #[.agg #[.slice A0_0 l0_0.length c0_0, .slice A0_1 l0_1.length c0_1, .slice A0_2 l0_2.length c0_2]] ?_; (with_reducible refine (impl_IsShow.calls k _ _ l0_0 _ _ l0_1 _ _ l0_2 t644 _ ?_ ?_ ?_ ?_ ?_ ?_ A2.out).mono ?_); exact (Zs HR0_0); exact HC0_0.out; exact (Zs HR0_1); exact HC0_1.out; exact (Zs HR0_2); exact HC0_2.out; rintro e w7 ⟨rfl, hb⟩; refine ⟨_, rfl, ?_⟩; replace BK643 := (bkZ BK643 hb); replace HB := (bsZ (Ze GE643) hb); clear hb; refine ?roundEnd))
 case roundEnd =>
  by_cases c3 : t644 = true
  ·have H := HS_.out
   clear HS_; subst c3
   have H1 : ((impl_fireTimes.f k l0_0 l0_1 l0_2).bind fun t645 => (some (t645, 0))) = some (r1, r2) := by rw [if_pos rfl] at H; exact H
   clear H; have H := H1; clear H1; replace H := Option.bind_eq_some_iff.mp H; obtain ⟨t645, A40, H⟩ := H; have A4 := am_ A40; clear A40; simp only [Option.some.injEq, Prod.mk.injEq] at H; obtain ⟨rfl, rfl⟩ := H; refine ci3 BK643 ?_; intros
   go_wp2_with (first | ((with_reducible refine gate_callee (f := 54) rfl ?_); refine gZ 8 Try.func54 #[.agg #[.slice A0_0 l0_0.length c0_0, .slice A0_1 l0_1.length c0_1, .slice A0_2 l0_2.length c0_2]] ?_; (with_reducible refine (impl_fireTimes.calls k _ _ l0_0 _ _ l0_1 _ _ l0_2 t645 _ ?_ ?_ ?_ ?_ ?_ ?_ A4.out).mono ?_); exact (Zs HR0_0); exact HC0_0.out; exact (Zs HR0_1); exact HC0_1.out; exact (Zs HR0_2); exact HC0_2.out; rintro e w9 ⟨v646, rfl, ho0, hb⟩; refine ⟨_, rfl, ?_⟩; replace HO647 := am_ (Kd.R_lower ho0 (below_size (Ze GE643))); replace BK643 := (bkZ BK643 hb); replace HB := (bsZ (Ze GE643) hb); clear hb ho0))
   go_ret2
   exact ⟨_, Zj, (Zz HO647), (Ze GE643)⟩
  ·have H := HS_.out
   clear HS_; replace c3 := Bool.eq_false_iff.mpr c3; subst c3
   have H1 : (some (([] : List Int), 1)) = some (r1, r2) := by rw [if_neg (show ¬ (false = true) by decide)] at H; exact H
   clear H; have H := H1; clear H1; simp only [Option.some.injEq, Prod.mk.injEq] at H; obtain ⟨rfl, rfl⟩ := H
   go_wp2_with (first | fail)
   go_ret2
   exact ⟨_, Zj, Zag, (Ze GE643)⟩
def spec_FireTimes.f (k : Nat) (l0_0 : List (S104)) (l0_1 : List (S62)) (l0_2 : List (S39)) : Option (List Int × Int) := (spec_IsShow.f k l0_0 l0_1 l0_2).bind fun t649 => (if t649 = true then ((spec_l08Times.f k l0_0 l0_1 l0_2).bind fun t650 => (some (t650, 0))) else (some (([] : List Int), 1)))
set_option maxHeartbeats 8000000 in
set_option maxRecDepth 100000 in
theorem spec_FireTimes.calls (k : Nat) (A0_0 : Option Addr) (c0_0 : Nat) (l0_0 : List (S104)) (A0_1 : Option Addr) (c0_1 : Nat) (l0_1 : List (S62)) (A0_2 : Option Addr) (c0_2 : Nat) (l0_2 : List (S39)) (r1 : List Int) (r2 : Int) (w : World) (hr0_0 : Kd.C k104 w A0_0 l0_0.length l0_0) (hc0_0 : l0_0.length ≤ c0_0) (hr0_1 : Kd.C k62 w A0_1 l0_1.length l0_1) (hc0_1 : l0_1.length ≤ c0_1) (hr0_2 : Kd.C k39 w A0_2 l0_2.length l0_2) (hc0_2 : l0_2.length ≤ c0_2) (h : spec_FireTimes.f k l0_0 l0_1 l0_2 = some (r1, r2)) :
  Calls Try.prog 13 #[.agg #[.slice A0_0 l0_0.length c0_0, .slice A0_1 l0_1.length c0_1, .slice A0_2 l0_2.length c0_2]] w fun e w' => ∃ v0_ : Value, e = .returned (.tuple #[v0_, .int .i64 r2]) ∧ Kd.R (Kd.int .i64) 2 w' w.heap.size (fun _ => True) v0_ r1 ∧ Below w.heap.size w w' := by
 have hu28 := Try.underlying28; have HR0_0 := am_ hr0_0; have HC0_0 := am_ hc0_0; clear hr0_0 hc0_0; have HR0_1 := am_ hr0_1; have HC0_1 := am_ hc0_1; clear hr0_1 hc0_1; have HR0_2 := am_ hr0_2; have HC0_2 := am_ hc0_2; clear hr0_2 hc0_2; have HB := am_ (Below.refl w.heap.size w); have H : ((spec_IsShow.f k l0_0 l0_1 l0_2).bind fun t649 => (if t649 = true then ((spec_l08Times.f k l0_0 l0_1 l0_2).bind fun t650 => (some (t650, 0))) else (some (([] : List Int), 1)))) = some (r1, r2) := h; clear h; replace H := Option.bind_eq_some_iff.mp H; obtain ⟨t649, A20, H⟩ := H; have A2 := am_ A20; clear A20; have HS_ := am_ H; clear H
 go_enter Try.func13, Try.ntmps13
 go_wp2_with (first | ((with_reducible refine gate_dst (N := 1) rfl ?_); refine boxZ 1 #[.slice A0_0 l0_0.length c0_0, .slice A0_1 l0_1.length c0_1, .slice A0_2 l0_2.length c0_2] 28 ?_; intro gb648 hg w5 hbox hb; replace BK648 := am_ (hbox); replace GW648 := am_ ((Zp : w.heap.size ≤ gb648)); replace GE648 := GW648; replace HB := (bsZ Zc hb); clear hb hbox hg; refine ci3 BK648 ?_; intros) | ((with_reducible refine gate_callee (f := 56) rfl ?_); refine gZ 5 Try.func56 #[.agg #[.slice A0_0 l0_0.length c0_0, .slice A0_1 l0_1.length c0_1, .slice A0_2 l0_2.length c0_2]] ?_; (with_reducible refine (spec_IsShow.calls k _ _ l0_0 _ _ l0_1 _ _ l0_2 t649 _ ?_ ?_ ?_ ?_ ?_ ?_ A2.out).mono ?_); exact (Zs HR0_0); exact HC0_0.out; exact (Zs HR0_1); exact HC0_1.out; exact (Zs HR0_2); exact HC0_2.out; rintro e w7 ⟨rfl, hb⟩; refine ⟨_, rfl, ?_⟩; replace BK648 := (bkZ BK648 hb); replace HB := (bsZ (Ze GE648) hb); clear hb; refine ?roundEnd))
 case roundEnd =>
  by_cases c3 : t649 = true
  ·have H := HS_.out
   clear HS_; subst c3
   have H1 : ((spec_l08Times.f k l0_0 l0_1 l0_2).bind fun t650 => (some (t650, 0))) = some (r1, r2) := by rw [if_pos rfl] at H; exact H
   clear H; have H := H1; clear H1; replace H := Option.bind_eq_some_iff.mp H; obtain ⟨t650, A40, H⟩ := H; have A4 := am_ A40; clear A40; simp only [Option.some.injEq, Prod.mk.injEq] at H; obtain ⟨rfl, rfl⟩ := H; refine ci3 BK648 ?_; intros
   go_wp2_with (first | ((with_reducible refine gate_callee (f := 58) rfl ?_); refine gZ 8 Try.func58 #[.agg #[.slice A0_0 l0_0.length c0_0, .slice A0_1 l0_1.length c0_1, .slice A0_2 l0_2.length c0_2]] ?_; (with_reducible refine (spec_l08Times.calls k _ _ l0_0 _ _ l0_1 _ _ l0_2 t650 _ ?_ ?_ ?_ ?_ ?_ ?_ A4.out).mono ?_); exact (Zs HR0_0); exact HC0_0.out; exact (Zs HR0_1); exact HC0_1.out; exact (Zs HR0_2); exact HC0_2.out; rintro e w9 ⟨v651, rfl, ho0, hb⟩; refine ⟨_, rfl, ?_⟩; replace HO652 := am_ (Kd.R_lower ho0 (below_size (Ze GE648))); replace BK648 := (bkZ BK648 hb); replace HB := (bsZ (Ze GE648) hb); clear hb ho0))
   go_ret2
   exact ⟨_, Zj, (Zz HO652), (Ze GE648)⟩
  ·have H := HS_.out
   clear HS_; replace c3 := Bool.eq_false_iff.mpr c3; subst c3
   have H1 : (some (([] : List Int), 1)) = some (r1, r2) := by rw [if_neg (show ¬ (false = true) by decide)] at H; exact H
   clear H; have H := H1; clear H1; simp only [Option.some.injEq, Prod.mk.injEq] at H; obtain ⟨rfl, rfl⟩ := H
   go_wp2_with (first | fail)
   go_ret2
   exact ⟨_, Zj, Zag, (Ze GE648)⟩
def laws_likeInts.l0 : Nat → List Int → List Int → Int → Option (Bool)
 | 0, _, _, _ => none
 | k + 1, x0, x1, x5 => if x5 < (x0.length : Int) then (if 0 ≤ x5 then (if x5 < (x1.length : Int) then (if (rd x0 x5) = (rd x1 x5) then (laws_likeInts.l0 k x0 x1 (wrap64 (x5 + 1))) else (some false)) else (none)) else (none)) else (some true)
def laws_likeInts.f (k : Nat) (l0 : List Int) (l1 : List Int) : Option (Bool) := if (l0.length : Int) = (l1.length : Int) then (laws_likeInts.l0 k l0 l1 0) else (some false)
set_option maxHeartbeats 8000000 in
set_option maxRecDepth 100000 in
theorem laws_likeInts.calls (k : Nat) (A0 : Option Addr) (c0 : Nat) (l0 : List Int) (A1 : Option Addr) (c1 : Nat) (l1 : List Int) (r : Bool) (w : World) (hr0 : Kd.C (Kd.int .i64) w A0 l0.length l0) (hc0 : l0.length ≤ c0) (hr1 : Kd.C (Kd.int .i64) w A1 l1.length l1) (hc1 : l1.length ≤ c1) (h : laws_likeInts.f k l0 l1 = some r) :
  Calls Try.prog 14 #[.slice A0 l0.length c0, .slice A1 l1.length c1] w fun e w' => e = .returned (.bool r) ∧ Drawn0 w w' := by
 have HR0 := am_ hr0; have HC0 := am_ hc0; clear hr0 hc0; have HR1 := am_ hr1; have HC1 := am_ hc1; clear hr1 hc1; have H : (if (l0.length : Int) = (l1.length : Int) then (laws_likeInts.l0 k l0 l1 0) else (some false)) = some r := h; clear h
 by_cases c3 : (l0.length : Int) = (l1.length : Int)
 ·rw [if_pos c3] at H
  have c3b0 := beq_iff_eq.mpr c3; have c3b1 := bne_eq_false_iff_eq.mpr c3
  have c3b2 : (l0.length == l1.length) = true := by first | simpa using c3 | (simp at c3 ⊢; omega)
  clear c3; have H' := am_ H; clear H
  go_enter Try.func14, Try.ntmps14
  go_wp2
  repeat (go_quiet (fail); try go_wp2)
  go_loopg [5] k (fun kq v5 w' => ∃ (x5_1 : Int), v5 = .int .i64 x5_1 ∧ Aside0 (laws_likeInts.l0 kq l0 l1 x5_1 = some r) ∧ Aside0 (kq ≤ k) ∧ Drawn0 w w')
  case atStart => exact ⟨(0), Za, H', ⟨Nat.le_refl _⟩, Zb⟩
  case round =>
   clear H'
   try clear c1
   try clear p2
   try clear c3
   try clear c3b0
   try clear c3b1
   try clear c3b2
   obtain ⟨x5_1, rfl, HA, HK1, ⟨m1, rfl⟩⟩ := hrel
   cases gk with
   | zero => exact absurd HA.out (by simp [laws_likeInts.l0])
   | succ k1 =>
    have H := HA.out; clear HA; simp only [laws_likeInts.l0] at H
    by_cases c4 : x5_1 < (l0.length : Int)
    ·rw [if_pos c4] at H
     have c4b0 := decide_eq_true c4; clear c4
     by_cases c5 : 0 ≤ x5_1
     ·rw [if_pos c5] at H
      have c5b0 := decide_eq_true c5; clear c5
      by_cases c6 : x5_1 < (l1.length : Int)
      ·rw [if_pos c6] at H
       have c6b0 := decide_eq_true c6; clear c6
       by_cases c7 : (rd l0 x5_1) = (rd l1 x5_1)
       ·rw [if_pos c7] at H
        have c7b0 := beq_iff_eq.mpr c7; have c7b1 := bne_eq_false_iff_eq.mpr c7; clear c7; have H' := am_ H; clear H; have p653 : 0 ≤ (x5_1 : Int) := of_decide_eq_true Zg; have q653 : x5_1 < (l0.length : Int) := of_decide_eq_true Zg; obtain ⟨ad653, e653, hx653_0⟩ := Kd.at_int HR0.out x5_1 p653 q653
        cases e653
        replace p653 := eq_true p653; replace q653 := eq_true q653; have p654 : 0 ≤ (x5_1 : Int) := of_decide_eq_true Zg; have q654 : x5_1 < (l1.length : Int) := of_decide_eq_true Zg; obtain ⟨ad654, e654, hx654_0⟩ := Kd.at_int HR1.out x5_1 p654 q654
        cases e654
        replace p654 := eq_true p654; replace q654 := eq_true q654
        go_wp2
        repeat (go_quiet (fail); try go_wp2)
        go_roundg k1
        case measure => have := HK1.out; omega
        case rel => exact ⟨(wrap64 (x5_1 + 1)), Za, H', ⟨Zi⟩, Zb⟩
       ·rw [if_neg c7] at H
        have c7b0 := beq_eq_false_iff_ne.mpr c7; have c7b1 := bne_iff_ne.mpr c7; obtain rfl := Option.some.inj H; have p653 : 0 ≤ (x5_1 : Int) := of_decide_eq_true Zg; have q653 : x5_1 < (l0.length : Int) := of_decide_eq_true Zg; obtain ⟨ad653, e653, hx653_0⟩ := Kd.at_int HR0.out x5_1 p653 q653
        cases e653
        replace p653 := eq_true p653; replace q653 := eq_true q653; have p654 : 0 ≤ (x5_1 : Int) := of_decide_eq_true Zg; have q654 : x5_1 < (l1.length : Int) := of_decide_eq_true Zg; obtain ⟨ad654, e654, hx654_0⟩ := Kd.at_int HR1.out x5_1 p654 q654
        cases e654
        replace p654 := eq_true p654; replace q654 := eq_true q654
        go_wp2
        repeat (go_quiet (fail); try go_wp2)
        go_ret
        exact ⟨Za, Zb⟩
      ·rw [if_neg c6] at H
       exact absurd H (by simp)
     ·rw [if_neg c5] at H
      exact absurd H (by simp)
    ·rw [if_neg c4] at H
     have c4b0 := decide_eq_false c4; clear c4; obtain rfl := Option.some.inj H
     go_wp2
     repeat (go_quiet (fail); try go_wp2)
     go_ret
     exact ⟨Za, Zb⟩
 ·rw [if_neg c3] at H
  have c3b0 := beq_eq_false_iff_ne.mpr c3; have c3b1 := bne_iff_ne.mpr c3
  have c3b2 : (l0.length == l1.length) = false := by first | simpa using c3 | (simp at c3 ⊢; omega)
  obtain rfl := Option.some.inj H
  go_enter Try.func14, Try.ntmps14
  go_wp2
  repeat (go_quiet (fail); try go_wp2)
  go_ret
  exact ⟨Za, Zb⟩
def laws_hasInt.l0 : Nat → List Int → Int → Int → Option (Bool)
 | 0, _, _, _ => none
 | k + 1, x0, x1, x5 => if x5 < (x0.length : Int) then (if 0 ≤ x5 then (if (rd x0 x5) = x1 then (some true) else (laws_hasInt.l0 k x0 x1 (wrap64 (x5 + 1)))) else (none)) else (some false)
def laws_hasInt.f (k : Nat) (l0 : List Int) (a1 : Int) : Option (Bool) := laws_hasInt.l0 k l0 a1 0
set_option maxHeartbeats 8000000 in
set_option maxRecDepth 100000 in
theorem laws_hasInt.calls (k : Nat) (A0 : Option Addr) (c0 : Nat) (l0 : List Int) (a1 : Int) (r : Bool) (w : World) (hr0 : Kd.C (Kd.int .i64) w A0 l0.length l0) (hc0 : l0.length ≤ c0) (h : laws_hasInt.f k l0 a1 = some r) :
  Calls Try.prog 15 #[.slice A0 l0.length c0, .int .i64 a1] w fun e w' => e = .returned (.bool r) ∧ Drawn0 w w' := by
 have HR0 := am_ hr0; have HC0 := am_ hc0; clear hr0 hc0; have H : (laws_hasInt.l0 k l0 a1 0) = some r := h; clear h; have H' := am_ H; clear H
 go_enter Try.func15, Try.ntmps15
 go_wp2
 go_loopg [5] k (fun kq v5 w' => ∃ (x5_1 : Int), v5 = .int .i64 x5_1 ∧ Aside0 (laws_hasInt.l0 kq l0 a1 x5_1 = some r) ∧ Aside0 (kq ≤ k) ∧ Drawn0 w w')
 case atStart => exact ⟨(0), Za, H', ⟨Nat.le_refl _⟩, Zb⟩
 case round =>
  clear H'
  try clear c1
  try clear p2
  obtain ⟨x5_1, rfl, HA, HK1, ⟨m1, rfl⟩⟩ := hrel
  cases gk with
  | zero => exact absurd HA.out (by simp [laws_hasInt.l0])
  | succ k1 =>
   have H := HA.out; clear HA; simp only [laws_hasInt.l0] at H
   by_cases c3 : x5_1 < (l0.length : Int)
   ·rw [if_pos c3] at H
    have c3b0 := decide_eq_true c3; clear c3
    by_cases c4 : 0 ≤ x5_1
    ·rw [if_pos c4] at H
     have c4b0 := decide_eq_true c4; clear c4
     by_cases c5 : (rd l0 x5_1) = a1
     ·rw [if_pos c5] at H
      have c5b0 := beq_iff_eq.mpr c5; have c5b1 := bne_eq_false_iff_eq.mpr c5; clear c5; obtain rfl := Option.some.inj H; have p655 : 0 ≤ (x5_1 : Int) := of_decide_eq_true Zg; have q655 : x5_1 < (l0.length : Int) := of_decide_eq_true Zg; obtain ⟨ad655, e655, hx655_0⟩ := Kd.at_int HR0.out x5_1 p655 q655
      cases e655
      replace p655 := eq_true p655; replace q655 := eq_true q655
      go_wp2
      go_ret
      exact ⟨Za, Zb⟩
     ·rw [if_neg c5] at H
      have c5b0 := beq_eq_false_iff_ne.mpr c5; have c5b1 := bne_iff_ne.mpr c5; have H' := am_ H; clear H; have p655 : 0 ≤ (x5_1 : Int) := of_decide_eq_true Zg; have q655 : x5_1 < (l0.length : Int) := of_decide_eq_true Zg; obtain ⟨ad655, e655, hx655_0⟩ := Kd.at_int HR0.out x5_1 p655 q655
      cases e655
      replace p655 := eq_true p655; replace q655 := eq_true q655
      go_wp2
      go_roundg k1
      case measure => have := HK1.out; omega
      case rel => exact ⟨(wrap64 (x5_1 + 1)), Za, H', ⟨Zi⟩, Zb⟩
    ·rw [if_neg c4] at H
     exact absurd H (by simp)
   ·rw [if_neg c3] at H
    have c3b0 := decide_eq_false c3; clear c3; obtain rfl := Option.some.inj H
    go_wp2
    go_ret
    exact ⟨Za, Zb⟩
mutual
def laws_FnBusiest.j0 : Nat → Int → Int → Int → Int → Bool → List (S104) → List (S62) → List (S39) → Option (Bool)
 | 0, _, _, _, _, _, _, _, _ => none
 | k + 1, x4, x5, x6, x7, x51, x668000, x668001, x668002 => if x51 = true then (some false) else (if x7 = 0 then ((impl_FireTimes.f k x668000 x668001 x668002).bind fun bt674 => ((spec_FireTimes.f k x668000 x668001 x668002).bind fun bt678 => (if bt674.2 = bt678.2 then ((laws_likeInts.f k bt674.1 bt678.1).bind fun t682 => (laws_FnBusiest.j1 k x4 x5 x6 bt674.1 bt674.2 (!t682))) else (laws_FnBusiest.j1 k x4 x5 x6 bt674.1 bt674.2 true)))) else (some true))
def laws_FnBusiest.j1 : Nat → Int → Int → Int → List Int → Int → Bool → Option (Bool)
 | 0, _, _, _, _, _, _ => none
 | k + 1, x4, x5, x6, x11, x12, x72 => if x72 = true then (some false) else (if x12 = 0 then ((laws_hasInt.f k x11 x5).bind fun t683 => (laws_FnBusiest.j2 k x4 x5 x6 x11 (!t683))) else (laws_FnBusiest.j2 k x4 x5 x6 x11 true))
def laws_FnBusiest.j2 : Nat → Int → Int → Int → List Int → Bool → Option (Bool)
 | 0, _, _, _, _, _ => none
 | k + 1, x4, x5, x6, x11, x80 => if x80 = true then (some false) else (laws_FnBusiest.l0 k x4 x5 x6 x11 0)
def laws_FnBusiest.l0 : Nat → Int → Int → Int → List Int → Int → Option (Bool)
 | 0, _, _, _, _, _ => none
 | k + 1, x4, x5, x6, x11, x15 => if x15 < (x11.length : Int) then (laws_FnBusiest.l1 k x4 x5 x6 x11 x15 0 0) else (some (decide (x6 > 0)))
def laws_FnBusiest.l1 : Nat → Int → Int → Int → List Int → Int → Int → Int → Option (Bool)
 | 0, _, _, _, _, _, _, _ => none
 | k + 1, x4, x5, x6, x11, x15, x16, x17 => if x17 < (x11.length : Int) then (if 0 ≤ x17 then (if 0 ≤ x15 then (if x15 < (x11.length : Int) then (if (rd x11 x17) ≥ (rd x11 x15) then (if (rd x11 x17) < (wrap64 ((rd x11 x15) + x4)) then (laws_FnBusiest.l1 k x4 x5 x6 x11 x15 (wrap64 (x16 + 1)) (wrap64 (x17 + 1))) else (laws_FnBusiest.l1 k x4 x5 x6 x11 x15 x16 (wrap64 (x17 + 1)))) else (laws_FnBusiest.l1 k x4 x5 x6 x11 x15 x16 (wrap64 (x17 + 1)))) else (none)) else (none)) else (none)) else (if x16 > x6 then (some false) else (if x16 = x6 then (if 0 ≤ x15 then (if x15 < (x11.length : Int) then (if (rd x11 x15) < x5 then (some false) else (if (rd x11 x15) = x5 then (laws_FnBusiest.l0 k x4 x5 x6 x11 (wrap64 (x15 + 1))) else (laws_FnBusiest.l0 k x4 x5 x6 x11 (wrap64 (x15 + 1))))) else (none)) else (none)) else (if 0 ≤ x15 then (if x15 < (x11.length : Int) then (if (rd x11 x15) = x5 then (some false) else (laws_FnBusiest.l0 k x4 x5 x6 x11 (wrap64 (x15 + 1)))) else (none)) else (none))))
end
def laws_FnBusiest.f (k : Nat) (l0 : List Int) : Option (Bool) := (laws_big.f l0).bind fun t656 => (if t656 = true then (some true) else ((spec_DrawBusiestTime.f k l0).bind fun bt657 => ((impl_BusiestTime.f k bt657.1 bt657.2.1 bt657.2.2.1 bt657.2.2.2).bind fun bt668 => ((spec_BusiestTime.f k bt657.1 bt657.2.1 bt657.2.2.1 bt657.2.2.2).bind fun bt671 => (if bt668.2.2 = bt671.2.2 then (if bt668.1 = bt671.1 then (laws_FnBusiest.j0 k bt657.2.2.2 bt668.1 bt668.2.1 bt668.2.2 (bt668.2.1 != bt671.2.1) bt657.1 bt657.2.1 bt657.2.2.1) else (laws_FnBusiest.j0 k bt657.2.2.2 bt668.1 bt668.2.1 bt668.2.2 true bt657.1 bt657.2.1 bt657.2.2.1)) else (laws_FnBusiest.j0 k bt657.2.2.2 bt668.1 bt668.2.1 bt668.2.2 true bt657.1 bt657.2.1 bt657.2.2.1))))))
theorem laws_FnBusiest.j0_true (k : Nat) (x4 : Int) (x5 : Int) (x6 : Int) (x7 : Int) (x668000 : List (S104)) (x668001 : List (S62)) (x668002 : List (S39)) : ¬ laws_FnBusiest.j0 k x4 x5 x6 x7 true x668000 x668001 x668002 = some true := by
 cases k with
 | zero => simp [laws_FnBusiest.j0]
 | succ k => simp [laws_FnBusiest.j0]
theorem laws_FnBusiest.j1_true (k : Nat) (x4 : Int) (x5 : Int) (x6 : Int) (x11 : List Int) (x12 : Int) : ¬ laws_FnBusiest.j1 k x4 x5 x6 x11 x12 true = some true := by
 cases k with
 | zero => simp [laws_FnBusiest.j1]
 | succ k => simp [laws_FnBusiest.j1]
theorem laws_FnBusiest.j2_true (k : Nat) (x4 : Int) (x5 : Int) (x6 : Int) (x11 : List Int) : ¬ laws_FnBusiest.j2 k x4 x5 x6 x11 true = some true := by
 cases k with
 | zero => simp [laws_FnBusiest.j2]
 | succ k => simp [laws_FnBusiest.j2]
set_option maxHeartbeats 8000000 in
set_option maxRecDepth 100000 in
theorem laws_FnBusiest.calls (k : Nat) (A0 : Option Addr) (c0 : Nat) (l0 : List Int) (r : Bool) (w : World) (hr0 : Kd.C (Kd.int .u8) w A0 l0.length l0) (hc0 : l0.length ≤ c0) (h : laws_FnBusiest.f k l0 = some r) (hr_ : r = true) :
  Calls Try.prog 3 #[.slice A0 l0.length c0] w fun e w' => e = .returned (.bool r) ∧ Below w.heap.size w w' := by
 have HR_ := am_ hr_; clear hr_; have hu28 := Try.underlying28; have HR0 := am_ hr0; have HC0 := am_ hc0; clear hr0 hc0; have HB := am_ (Below.refl w.heap.size w); have H : ((laws_big.f l0).bind fun t656 => (if t656 = true then (some true) else ((spec_DrawBusiestTime.f k l0).bind fun bt657 => ((impl_BusiestTime.f k bt657.1 bt657.2.1 bt657.2.2.1 bt657.2.2.2).bind fun bt668 => ((spec_BusiestTime.f k bt657.1 bt657.2.1 bt657.2.2.1 bt657.2.2.2).bind fun bt671 => (if bt668.2.2 = bt671.2.2 then (if bt668.1 = bt671.1 then (laws_FnBusiest.j0 k bt657.2.2.2 bt668.1 bt668.2.1 bt668.2.2 (bt668.2.1 != bt671.2.1) bt657.1 bt657.2.1 bt657.2.2.1) else (laws_FnBusiest.j0 k bt657.2.2.2 bt668.1 bt668.2.1 bt668.2.2 true bt657.1 bt657.2.1 bt657.2.2.1)) else (laws_FnBusiest.j0 k bt657.2.2.2 bt668.1 bt668.2.1 bt668.2.2 true bt657.1 bt657.2.1 bt657.2.2.1))))))) = some r := h; clear h; replace H := Option.bind_eq_some_iff.mp H; obtain ⟨t656, A20, H⟩ := H; have A2 := am_ A20; clear A20
 by_cases c3 : t656 = true
 ·subst c3
  have H1 : (some true) = some r := by rw [if_pos rfl] at H; exact H
  clear H; have H := H1; clear H1; obtain rfl := Option.some.inj H
  go_enter Try.func3, Try.ntmps3
  go_wp2_with (first | (go_at_call 8; (with_reducible refine (laws_big.calls _ _ l0 true _ ?_ ?_ A2.out).mono ?_); exact (Zcn HR0); exact HC0.out; rintro e w' ⟨rfl, ⟨nd, rfl⟩⟩; (try first | exact ⟨rfl, _, World.drewN_drewN _ _ _⟩ | exact ⟨rfl, _, Eq.trans (World.drewN_drewN _ _ _) (congrArg (World.drewN _) (Nat.add_assoc _ _ _))⟩)))
  repeat (go_quiet (first | (go_at_call 8; (with_reducible refine (laws_big.calls _ _ l0 true _ ?_ ?_ A2.out).mono ?_); exact (Zcn HR0); exact HC0.out; rintro e w' ⟨rfl, ⟨nd, rfl⟩⟩; (try first | exact ⟨rfl, _, World.drewN_drewN _ _ _⟩ | exact ⟨rfl, _, Eq.trans (World.drewN_drewN _ _ _) (congrArg (World.drewN _) (Nat.add_assoc _ _ _))⟩))); try go_wp2_with (first | (go_at_call 8; (with_reducible refine (laws_big.calls _ _ l0 true _ ?_ ?_ A2.out).mono ?_); exact (Zcn HR0); exact HC0.out; rintro e w' ⟨rfl, ⟨nd, rfl⟩⟩; (try first | exact ⟨rfl, _, World.drewN_drewN _ _ _⟩ | exact ⟨rfl, _, Eq.trans (World.drewN_drewN _ _ _) (congrArg (World.drewN _) (Nat.add_assoc _ _ _))⟩))))
  go_ret
  exact ⟨Zj, Zc⟩
 ·replace c3 := Bool.eq_false_iff.mpr c3
  subst c3
  have H1 : ((spec_DrawBusiestTime.f k l0).bind fun bt657 => ((impl_BusiestTime.f k bt657.1 bt657.2.1 bt657.2.2.1 bt657.2.2.2).bind fun bt668 => ((spec_BusiestTime.f k bt657.1 bt657.2.1 bt657.2.2.1 bt657.2.2.2).bind fun bt671 => (if bt668.2.2 = bt671.2.2 then (if bt668.1 = bt671.1 then (laws_FnBusiest.j0 k bt657.2.2.2 bt668.1 bt668.2.1 bt668.2.2 (bt668.2.1 != bt671.2.1) bt657.1 bt657.2.1 bt657.2.2.1) else (laws_FnBusiest.j0 k bt657.2.2.2 bt668.1 bt668.2.1 bt668.2.2 true bt657.1 bt657.2.1 bt657.2.2.1)) else (laws_FnBusiest.j0 k bt657.2.2.2 bt668.1 bt668.2.1 bt668.2.2 true bt657.1 bt657.2.1 bt657.2.2.1))))) = some r := by rw [if_neg (show ¬ (false = true) by decide)] at H; exact H
  clear H; have H := H1; clear H1; replace H := Option.bind_eq_some_iff.mp H; obtain ⟨⟨t657, t660, t663, t666⟩, A40, H⟩ := H; replace H : ((impl_BusiestTime.f k t657 t660 t663 t666).bind fun bt668 => ((spec_BusiestTime.f k t657 t660 t663 t666).bind fun bt671 => (if bt668.2.2 = bt671.2.2 then (if bt668.1 = bt671.1 then (laws_FnBusiest.j0 k t666 bt668.1 bt668.2.1 bt668.2.2 (bt668.2.1 != bt671.2.1) t657 t660 t663) else (laws_FnBusiest.j0 k t666 bt668.1 bt668.2.1 bt668.2.2 true t657 t660 t663)) else (laws_FnBusiest.j0 k t666 bt668.1 bt668.2.1 bt668.2.2 true t657 t660 t663)))) = some r := H; have A4 := am_ A40; clear A40; replace H := Option.bind_eq_some_iff.mp H; obtain ⟨⟨t668, t669, t670⟩, A50, H⟩ := H; replace H : ((spec_BusiestTime.f k t657 t660 t663 t666).bind fun bt671 => (if t670 = bt671.2.2 then (if t668 = bt671.1 then (laws_FnBusiest.j0 k t666 t668 t669 t670 (t669 != bt671.2.1) t657 t660 t663) else (laws_FnBusiest.j0 k t666 t668 t669 t670 true t657 t660 t663)) else (laws_FnBusiest.j0 k t666 t668 t669 t670 true t657 t660 t663))) = some r := H; have A5 := am_ A50; clear A50; replace H := Option.bind_eq_some_iff.mp H; obtain ⟨⟨t671, t672, t673⟩, A60, H⟩ := H; replace H : (if t670 = t673 then (if t668 = t671 then (laws_FnBusiest.j0 k t666 t668 t669 t670 (t669 != t672) t657 t660 t663) else (laws_FnBusiest.j0 k t666 t668 t669 t670 true t657 t660 t663)) else (laws_FnBusiest.j0 k t666 t668 t669 t670 true t657 t660 t663)) = some r := H; have A6 := am_ A60; clear A60; have HC7 := am_ H; clear H
  go_enter Try.func3, Try.ntmps3
  go_upto_region 6 with (first | (go_at_call 8; (with_reducible refine (laws_big.calls _ _ l0 false _ ?_ ?_ A2.out).mono ?_); exact (Zcn HR0); exact HC0.out; rintro e w' ⟨rfl, ⟨nd, rfl⟩⟩; (try first | exact ⟨rfl, _, World.drewN_drewN _ _ _⟩ | exact ⟨rfl, _, Eq.trans (World.drewN_drewN _ _ _) (congrArg (World.drewN _) (Nat.add_assoc _ _ _))⟩)) | (go_at_call 9; (with_reducible refine (spec_DrawBusiestTime.calls k _ _ l0 t657 t660 t663 t666 _ ?_ ?_ A4.out).mono ?_); exact (Zcn HR0); exact HC0.out; rintro e w8 ⟨v658, v661, v664, rfl, ho0, ho1, ho2, hb⟩; replace HO659 := am_ (Kd.R_lower ho0 (below_size Zc)); replace HO662 := am_ (Kd.R_lower ho1 (below_size Zc)); replace HO665 := am_ (Kd.R_lower ho2 (below_size Zc)); replace HB := (bsZ Zc hb); clear hb ho0 ho1 ho2) | ((with_reducible refine gate_dst (N := 3) rfl ?_); refine boxZ 3 #[.slice none 0 0, .slice none 0 0, .slice none 0 0] 28 ?_; intro gb667 hg w9 hbox hb; replace HO659 := (hbZ HO659 hb); replace HO662 := (hbZ HO662 hb); replace HO665 := (hbZ HO665 hb); replace BK667 := am_ (hbox); replace GW667 := am_ ((Zp : w.heap.size ≤ gb667)); replace GE667 := GW667; replace HB := (bsZ Zc hb); clear hb hbox hg; obtain ⟨Ao10, co10, eo10⟩ := Kd.R_slice HO659.out; subst eo10; obtain ⟨hcz11_0, hcz11_1, hcz11_2, hfz11_0, hfz11_1, hfz11_2⟩ := cz3 BK667; obtain ⟨Ao12, co12, eo12⟩ := Kd.R_slice HO662.out; subst eo12; obtain ⟨Ao13, co13, eo13⟩ := Kd.R_slice HO665.out; subst eo13) | (go_at_call 10; (with_reducible refine (impl_BusiestTime.calls k _ _ t657 _ _ t660 _ _ t663 t666 t668 t669 t670 _ ?_ ?_ ?_ ?_ ?_ ?_ A5.out).mono ?_); refine (Kd.R_reads' (e := 104) (base := w.heap.size) (ok := fun k_ => True) (n := t657.length) (c := co10) ?_).2.2; exact (Zar HO659 BK667); exact (Kd.R_reads' HO659.out).2.1; refine (Kd.R_reads' (e := 62) (base := w.heap.size) (ok := fun k_ => True) (n := t660.length) (c := co12) ?_).2.2; exact (Zar HO662 BK667); exact (Kd.R_reads' HO662.out).2.1; refine (Kd.R_reads' (e := 39) (base := w.heap.size) (ok := fun k_ => True) (n := t663.length) (c := co13) ?_).2.2; exact (Zar HO665 BK667); exact (Kd.R_reads' HO665.out).2.1; rintro e w14 ⟨rfl, hb⟩; replace HO659 := am_ (Kd.R_below (Zar HO659 BK667) hb); replace HO662 := am_ (Kd.R_below (Zar HO662 BK667) hb); replace HO665 := am_ (Kd.R_below (Zar HO665 BK667) hb); replace BK667 := am_ (blk_below (g := gb667) (o := .cells #[.slice Ao10 t657.length co10, .slice Ao12 t660.length co12, .slice Ao13 t663.length co13] 28 (0, 0)) (bpZ BK667) hb); replace HB := (bsZ (Ze GE667) hb); clear hb; obtain ⟨hcz15_0, hcz15_1, hcz15_2, hfz15_0, hfz15_1, hfz15_2⟩ := cz3 BK667) | (go_at_call 11; (with_reducible refine (spec_BusiestTime.calls k _ _ t657 _ _ t660 _ _ t663 t666 t671 t672 t673 _ ?_ ?_ ?_ ?_ ?_ ?_ A6.out).mono ?_); exact (Zap HO659); exact (Kd.R_reads' HO659.out).2.1; exact (Zap HO662); exact (Kd.R_reads' HO662.out).2.1; exact (Zap HO665); exact (Kd.R_reads' HO665.out).2.1; rintro e w16 ⟨rfl, hb⟩; replace HO659 := (hbZ HO659 hb); replace HO662 := (hbZ HO662 hb); replace HO665 := (hbZ HO665 hb); replace BK667 := (bkZ BK667 hb); replace HB := (bsZ (Ze GE667) hb); clear hb))
  repeat (go_quiet (first | (go_at_call 8; (with_reducible refine (laws_big.calls _ _ l0 false _ ?_ ?_ A2.out).mono ?_); exact (Zcn HR0); exact HC0.out; rintro e w' ⟨rfl, ⟨nd, rfl⟩⟩; (try first | exact ⟨rfl, _, World.drewN_drewN _ _ _⟩ | exact ⟨rfl, _, Eq.trans (World.drewN_drewN _ _ _) (congrArg (World.drewN _) (Nat.add_assoc _ _ _))⟩)) | (go_at_call 9; (with_reducible refine (spec_DrawBusiestTime.calls k _ _ l0 t657 t660 t663 t666 _ ?_ ?_ A4.out).mono ?_); exact (Zcn HR0); exact HC0.out; rintro e w8 ⟨v658, v661, v664, rfl, ho0, ho1, ho2, hb⟩; replace HO659 := am_ (Kd.R_lower ho0 (below_size Zc)); replace HO662 := am_ (Kd.R_lower ho1 (below_size Zc)); replace HO665 := am_ (Kd.R_lower ho2 (below_size Zc)); replace HB := (bsZ Zc hb); clear hb ho0 ho1 ho2) | ((with_reducible refine gate_dst (N := 3) rfl ?_); refine boxZ 3 #[.slice none 0 0, .slice none 0 0, .slice none 0 0] 28 ?_; intro gb667 hg w9 hbox hb; replace HO659 := (hbZ HO659 hb); replace HO662 := (hbZ HO662 hb); replace HO665 := (hbZ HO665 hb); replace BK667 := am_ (hbox); replace GW667 := am_ ((Zp : w.heap.size ≤ gb667)); replace GE667 := GW667; replace HB := (bsZ Zc hb); clear hb hbox hg; obtain ⟨Ao10, co10, eo10⟩ := Kd.R_slice HO659.out; subst eo10; obtain ⟨hcz11_0, hcz11_1, hcz11_2, hfz11_0, hfz11_1, hfz11_2⟩ := cz3 BK667; obtain ⟨Ao12, co12, eo12⟩ := Kd.R_slice HO662.out; subst eo12; obtain ⟨Ao13, co13, eo13⟩ := Kd.R_slice HO665.out; subst eo13) | (go_at_call 10; (with_reducible refine (impl_BusiestTime.calls k _ _ t657 _ _ t660 _ _ t663 t666 t668 t669 t670 _ ?_ ?_ ?_ ?_ ?_ ?_ A5.out).mono ?_); refine (Kd.R_reads' (e := 104) (base := w.heap.size) (ok := fun k_ => True) (n := t657.length) (c := co10) ?_).2.2; exact (Zar HO659 BK667); exact (Kd.R_reads' HO659.out).2.1; refine (Kd.R_reads' (e := 62) (base := w.heap.size) (ok := fun k_ => True) (n := t660.length) (c := co12) ?_).2.2; exact (Zar HO662 BK667); exact (Kd.R_reads' HO662.out).2.1; refine (Kd.R_reads' (e := 39) (base := w.heap.size) (ok := fun k_ => True) (n := t663.length) (c := co13) ?_).2.2; exact (Zar HO665 BK667); exact (Kd.R_reads' HO665.out).2.1; rintro e w14 ⟨rfl, hb⟩; replace HO659 := am_ (Kd.R_below (Zar HO659 BK667) hb); replace HO662 := am_ (Kd.R_below (Zar HO662 BK667) hb); replace HO665 := am_ (Kd.R_below (Zar HO665 BK667) hb); replace BK667 := am_ (blk_below (g := gb667) (o := .cells #[.slice Ao10 t657.length co10, .slice Ao12 t660.length co12, .slice Ao13 t663.length co13] 28 (0, 0)) (bpZ BK667) hb); replace HB := (bsZ (Ze GE667) hb); clear hb; obtain ⟨hcz15_0, hcz15_1, hcz15_2, hfz15_0, hfz15_1, hfz15_2⟩ := cz3 BK667) | (go_at_call 11; (with_reducible refine (spec_BusiestTime.calls k _ _ t657 _ _ t660 _ _ t663 t666 t671 t672 t673 _ ?_ ?_ ?_ ?_ ?_ ?_ A6.out).mono ?_); exact (Zap HO659); exact (Kd.R_reads' HO659.out).2.1; exact (Zap HO662); exact (Kd.R_reads' HO662.out).2.1; exact (Zap HO665); exact (Kd.R_reads' HO665.out).2.1; rintro e w16 ⟨rfl, hb⟩; replace HO659 := (hbZ HO659 hb); replace HO662 := (hbZ HO662 hb); replace HO665 := (hbZ HO665 hb); replace BK667 := (bkZ BK667 hb); replace HB := (bsZ (Ze GE667) hb); clear hb)); go_upto_region 6 with (first | (go_at_call 8; (with_reducible refine (laws_big.calls _ _ l0 false _ ?_ ?_ A2.out).mono ?_); exact (Zcn HR0); exact HC0.out; rintro e w' ⟨rfl, ⟨nd, rfl⟩⟩; (try first | exact ⟨rfl, _, World.drewN_drewN _ _ _⟩ | exact ⟨rfl, _, Eq.trans (World.drewN_drewN _ _ _) (congrArg (World.drewN _) (Nat.add_assoc _ _ _))⟩)) | (go_at_call 9; (with_reducible refine (spec_DrawBusiestTime.calls k _ _ l0 t657 t660 t663 t666 _ ?_ ?_ A4.out).mono ?_); exact (Zcn HR0); exact HC0.out; rintro e w8 ⟨v658, v661, v664, rfl, ho0, ho1, ho2, hb⟩; replace HO659 := am_ (Kd.R_lower ho0 (below_size Zc)); replace HO662 := am_ (Kd.R_lower ho1 (below_size Zc)); replace HO665 := am_ (Kd.R_lower ho2 (below_size Zc)); replace HB := (bsZ Zc hb); clear hb ho0 ho1 ho2) | ((with_reducible refine gate_dst (N := 3) rfl ?_); refine boxZ 3 #[.slice none 0 0, .slice none 0 0, .slice none 0 0] 28 ?_; intro gb667 hg w9 hbox hb; replace HO659 := (hbZ HO659 hb); replace HO662 := (hbZ HO662 hb); replace HO665 := (hbZ HO665 hb); replace BK667 := am_ (hbox); replace GW667 := am_ ((Zp : w.heap.size ≤ gb667)); replace GE667 := GW667; replace HB := (bsZ Zc hb); clear hb hbox hg; obtain ⟨Ao10, co10, eo10⟩ := Kd.R_slice HO659.out; subst eo10; obtain ⟨hcz11_0, hcz11_1, hcz11_2, hfz11_0, hfz11_1, hfz11_2⟩ := cz3 BK667; obtain ⟨Ao12, co12, eo12⟩ := Kd.R_slice HO662.out; subst eo12; obtain ⟨Ao13, co13, eo13⟩ := Kd.R_slice HO665.out; subst eo13) | (go_at_call 10; (with_reducible refine (impl_BusiestTime.calls k _ _ t657 _ _ t660 _ _ t663 t666 t668 t669 t670 _ ?_ ?_ ?_ ?_ ?_ ?_ A5.out).mono ?_); refine (Kd.R_reads' (e := 104) (base := w.heap.size) (ok := fun k_ => True) (n := t657.length) (c := co10) ?_).2.2; exact (Zar HO659 BK667); exact (Kd.R_reads' HO659.out).2.1; refine (Kd.R_reads' (e := 62) (base := w.heap.size) (ok := fun k_ => True) (n := t660.length) (c := co12) ?_).2.2; exact (Zar HO662 BK667); exact (Kd.R_reads' HO662.out).2.1; refine (Kd.R_reads' (e := 39) (base := w.heap.size) (ok := fun k_ => True) (n := t663.length) (c := co13) ?_).2.2; exact (Zar HO665 BK667); exact (Kd.R_reads' HO665.out).2.1; rintro e w14 ⟨rfl, hb⟩; replace HO659 := am_ (Kd.R_below (Zar HO659 BK667) hb); replace HO662 := am_ (Kd.R_below (Zar HO662 BK667) hb); replace HO665 := am_ (Kd.R_below (Zar HO665 BK667) hb); replace BK667 := am_ (blk_below (g := gb667) (o := .cells #[.slice Ao10 t657.length co10, .slice Ao12 t660.length co12, .slice Ao13 t663.length co13] 28 (0, 0)) (bpZ BK667) hb); replace HB := (bsZ (Ze GE667) hb); clear hb; obtain ⟨hcz15_0, hcz15_1, hcz15_2, hfz15_0, hfz15_1, hfz15_2⟩ := cz3 BK667) | (go_at_call 11; (with_reducible refine (spec_BusiestTime.calls k _ _ t657 _ _ t660 _ _ t663 t666 t671 t672 t673 _ ?_ ?_ ?_ ?_ ?_ ?_ A6.out).mono ?_); exact (Zap HO659); exact (Kd.R_reads' HO659.out).2.1; exact (Zap HO662); exact (Kd.R_reads' HO662.out).2.1; exact (Zap HO665); exact (Kd.R_reads' HO665.out).2.1; rintro e w16 ⟨rfl, hb⟩; replace HO659 := (hbZ HO659 hb); replace HO662 := (hbZ HO662 hb); replace HO665 := (hbZ HO665 hb); replace BK667 := (bkZ BK667 hb); replace HB := (bsZ (Ze GE667) hb); clear hb)))
  (try simp only [Act.put, List.setIfInBounds_toArray, List.set_cons_zero, List.set_cons_succ])
  go_cut [51] (fun v51 wc => ∃ (kq : Nat) (x51_6 : Bool), v51 = .bool x51_6 ∧ Aside0 (laws_FnBusiest.j0 kq t666 t668 t669 t670 x51_6 t657 t660 t663 = some r) ∧ Aside0 (kq ≤ k) ∧ Aside0 (Kd.R k104 104 wc w.heap.size (fun _ => True) (.slice Ao10 t657.length co10) t657) ∧ Aside0 (Kd.R k62 62 wc w.heap.size (fun _ => True) (.slice Ao12 t660.length co12) t660) ∧ Aside0 (Kd.R k39 39 wc w.heap.size (fun _ => True) (.slice Ao13 t663.length co13) t663) ∧ Aside0 (wc.heap[gb667]? = some (.cells #[(.slice Ao10 t657.length co10), (.slice Ao12 t660.length co12), (.slice Ao13 t663.length co13)] 28 (0, 0))) ∧ Aside0 (Below w.heap.size w wc))
  case first => as_aux_lemma =>
   have H := HC7.out; clear HC7
   by_cases c17 : t670 = t673
   ·rw [if_pos c17] at H
    have c17b0 := beq_iff_eq.mpr c17; have c17b1 := bne_eq_false_iff_eq.mpr c17; clear c17
    (first | rw [c17b0] | (simp only [i64_w, i32_w]; rw [c17b0]) | skip)
    by_cases c18 : t668 = t671
    ·rw [if_pos c18] at H
     have c18b0 := beq_iff_eq.mpr c18; have c18b1 := bne_eq_false_iff_eq.mpr c18; clear c18; have H' := am_ H; clear H
     go_wp2
     repeat (go_quiet (fail); try go_wp2)
     go_meet
     case rel => exact ⟨_, ((t669 != t672)), Za, H', ⟨Zw⟩, ⟨(Zz HO659)⟩, ⟨(Zz HO662)⟩, ⟨(Zz HO665)⟩, ⟨(Zd BK667)⟩, ⟨(Ze GE667)⟩⟩
    ·rw [if_neg c18] at H
     have c18b0 := beq_eq_false_iff_ne.mpr c18; have c18b1 := bne_iff_ne.mpr c18; exact absurd (H.trans (congrArg some HR_.out)) (laws_FnBusiest.j0_true _ _ _ _ _ _ _ _)
   ·rw [if_neg c17] at H
    have c17b0 := beq_eq_false_iff_ne.mpr c17; have c17b1 := bne_iff_ne.mpr c17
    (first | rw [c17b0] | (simp only [i64_w, i32_w]; rw [c17b0]) | skip)
    exact absurd (H.trans (congrArg some HR_.out)) (laws_FnBusiest.j0_true _ _ _ _ _ _ _ _)
  case rest => as_aux_lemma =>
   clear HC7
   try clear c1
   try clear p2
   try clear c3
   try clear c17
   try clear c17b0
   try clear c17b1
   try clear c18
   try clear c18b0
   try clear c18b1
   obtain ⟨kq, x51_6, rfl, HA, HJ6, HO_668000, HO_668001, HO_668002, BK667, HB⟩ := hcut
   cases kq with
   | zero => exact absurd HA.out (by simp [laws_FnBusiest.j0])
   | succ kj6 =>
    have H := HA.out; clear HA; simp only [laws_FnBusiest.j0] at H
    by_cases c19 : x51_6 = true
    ·subst c19
     have H1 : (some false) = some r := by rw [if_pos rfl] at H; exact H
     clear H; have H := H1; clear H1; exact absurd ((Option.some.inj H).trans HR_.out) (by decide)
    ·replace c19 := Bool.eq_false_iff.mpr c19
     subst c19
     have H1 : (if t670 = 0 then ((impl_FireTimes.f kj6 t657 t660 t663).bind fun bt674 => ((spec_FireTimes.f kj6 t657 t660 t663).bind fun bt678 => (if bt674.2 = bt678.2 then ((laws_likeInts.f kj6 bt674.1 bt678.1).bind fun t682 => (laws_FnBusiest.j1 kj6 t666 t668 t669 bt674.1 bt674.2 (!t682))) else (laws_FnBusiest.j1 kj6 t666 t668 t669 bt674.1 bt674.2 true)))) else (some true)) = some r := by rw [if_neg (show ¬ (false = true) by decide)] at H; exact H
     clear H; have H := H1; clear H1
     by_cases c20 : t670 = 0
     ·rw [if_pos c20] at H
      have c20b0 := beq_iff_eq.mpr c20; have c20b1 := bne_eq_false_iff_eq.mpr c20; clear c20; replace H := Option.bind_eq_some_iff.mp H; obtain ⟨⟨t674, t677⟩, A210, H⟩ := H; replace H : ((spec_FireTimes.f kj6 t657 t660 t663).bind fun bt678 => (if t677 = bt678.2 then ((laws_likeInts.f kj6 t674 bt678.1).bind fun t682 => (laws_FnBusiest.j1 kj6 t666 t668 t669 t674 t677 (!t682))) else (laws_FnBusiest.j1 kj6 t666 t668 t669 t674 t677 true))) = some r := H; have A21 := am_ A210; clear A210; replace H := Option.bind_eq_some_iff.mp H; obtain ⟨⟨t678, t681⟩, A220, H⟩ := H; replace H : (if t677 = t681 then ((laws_likeInts.f kj6 t674 t678).bind fun t682 => (laws_FnBusiest.j1 kj6 t666 t668 t669 t674 t677 (!t682))) else (laws_FnBusiest.j1 kj6 t666 t668 t669 t674 t677 true)) = some r := H; have A22 := am_ A220; clear A220; have HC23 := am_ H; clear H; refine ci3 BK667 ?_; intros
      go_upto_region 12 with (first | (go_at_call 12; (with_reducible refine (impl_FireTimes.calls kj6 _ _ t657 _ _ t660 _ _ t663 t674 t677 _ ?_ ?_ ?_ ?_ ?_ ?_ A21.out).mono ?_); exact (Zap HO_668000); exact (Kd.R_reads' HO_668000.out).2.1; exact (Zap HO_668001); exact (Kd.R_reads' HO_668001.out).2.1; exact (Zap HO_668002); exact (Kd.R_reads' HO_668002.out).2.1; rintro e w25 ⟨v675, rfl, ho0, hb⟩; replace HO_668000 := (hbZ HO_668000 hb); replace HO_668001 := (hbZ HO_668001 hb); replace HO_668002 := (hbZ HO_668002 hb); replace HO676 := am_ (Kd.R_lower ho0 (below_size (Ze GE667))); replace BK667 := (bkZ BK667 hb); replace HB := (bsZ (Ze GE667) hb); clear hb ho0; obtain ⟨hcz26_0, hcz26_1, hcz26_2, hfz26_0, hfz26_1, hfz26_2⟩ := cz3 BK667) | (go_at_call 13; (with_reducible refine (spec_FireTimes.calls kj6 _ _ t657 _ _ t660 _ _ t663 t678 t681 _ ?_ ?_ ?_ ?_ ?_ ?_ A22.out).mono ?_); exact (Zap HO_668000); exact (Kd.R_reads' HO_668000.out).2.1; exact (Zap HO_668001); exact (Kd.R_reads' HO_668001.out).2.1; exact (Zap HO_668002); exact (Kd.R_reads' HO_668002.out).2.1; rintro e w27 ⟨v679, rfl, ho0, hb⟩; replace HO_668000 := (hbZ HO_668000 hb); replace HO_668001 := (hbZ HO_668001 hb); replace HO_668002 := (hbZ HO_668002 hb); replace HO680 := am_ (Kd.R_lower (Kd.R_new' ho0 (Kd.R_lt (Zz HO676))) (below_size (Ze GE667))); replace HO676 := am_ (Kd.R_elder' (Zz HO676) (Kd.R_base ho0) hb); replace BK667 := (bkZ BK667 hb); replace HB := (bsZ (Ze GE667) hb); clear hb ho0))
      repeat (go_quiet (first | (go_at_call 12; (with_reducible refine (impl_FireTimes.calls kj6 _ _ t657 _ _ t660 _ _ t663 t674 t677 _ ?_ ?_ ?_ ?_ ?_ ?_ A21.out).mono ?_); exact (Zap HO_668000); exact (Kd.R_reads' HO_668000.out).2.1; exact (Zap HO_668001); exact (Kd.R_reads' HO_668001.out).2.1; exact (Zap HO_668002); exact (Kd.R_reads' HO_668002.out).2.1; rintro e w25 ⟨v675, rfl, ho0, hb⟩; replace HO_668000 := (hbZ HO_668000 hb); replace HO_668001 := (hbZ HO_668001 hb); replace HO_668002 := (hbZ HO_668002 hb); replace HO676 := am_ (Kd.R_lower ho0 (below_size (Ze GE667))); replace BK667 := (bkZ BK667 hb); replace HB := (bsZ (Ze GE667) hb); clear hb ho0; obtain ⟨hcz26_0, hcz26_1, hcz26_2, hfz26_0, hfz26_1, hfz26_2⟩ := cz3 BK667) | (go_at_call 13; (with_reducible refine (spec_FireTimes.calls kj6 _ _ t657 _ _ t660 _ _ t663 t678 t681 _ ?_ ?_ ?_ ?_ ?_ ?_ A22.out).mono ?_); exact (Zap HO_668000); exact (Kd.R_reads' HO_668000.out).2.1; exact (Zap HO_668001); exact (Kd.R_reads' HO_668001.out).2.1; exact (Zap HO_668002); exact (Kd.R_reads' HO_668002.out).2.1; rintro e w27 ⟨v679, rfl, ho0, hb⟩; replace HO_668000 := (hbZ HO_668000 hb); replace HO_668001 := (hbZ HO_668001 hb); replace HO_668002 := (hbZ HO_668002 hb); replace HO680 := am_ (Kd.R_lower (Kd.R_new' ho0 (Kd.R_lt (Zz HO676))) (below_size (Ze GE667))); replace HO676 := am_ (Kd.R_elder' (Zz HO676) (Kd.R_base ho0) hb); replace BK667 := (bkZ BK667 hb); replace HB := (bsZ (Ze GE667) hb); clear hb ho0)); go_upto_region 12 with (first | (go_at_call 12; (with_reducible refine (impl_FireTimes.calls kj6 _ _ t657 _ _ t660 _ _ t663 t674 t677 _ ?_ ?_ ?_ ?_ ?_ ?_ A21.out).mono ?_); exact (Zap HO_668000); exact (Kd.R_reads' HO_668000.out).2.1; exact (Zap HO_668001); exact (Kd.R_reads' HO_668001.out).2.1; exact (Zap HO_668002); exact (Kd.R_reads' HO_668002.out).2.1; rintro e w25 ⟨v675, rfl, ho0, hb⟩; replace HO_668000 := (hbZ HO_668000 hb); replace HO_668001 := (hbZ HO_668001 hb); replace HO_668002 := (hbZ HO_668002 hb); replace HO676 := am_ (Kd.R_lower ho0 (below_size (Ze GE667))); replace BK667 := (bkZ BK667 hb); replace HB := (bsZ (Ze GE667) hb); clear hb ho0; obtain ⟨hcz26_0, hcz26_1, hcz26_2, hfz26_0, hfz26_1, hfz26_2⟩ := cz3 BK667) | (go_at_call 13; (with_reducible refine (spec_FireTimes.calls kj6 _ _ t657 _ _ t660 _ _ t663 t678 t681 _ ?_ ?_ ?_ ?_ ?_ ?_ A22.out).mono ?_); exact (Zap HO_668000); exact (Kd.R_reads' HO_668000.out).2.1; exact (Zap HO_668001); exact (Kd.R_reads' HO_668001.out).2.1; exact (Zap HO_668002); exact (Kd.R_reads' HO_668002.out).2.1; rintro e w27 ⟨v679, rfl, ho0, hb⟩; replace HO_668000 := (hbZ HO_668000 hb); replace HO_668001 := (hbZ HO_668001 hb); replace HO_668002 := (hbZ HO_668002 hb); replace HO680 := am_ (Kd.R_lower (Kd.R_new' ho0 (Kd.R_lt (Zz HO676))) (below_size (Ze GE667))); replace HO676 := am_ (Kd.R_elder' (Zz HO676) (Kd.R_base ho0) hb); replace BK667 := (bkZ BK667 hb); replace HB := (bsZ (Ze GE667) hb); clear hb ho0)))
      (try simp only [Act.put, List.setIfInBounds_toArray, List.set_cons_zero, List.set_cons_succ])
      go_cut [72] (fun v72 wc => ∃ (kq : Nat) (x72_22 : Bool), v72 = .bool x72_22 ∧ Aside0 (laws_FnBusiest.j1 kq t666 t668 t669 t674 t677 x72_22 = some r) ∧ Aside0 (kq ≤ kj6) ∧ Aside0 (Kd.R (Kd.int .i64) 2 wc w.heap.size (fun _ => True) v675 t674) ∧ Aside0 (Kd.R k104 104 wc w.heap.size (fun _ => True) (.slice Ao10 t657.length co10) t657) ∧ Aside0 (Kd.R k62 62 wc w.heap.size (fun _ => True) (.slice Ao12 t660.length co12) t660) ∧ Aside0 (Kd.R k39 39 wc w.heap.size (fun _ => True) (.slice Ao13 t663.length co13) t663) ∧ Aside0 (wc.heap[gb667]? = some (.cells #[(.slice Ao10 t657.length co10), (.slice Ao12 t660.length co12), (.slice Ao13 t663.length co13)] 28 (0, 0))) ∧ Aside0 (Below w.heap.size w wc))
      case first => as_aux_lemma =>
       have H := HC23.out; clear HC23
       by_cases c28 : t677 = t681
       ·rw [if_pos c28] at H
        have c28b0 := beq_iff_eq.mpr c28; have c28b1 := bne_eq_false_iff_eq.mpr c28; clear c28
        (first | rw [c28b0] | (simp only [i64_w, i32_w]; rw [c28b0]) | skip)
        replace H := Option.bind_eq_some_iff.mp H; obtain ⟨t682, A290, H⟩ := H; have A29 := am_ A290; clear A290; have H' := am_ H; clear H; obtain ⟨Ao30, co30, eo30⟩ := Kd.R_slice HO676.out; subst eo30; obtain ⟨Ao31, co31, eo31⟩ := Kd.R_slice HO680.out; subst eo31
        go_wp2_with (first | (go_at_call 14; (with_reducible refine (laws_likeInts.calls kj6 _ _ t674 _ _ t678 t682 _ ?_ ?_ ?_ ?_ A29.out).mono ?_); exact (Zap HO676); exact (Kd.R_reads' HO676.out).2.1; exact (Zap HO680); exact (Kd.R_reads' HO680.out).2.1; rintro e w' ⟨rfl, ⟨nd, rfl⟩⟩; (try first | exact ⟨rfl, _, World.drewN_drewN _ _ _⟩ | exact ⟨rfl, _, Eq.trans (World.drewN_drewN _ _ _) (congrArg (World.drewN _) (Nat.add_assoc _ _ _))⟩)))
        repeat (go_quiet (first | (go_at_call 14; (with_reducible refine (laws_likeInts.calls kj6 _ _ t674 _ _ t678 t682 _ ?_ ?_ ?_ ?_ A29.out).mono ?_); exact (Zap HO676); exact (Kd.R_reads' HO676.out).2.1; exact (Zap HO680); exact (Kd.R_reads' HO680.out).2.1; rintro e w' ⟨rfl, ⟨nd, rfl⟩⟩; (try first | exact ⟨rfl, _, World.drewN_drewN _ _ _⟩ | exact ⟨rfl, _, Eq.trans (World.drewN_drewN _ _ _) (congrArg (World.drewN _) (Nat.add_assoc _ _ _))⟩))); try go_wp2_with (first | (go_at_call 14; (with_reducible refine (laws_likeInts.calls kj6 _ _ t674 _ _ t678 t682 _ ?_ ?_ ?_ ?_ A29.out).mono ?_); exact (Zap HO676); exact (Kd.R_reads' HO676.out).2.1; exact (Zap HO680); exact (Kd.R_reads' HO680.out).2.1; rintro e w' ⟨rfl, ⟨nd, rfl⟩⟩; (try first | exact ⟨rfl, _, World.drewN_drewN _ _ _⟩ | exact ⟨rfl, _, Eq.trans (World.drewN_drewN _ _ _) (congrArg (World.drewN _) (Nat.add_assoc _ _ _))⟩))))
        go_meet
        case rel => exact ⟨_, (!t682), Za, H', ⟨by have := HJ6.out; first | omega | exact Nat.le_refl _⟩, ⟨(Zcp HO676)⟩, ⟨(Zz HO_668000)⟩, ⟨(Zz HO_668001)⟩, ⟨(Zz HO_668002)⟩, ⟨(Zd BK667)⟩, ⟨(Ze GE667)⟩⟩
       ·rw [if_neg c28] at H
        have c28b0 := beq_eq_false_iff_ne.mpr c28; have c28b1 := bne_iff_ne.mpr c28
        (first | rw [c28b0] | (simp only [i64_w, i32_w]; rw [c28b0]) | skip)
        exact absurd (H.trans (congrArg some HR_.out)) (laws_FnBusiest.j1_true _ _ _ _ _ _)
      case rest => as_aux_lemma =>
       clear HC23
       try clear c1
       try clear c2
       try clear p2
       try clear c3
       try clear c17
       try clear c17b0
       try clear c17b1
       try clear c18
       try clear c18b0
       try clear c18b1
       try clear c19
       try clear c20
       try clear c20b0
       try clear c20b1
       try clear c28
       try clear c28b0
       try clear c28b1
       try clear p2
       obtain ⟨kq, x72_22, rfl, HA, HJ22, HO_11, HO_668000, HO_668001, HO_668002, BK667, HB⟩ := hcut
       cases kq with
       | zero => exact absurd HA.out (by simp [laws_FnBusiest.j1])
       | succ kj22 =>
        have H := HA.out; clear HA; simp only [laws_FnBusiest.j1] at H
        by_cases c32 : x72_22 = true
        ·subst c32
         have H1 : (some false) = some r := by rw [if_pos rfl] at H; exact H
         clear H; have H := H1; clear H1; exact absurd ((Option.some.inj H).trans HR_.out) (by decide)
        ·replace c32 := Bool.eq_false_iff.mpr c32
         subst c32
         have H1 : (if t677 = 0 then ((laws_hasInt.f kj22 t674 t668).bind fun t683 => (laws_FnBusiest.j2 kj22 t666 t668 t669 t674 (!t683))) else (laws_FnBusiest.j2 kj22 t666 t668 t669 t674 true)) = some r := by rw [if_neg (show ¬ (false = true) by decide)] at H; exact H
         clear H; have H := H1; clear H1; have HC33 := am_ H; clear H
         go_upto_region 14 with (fail)
         repeat (go_quiet (fail); go_upto_region 14 with (fail))
         go_cut [80] (fun v80 wc => ∃ (kq : Nat) (x80_32 : Bool), v80 = .bool x80_32 ∧ Aside0 (laws_FnBusiest.j2 kq t666 t668 t669 t674 x80_32 = some r) ∧ Aside0 (kq ≤ kj22) ∧ Aside0 (Kd.R (Kd.int .i64) 2 wc w.heap.size (fun _ => True) v675 t674) ∧ Aside0 (Kd.R k104 104 wc w.heap.size (fun _ => True) (.slice Ao10 t657.length co10) t657) ∧ Aside0 (Kd.R k62 62 wc w.heap.size (fun _ => True) (.slice Ao12 t660.length co12) t660) ∧ Aside0 (Kd.R k39 39 wc w.heap.size (fun _ => True) (.slice Ao13 t663.length co13) t663) ∧ Aside0 (wc.heap[gb667]? = some (.cells #[(.slice Ao10 t657.length co10), (.slice Ao12 t660.length co12), (.slice Ao13 t663.length co13)] 28 (0, 0))) ∧ Aside0 (Below w.heap.size w wc))
         case first => as_aux_lemma =>
          have H := HC33.out; clear HC33
          by_cases c34 : t677 = 0
          ·rw [if_pos c34] at H
           have c34b0 := beq_iff_eq.mpr c34; have c34b1 := bne_eq_false_iff_eq.mpr c34; clear c34
           (first | rw [c34b0] | (simp only [i64_w, i32_w]; rw [c34b0]) | skip)
           replace H := Option.bind_eq_some_iff.mp H; obtain ⟨t683, A350, H⟩ := H; have A35 := am_ A350; clear A350; have H' := am_ H; clear H; obtain ⟨Ao36, co36, eo36⟩ := Kd.R_slice HO_11.out; subst eo36
           go_wp2_with (first | (go_at_call 15; (with_reducible refine (laws_hasInt.calls kj22 _ _ t674 t668 t683 _ ?_ ?_ A35.out).mono ?_); exact (Zap HO_11); exact (Kd.R_reads' HO_11.out).2.1; rintro e w' ⟨rfl, ⟨nd, rfl⟩⟩; (try first | exact ⟨rfl, _, World.drewN_drewN _ _ _⟩ | exact ⟨rfl, _, Eq.trans (World.drewN_drewN _ _ _) (congrArg (World.drewN _) (Nat.add_assoc _ _ _))⟩)))
           repeat (go_quiet (first | (go_at_call 15; (with_reducible refine (laws_hasInt.calls kj22 _ _ t674 t668 t683 _ ?_ ?_ A35.out).mono ?_); exact (Zap HO_11); exact (Kd.R_reads' HO_11.out).2.1; rintro e w' ⟨rfl, ⟨nd, rfl⟩⟩; (try first | exact ⟨rfl, _, World.drewN_drewN _ _ _⟩ | exact ⟨rfl, _, Eq.trans (World.drewN_drewN _ _ _) (congrArg (World.drewN _) (Nat.add_assoc _ _ _))⟩))); try go_wp2_with (first | (go_at_call 15; (with_reducible refine (laws_hasInt.calls kj22 _ _ t674 t668 t683 _ ?_ ?_ A35.out).mono ?_); exact (Zap HO_11); exact (Kd.R_reads' HO_11.out).2.1; rintro e w' ⟨rfl, ⟨nd, rfl⟩⟩; (try first | exact ⟨rfl, _, World.drewN_drewN _ _ _⟩ | exact ⟨rfl, _, Eq.trans (World.drewN_drewN _ _ _) (congrArg (World.drewN _) (Nat.add_assoc _ _ _))⟩))))
           go_meet
           case rel => exact ⟨_, (!t683), Za, H', ⟨by have := HJ6.out; have := HJ22.out; first | omega | exact Nat.le_refl _⟩, ⟨(Zz HO_11)⟩, ⟨(Zz HO_668000)⟩, ⟨(Zz HO_668001)⟩, ⟨(Zz HO_668002)⟩, ⟨(Zd BK667)⟩, ⟨(Ze GE667)⟩⟩
          ·rw [if_neg c34] at H
           have c34b0 := beq_eq_false_iff_ne.mpr c34; have c34b1 := bne_iff_ne.mpr c34
           (first | rw [c34b0] | (simp only [i64_w, i32_w]; rw [c34b0]) | skip)
           exact absurd (H.trans (congrArg some HR_.out)) (laws_FnBusiest.j2_true _ _ _ _ _)
         case rest => as_aux_lemma =>
          clear HC33
          try clear c1
          try clear c2
          try clear p2
          try clear c3
          try clear c17
          try clear c17b0
          try clear c17b1
          try clear c18
          try clear c18b0
          try clear c18b1
          try clear c19
          try clear c20
          try clear c20b0
          try clear c20b1
          try clear c28
          try clear c28b0
          try clear c28b1
          try clear c32
          try clear c34
          try clear c34b0
          try clear c34b1
          try clear p2
          obtain ⟨kq, x80_32, rfl, HA, HJ32, HO_11, HO_668000, HO_668001, HO_668002, BK667, HB⟩ := hcut
          cases kq with
          | zero => exact absurd HA.out (by simp [laws_FnBusiest.j2])
          | succ kj32 =>
           have H := HA.out; clear HA; simp only [laws_FnBusiest.j2] at H
           by_cases c37 : x80_32 = true
           ·subst c37
            have H1 : (some false) = some r := by rw [if_pos rfl] at H; exact H
            clear H; have H := H1; clear H1; exact absurd ((Option.some.inj H).trans HR_.out) (by decide)
           ·replace c37 := Bool.eq_false_iff.mpr c37
            subst c37
            have H1 : (laws_FnBusiest.l0 kj32 t666 t668 t669 t674 0) = some r := by rw [if_neg (show ¬ (false = true) by decide)] at H; exact H
            clear H; have H := H1; clear H1; have H' := am_ H; clear H
            go_wp2
            repeat (go_quiet (fail); try go_wp2)
            go_loopg [15] kj32 (fun kq v15 w' => ∃ (x15_4 : Int), v15 = .int .i64 x15_4 ∧ Aside0 (laws_FnBusiest.l0 kq t666 t668 t669 t674 x15_4 = some r) ∧ Aside0 (kq ≤ kj32) ∧ Aside0 (Kd.R (Kd.int .i64) 2 w' w.heap.size (fun _ => True) v675 t674) ∧ Aside0 (Kd.R k104 104 w' w.heap.size (fun _ => True) (.slice Ao10 t657.length co10) t657) ∧ Aside0 (Kd.R k62 62 w' w.heap.size (fun _ => True) (.slice Ao12 t660.length co12) t660) ∧ Aside0 (Kd.R k39 39 w' w.heap.size (fun _ => True) (.slice Ao13 t663.length co13) t663) ∧ Aside0 (w'.heap[gb667]? = some (.cells #[(.slice Ao10 t657.length co10), (.slice Ao12 t660.length co12), (.slice Ao13 t663.length co13)] 28 (0, 0))) ∧ Aside0 (Below w.heap.size w w'))
            case atStart => exact ⟨(0), Za, H', ⟨Nat.le_refl _⟩, ⟨(Zz HO_11)⟩, ⟨(Zz HO_668000)⟩, ⟨(Zz HO_668001)⟩, ⟨(Zz HO_668002)⟩, ⟨(Zd BK667)⟩, ⟨(Ze GE667)⟩⟩
            case round => as_aux_lemma =>
             clear H'
             try clear c1
             try clear c2
             try clear p2
             try clear c3
             try clear c17
             try clear c17b0
             try clear c17b1
             try clear c18
             try clear c18b0
             try clear c18b1
             try clear c19
             try clear c20
             try clear c20b0
             try clear c20b1
             try clear c28
             try clear c28b0
             try clear c28b1
             try clear c32
             try clear c34
             try clear c34b0
             try clear c34b1
             try clear c37
             try clear p2
             obtain ⟨x15_4, rfl, HA, HK4, HO_11, HO_668000, HO_668001, HO_668002, BK667, HB⟩ := hrel
             cases gk with
             | zero => exact absurd HA.out (by simp [laws_FnBusiest.l0])
             | succ k4 =>
              have H := HA.out; clear HA; simp only [laws_FnBusiest.l0] at H
              by_cases c38 : x15_4 < (t674.length : Int)
              ·rw [if_pos c38] at H
               have c38b0 := decide_eq_true c38; clear c38; have H' := am_ H; clear H; obtain ⟨Ao39, co39, eo39⟩ := Kd.R_slice HO_11.out; subst eo39
               go_wp2
               repeat (go_quiet (fail); try go_wp2)
               go_loopg [16, 17] k4 (fun kq v16 v17 w' => ∃ (x16_5 : Int) (x17_5 : Int), v16 = .int .i64 x16_5 ∧ v17 = .int .i64 x17_5 ∧ Aside0 (laws_FnBusiest.l1 kq t666 t668 t669 t674 x15_4 x16_5 x17_5 = some r) ∧ Aside0 (kq ≤ k4) ∧ Aside0 (Kd.R (Kd.int .i64) 2 w' w.heap.size (fun _ => True) (.slice Ao39 t674.length co39) t674) ∧ Aside0 (Kd.R k104 104 w' w.heap.size (fun _ => True) (.slice Ao10 t657.length co10) t657) ∧ Aside0 (Kd.R k62 62 w' w.heap.size (fun _ => True) (.slice Ao12 t660.length co12) t660) ∧ Aside0 (Kd.R k39 39 w' w.heap.size (fun _ => True) (.slice Ao13 t663.length co13) t663) ∧ Aside0 (w'.heap[gb667]? = some (.cells #[(.slice Ao10 t657.length co10), (.slice Ao12 t660.length co12), (.slice Ao13 t663.length co13)] 28 (0, 0))) ∧ Aside0 (Below w.heap.size w w'))
               case atStart => exact ⟨(0), (0), Za, Za, H', ⟨Nat.le_refl _⟩, ⟨(Zz HO_11)⟩, ⟨(Zz HO_668000)⟩, ⟨(Zz HO_668001)⟩, ⟨(Zz HO_668002)⟩, ⟨(Zd BK667)⟩, ⟨(Ze GE667)⟩⟩
               case round => as_aux_lemma =>
                clear H'
                try clear c1
                try clear c2
                try clear p2
                try clear c3
                try clear c17
                try clear c17b0
                try clear c17b1
                try clear c18
                try clear c18b0
                try clear c18b1
                try clear c19
                try clear c20
                try clear c20b0
                try clear c20b1
                try clear c28
                try clear c28b0
                try clear c28b1
                try clear c32
                try clear c34
                try clear c34b0
                try clear c34b1
                try clear c37
                try clear c38
                try clear c38b0
                try clear p2
                obtain ⟨x16_5, x17_5, rfl, rfl, HA, HK5, HO_11, HO_668000, HO_668001, HO_668002, BK667, HB⟩ := hrel
                cases gk with
                | zero => exact absurd HA.out (by simp [laws_FnBusiest.l1])
                | succ k5 =>
                 have H := HA.out; clear HA; simp only [laws_FnBusiest.l1] at H
                 by_cases c40 : x17_5 < (t674.length : Int)
                 ·rw [if_pos c40] at H
                  have c40b0 := decide_eq_true c40; clear c40
                  by_cases c41 : 0 ≤ x17_5
                  ·rw [if_pos c41] at H
                   have c41b0 := decide_eq_true c41; clear c41
                   by_cases c42 : 0 ≤ x15_4
                   ·rw [if_pos c42] at H
                    have c42b0 := decide_eq_true c42; clear c42
                    by_cases c43 : x15_4 < (t674.length : Int)
                    ·rw [if_pos c43] at H
                     have c43b0 := decide_eq_true c43; clear c43
                     by_cases c44 : (rd t674 x17_5) ≥ (rd t674 x15_4)
                     ·rw [if_pos c44] at H
                      have c44b0 : decide ((rd t674 x15_4) ≤ (rd t674 x17_5)) = true := decide_eq_true c44; clear c44
                      by_cases c45 : (rd t674 x17_5) < (wrap64 ((rd t674 x15_4) + t666))
                      ·rw [if_pos c45] at H
                       have c45b0 := decide_eq_true c45; clear c45; have H' := am_ H; clear H; have p684 : 0 ≤ (x17_5 : Int) := of_decide_eq_true Zg; have q684 : x17_5 < (t674.length : Int) := of_decide_eq_true Zg; obtain ⟨ad684, e684, hx684_0⟩ := Kd.at_int (Kd.R_reads' HO_11.out).2.2 x17_5 p684 q684
                       cases e684
                       replace p684 := eq_true p684; replace q684 := eq_true q684; have p685 : 0 ≤ (x15_4 : Int) := of_decide_eq_true Zg; have q685 : x15_4 < (t674.length : Int) := of_decide_eq_true Zg; obtain ⟨ad685, e685, hx685_0⟩ := Kd.at_int (Kd.R_reads' HO_11.out).2.2 x15_4 p685 q685; obtain rfl : ad684 = ad685 := (by injection e685); replace p685 := eq_true p685; replace q685 := eq_true q685; have p686 : 0 ≤ (x17_5 : Int) := of_decide_eq_true Zg; have q686 : x17_5 < (t674.length : Int) := of_decide_eq_true Zg; obtain ⟨ad686, e686, hx686_0⟩ := Kd.at_int (Kd.R_reads' HO_11.out).2.2 x17_5 p686 q686; obtain rfl : ad684 = ad686 := (by injection e686); replace p686 := eq_true p686; replace q686 := eq_true q686; have p687 : 0 ≤ (x15_4 : Int) := of_decide_eq_true Zg; have q687 : x15_4 < (t674.length : Int) := of_decide_eq_true Zg; obtain ⟨ad687, e687, hx687_0⟩ := Kd.at_int (Kd.R_reads' HO_11.out).2.2 x15_4 p687 q687; obtain rfl : ad684 = ad687 := (by injection e687); replace p687 := eq_true p687; replace q687 := eq_true q687
                       go_wp2
                       repeat (go_quiet (fail); try go_wp2)
                       go_roundg k5
                       case measure => have := HJ6.out; have := HJ22.out; have := HJ32.out; have := HK4.out; have := HK5.out; omega
                       case rel => exact ⟨(wrap64 (x16_5 + 1)), (wrap64 (x17_5 + 1)), Za, Za, H', ⟨Zcq⟩, ⟨(Zz HO_11)⟩, ⟨(Zz HO_668000)⟩, ⟨(Zz HO_668001)⟩, ⟨(Zz HO_668002)⟩, ⟨(Zd BK667)⟩, ⟨(Ze GE667)⟩⟩
                      ·rw [if_neg c45] at H
                       have c45b0 := decide_eq_false c45; clear c45; have H' := am_ H; clear H; have p684 : 0 ≤ (x17_5 : Int) := of_decide_eq_true Zg; have q684 : x17_5 < (t674.length : Int) := of_decide_eq_true Zg; obtain ⟨ad684, e684, hx684_0⟩ := Kd.at_int (Kd.R_reads' HO_11.out).2.2 x17_5 p684 q684
                       cases e684
                       replace p684 := eq_true p684; replace q684 := eq_true q684; have p685 : 0 ≤ (x15_4 : Int) := of_decide_eq_true Zg; have q685 : x15_4 < (t674.length : Int) := of_decide_eq_true Zg; obtain ⟨ad685, e685, hx685_0⟩ := Kd.at_int (Kd.R_reads' HO_11.out).2.2 x15_4 p685 q685; obtain rfl : ad684 = ad685 := (by injection e685); replace p685 := eq_true p685; replace q685 := eq_true q685; have p686 : 0 ≤ (x17_5 : Int) := of_decide_eq_true Zg; have q686 : x17_5 < (t674.length : Int) := of_decide_eq_true Zg; obtain ⟨ad686, e686, hx686_0⟩ := Kd.at_int (Kd.R_reads' HO_11.out).2.2 x17_5 p686 q686; obtain rfl : ad684 = ad686 := (by injection e686); replace p686 := eq_true p686; replace q686 := eq_true q686; have p687 : 0 ≤ (x15_4 : Int) := of_decide_eq_true Zg; have q687 : x15_4 < (t674.length : Int) := of_decide_eq_true Zg; obtain ⟨ad687, e687, hx687_0⟩ := Kd.at_int (Kd.R_reads' HO_11.out).2.2 x15_4 p687 q687; obtain rfl : ad684 = ad687 := (by injection e687); replace p687 := eq_true p687; replace q687 := eq_true q687
                       go_wp2
                       repeat (go_quiet (fail); try go_wp2)
                       go_roundg k5
                       case measure => have := HJ6.out; have := HJ22.out; have := HJ32.out; have := HK4.out; have := HK5.out; omega
                       case rel => exact ⟨(x16_5), (wrap64 (x17_5 + 1)), Za, Za, H', ⟨Zcq⟩, ⟨(Zz HO_11)⟩, ⟨(Zz HO_668000)⟩, ⟨(Zz HO_668001)⟩, ⟨(Zz HO_668002)⟩, ⟨(Zd BK667)⟩, ⟨(Ze GE667)⟩⟩
                     ·rw [if_neg c44] at H
                      have c44b0 : decide ((rd t674 x15_4) ≤ (rd t674 x17_5)) = false := decide_eq_false c44; clear c44; have H' := am_ H; clear H; have p684 : 0 ≤ (x17_5 : Int) := of_decide_eq_true Zg; have q684 : x17_5 < (t674.length : Int) := of_decide_eq_true Zg; obtain ⟨ad684, e684, hx684_0⟩ := Kd.at_int (Kd.R_reads' HO_11.out).2.2 x17_5 p684 q684
                      cases e684
                      replace p684 := eq_true p684; replace q684 := eq_true q684; have p685 : 0 ≤ (x15_4 : Int) := of_decide_eq_true Zg; have q685 : x15_4 < (t674.length : Int) := of_decide_eq_true Zg; obtain ⟨ad685, e685, hx685_0⟩ := Kd.at_int (Kd.R_reads' HO_11.out).2.2 x15_4 p685 q685; obtain rfl : ad684 = ad685 := (by injection e685); replace p685 := eq_true p685; replace q685 := eq_true q685
                      go_wp2
                      repeat (go_quiet (fail); try go_wp2)
                      go_roundg k5
                      case measure => have := HJ6.out; have := HJ22.out; have := HJ32.out; have := HK4.out; have := HK5.out; omega
                      case rel => exact ⟨(x16_5), (wrap64 (x17_5 + 1)), Za, Za, H', ⟨Zcq⟩, ⟨(Zz HO_11)⟩, ⟨(Zz HO_668000)⟩, ⟨(Zz HO_668001)⟩, ⟨(Zz HO_668002)⟩, ⟨(Zd BK667)⟩, ⟨(Ze GE667)⟩⟩
                    ·rw [if_neg c43] at H
                     exact absurd H (by simp)
                   ·rw [if_neg c42] at H
                    exact absurd H (by simp)
                  ·rw [if_neg c41] at H
                   exact absurd H (by simp)
                 ·rw [if_neg c40] at H
                  have c40b0 := decide_eq_false c40; clear c40
                  by_cases c46 : x16_5 > t669
                  ·rw [if_pos c46] at H
                   have c46b0 : decide (t669 < x16_5) = true := decide_eq_true c46; clear c46; obtain rfl := Option.some.inj H
                   go_wp2
                   repeat (go_quiet (fail); try go_wp2)
                   go_ret
                   exact ⟨Zj, (Ze GE667)⟩
                  ·rw [if_neg c46] at H
                   have c46b0 : decide (t669 < x16_5) = false := decide_eq_false c46; clear c46
                   by_cases c47 : x16_5 = t669
                   ·rw [if_pos c47] at H
                    have c47b0 := beq_iff_eq.mpr c47; have c47b1 := bne_eq_false_iff_eq.mpr c47; clear c47
                    by_cases c48 : 0 ≤ x15_4
                    ·rw [if_pos c48] at H
                     have c48b0 := decide_eq_true c48; clear c48
                     by_cases c49 : x15_4 < (t674.length : Int)
                     ·rw [if_pos c49] at H
                      have c49b0 := decide_eq_true c49; clear c49
                      by_cases c50 : (rd t674 x15_4) < t668
                      ·rw [if_pos c50] at H
                       have c50b0 := decide_eq_true c50; clear c50; obtain rfl := Option.some.inj H; have p688 : 0 ≤ (x15_4 : Int) := of_decide_eq_true Zg; have q688 : x15_4 < (t674.length : Int) := of_decide_eq_true Zg; obtain ⟨ad688, e688, hx688_0⟩ := Kd.at_int (Kd.R_reads' HO_11.out).2.2 x15_4 p688 q688
                       cases e688
                       replace p688 := eq_true p688; replace q688 := eq_true q688
                       go_wp2
                       repeat (go_quiet (fail); try go_wp2)
                       go_ret
                       exact ⟨Zj, (Ze GE667)⟩
                      ·rw [if_neg c50] at H
                       have c50b0 := decide_eq_false c50; clear c50
                       by_cases c51 : (rd t674 x15_4) = t668
                       ·rw [if_pos c51] at H
                        have c51b0 := beq_iff_eq.mpr c51; have c51b1 := bne_eq_false_iff_eq.mpr c51; clear c51; have H' := am_ H; clear H; have p688 : 0 ≤ (x15_4 : Int) := of_decide_eq_true Zg; have q688 : x15_4 < (t674.length : Int) := of_decide_eq_true Zg; obtain ⟨ad688, e688, hx688_0⟩ := Kd.at_int (Kd.R_reads' HO_11.out).2.2 x15_4 p688 q688
                        cases e688
                        replace p688 := eq_true p688; replace q688 := eq_true q688; have p689 : 0 ≤ (x15_4 : Int) := of_decide_eq_true Zg; have q689 : x15_4 < (t674.length : Int) := of_decide_eq_true Zg; obtain ⟨ad689, e689, hx689_0⟩ := Kd.at_int (Kd.R_reads' HO_11.out).2.2 x15_4 p689 q689; obtain rfl : ad688 = ad689 := (by injection e689); replace p689 := eq_true p689; replace q689 := eq_true q689
                        go_wp2
                        repeat (go_quiet (fail); try go_wp2)
                        go_roundg k5
                        case measure => have := HJ6.out; have := HJ22.out; have := HJ32.out; have := HK4.out; have := HK5.out; omega
                        case rel => exact ⟨(wrap64 (x15_4 + 1)), Za, H', ⟨Zcq⟩, ⟨(Zz HO_11)⟩, ⟨(Zz HO_668000)⟩, ⟨(Zz HO_668001)⟩, ⟨(Zz HO_668002)⟩, ⟨(Zd BK667)⟩, ⟨(Ze GE667)⟩⟩
                       ·rw [if_neg c51] at H
                        have c51b0 := beq_eq_false_iff_ne.mpr c51; have c51b1 := bne_iff_ne.mpr c51; have H' := am_ H; clear H; have p688 : 0 ≤ (x15_4 : Int) := of_decide_eq_true Zg; have q688 : x15_4 < (t674.length : Int) := of_decide_eq_true Zg; obtain ⟨ad688, e688, hx688_0⟩ := Kd.at_int (Kd.R_reads' HO_11.out).2.2 x15_4 p688 q688
                        cases e688
                        replace p688 := eq_true p688; replace q688 := eq_true q688; have p689 : 0 ≤ (x15_4 : Int) := of_decide_eq_true Zg; have q689 : x15_4 < (t674.length : Int) := of_decide_eq_true Zg; obtain ⟨ad689, e689, hx689_0⟩ := Kd.at_int (Kd.R_reads' HO_11.out).2.2 x15_4 p689 q689; obtain rfl : ad688 = ad689 := (by injection e689); replace p689 := eq_true p689; replace q689 := eq_true q689
                        go_wp2
                        repeat (go_quiet (fail); try go_wp2)
                        go_roundg k5
                        case measure => have := HJ6.out; have := HJ22.out; have := HJ32.out; have := HK4.out; have := HK5.out; omega
                        case rel => exact ⟨(wrap64 (x15_4 + 1)), Za, H', ⟨Zcq⟩, ⟨(Zz HO_11)⟩, ⟨(Zz HO_668000)⟩, ⟨(Zz HO_668001)⟩, ⟨(Zz HO_668002)⟩, ⟨(Zd BK667)⟩, ⟨(Ze GE667)⟩⟩
                     ·rw [if_neg c49] at H
                      exact absurd H (by simp)
                    ·rw [if_neg c48] at H
                     exact absurd H (by simp)
                   ·rw [if_neg c47] at H
                    have c47b0 := beq_eq_false_iff_ne.mpr c47; have c47b1 := bne_iff_ne.mpr c47
                    by_cases c52 : 0 ≤ x15_4
                    ·rw [if_pos c52] at H
                     have c52b0 := decide_eq_true c52; clear c52
                     by_cases c53 : x15_4 < (t674.length : Int)
                     ·rw [if_pos c53] at H
                      have c53b0 := decide_eq_true c53; clear c53
                      by_cases c54 : (rd t674 x15_4) = t668
                      ·rw [if_pos c54] at H
                       have c54b0 := beq_iff_eq.mpr c54; have c54b1 := bne_eq_false_iff_eq.mpr c54; clear c54; obtain rfl := Option.some.inj H; have p690 : 0 ≤ (x15_4 : Int) := of_decide_eq_true Zg; have q690 : x15_4 < (t674.length : Int) := of_decide_eq_true Zg; obtain ⟨ad690, e690, hx690_0⟩ := Kd.at_int (Kd.R_reads' HO_11.out).2.2 x15_4 p690 q690
                       cases e690
                       replace p690 := eq_true p690; replace q690 := eq_true q690
                       go_wp2
                       repeat (go_quiet (fail); try go_wp2)
                       go_ret
                       exact ⟨Zj, (Ze GE667)⟩
                      ·rw [if_neg c54] at H
                       have c54b0 := beq_eq_false_iff_ne.mpr c54; have c54b1 := bne_iff_ne.mpr c54; have H' := am_ H; clear H; have p690 : 0 ≤ (x15_4 : Int) := of_decide_eq_true Zg; have q690 : x15_4 < (t674.length : Int) := of_decide_eq_true Zg; obtain ⟨ad690, e690, hx690_0⟩ := Kd.at_int (Kd.R_reads' HO_11.out).2.2 x15_4 p690 q690
                       cases e690
                       replace p690 := eq_true p690; replace q690 := eq_true q690
                       go_wp2
                       repeat (go_quiet (fail); try go_wp2)
                       go_roundg k5
                       case measure => have := HJ6.out; have := HJ22.out; have := HJ32.out; have := HK4.out; have := HK5.out; omega
                       case rel => exact ⟨(wrap64 (x15_4 + 1)), Za, H', ⟨Zcq⟩, ⟨(Zz HO_11)⟩, ⟨(Zz HO_668000)⟩, ⟨(Zz HO_668001)⟩, ⟨(Zz HO_668002)⟩, ⟨(Zd BK667)⟩, ⟨(Ze GE667)⟩⟩
                     ·rw [if_neg c53] at H
                      exact absurd H (by simp)
                    ·rw [if_neg c52] at H
                     exact absurd H (by simp)
              ·rw [if_neg c38] at H
               have c38b0 := decide_eq_false c38; clear c38; obtain rfl := Option.some.inj H; obtain ⟨Ao55, co55, eo55⟩ := Kd.R_slice HO_11.out; subst eo55
               go_wp2
               repeat (go_quiet (fail); try go_wp2)
               go_ret
               exact ⟨Zj, (Ze GE667)⟩
     ·rw [if_neg c20] at H
      have c20b0 := beq_eq_false_iff_ne.mpr c20; have c20b1 := bne_iff_ne.mpr c20; obtain rfl := Option.some.inj H
      go_wp2
      repeat (go_quiet (fail); try go_wp2)
      go_ret
      exact ⟨Zj, (Ze GE667)⟩
def laws_FnBusiest.Pure : Prop := ∀ (l0 : List Int), l0.length ≤ maxLen → l0.length * 1 ≤ 140737488351232 → (∀ x ∈ l0, (Lit.int .u8 x).wf = true) → ∃ k, laws_FnBusiest.f k l0 = some true
theorem laws_FnBusiest.walk (P : laws_FnBusiest.Pure) (a0 : Option Addr) (len0 cap0 : Nat) (z0 : List Int) (w : World) (w0 : (a0 = none ∧ len0 = 0 ∧ cap0 = 0 ∧ z0 = []) ∨ ∃ x, a0 = some x ∧ len0 ≤ cap0 ∧ cap0 ≤ maxLen ∧ z0.length = cap0 ∧ (∀ i, i < z0.length → w.cell? (x.add i) = some (.int .u8 (z0.getD i 0))) ∧ ∀ n ∈ z0, (Lit.int .u8 n).wf = true) (y0 : len0 * 1 ≤ 140737488351232) :
  Calls Try.prog 3 #[.slice a0 len0 cap0] w fun e w' => e = .returned (.bool true) ∧ Below w.heap.size w w' := by
 obtain ⟨l0, rfl, hr0, hm0, hw0, hc0⟩ := ReadsInt.ofRowC w0; obtain ⟨k, h⟩ := P l0 hm0 y0 hw0; refine (laws_FnBusiest.calls k _ _ l0 true w (Kd.C_of_reads (d := (0 : Int)) (h1 := fun _ => rfl) hr0) hc0 h rfl).mono ?_; rintro e w' ⟨rfl, hd⟩; exact ⟨rfl, hd⟩
end Go.Proofs.Ythhijbdekboahaa.F
namespace Go.Proofs.Ythhijbdekboahaa.F
open Go.RowKit Go.Proofs.YthhijbdekboahaaW.PrintWords Go.Proofs.YthhijbdekboahaaW.PrintLast Go.Proofs.YthhijbdekboahaaW.PrintMore
set_option linter.unusedVariables false
set_option linter.unusedSimpArgs false
def Evt (P : Nat → Prop) : Prop := ∃ K, ∀ k, K ≤ k → P k
theorem Evt.mono {P Q : Nat → Prop} (h : Evt P) (hq : ∀ k, P k → Q k) : Evt Q := by
 obtain ⟨K, h⟩ := h; exact ⟨K, fun k hk => hq k (h k hk)⟩
theorem Evt.succ {P : Nat → Prop} (h : Evt (fun k => P (k + 1))) : Evt P := by
 obtain ⟨K, h⟩ := h; refine ⟨K + 1, fun k hk => ?_⟩; obtain ⟨m, rfl⟩ : ∃ m, k = m + 1 := ⟨k - 1, by omega⟩; exact h m (by omega)
theorem w64 {n : Int} (h : -9223372036854775808 ≤ n ∧ n ≤ 9223372036854775807) : wrap64 n = n := by unfold wrap64; omega
def allF (p : Nat → Bool) : Nat → Nat → Bool
 | _, 0 => true
 | i, d + 1 => p i && allF p (i + 1) d
theorem allF_true {p : Nat → Bool} : ∀ (d i : Nat), allF p i d = true ↔ ∀ j, i ≤ j → j < i + d → p j = true
 | 0, i => by simp [allF]; intro j h1 h2; omega
 | d + 1, i => by
  unfold allF
  rw [Bool.and_eq_true, allF_true d (i + 1)]; constructor
  ·rintro ⟨h1, h2⟩ j h3 h4
   rcases Nat.eq_or_lt_of_le h3 with e | e
   ·exact e ▸ h1
   ·exact h2 j e (by omega)
  ·exact fun h => ⟨h i (Nat.le_refl _) (by omega), fun j h1 h2 => h j (by omega) (by omega)⟩
theorem all_loopF {f : Nat → Nat → Option Bool} {p : Nat → Bool} {e : Bool} (a n : Nat) (hs : ∀ k i, a ≤ i → i < n → f (k + 1) i = if p i = true then f k (i + 1) else some false) (he : ∀ k, f (k + 1) n = some e) :
  ∀ d k i, a ≤ i → n - i = d → i ≤ n → d < k → f k i = some (allF p i d && e) := by
 intro d
 induction d with
 | zero =>
  intro k i ha hd hi hk; obtain ⟨k, rfl⟩ : ∃ m, k = m + 1 := ⟨k - 1, by omega⟩
  have : i = n := by omega
  subst this; rw [he]
  rfl
 | succ d ih =>
  intro k i ha hd hi hk; obtain ⟨k, rfl⟩ : ∃ m, k = m + 1 := ⟨k - 1, by omega⟩; rw [hs k i ha (by omega)]
  unfold allF
  by_cases hp : p i = true
  ·rw [if_pos hp, ih k (i + 1) (by omega) (by omega) (by omega) (by omega), hp, Bool.true_and]
  ·rw [if_neg hp]
   replace hp := Bool.eq_false_iff.mpr hp; rw [hp, Bool.false_and, Bool.false_and]
theorem all_loop {f : Nat → Nat → Option Bool} {p : Nat → Bool} {e : Bool} (n : Nat) (hs : ∀ k i, i < n → f (k + 1) i = if p i = true then f k (i + 1) else some false) (he : ∀ k, f (k + 1) n = some e) :
  ∀ d k i, n - i = d → i ≤ n → d < k → f k i = some (allF p i d && e) := fun d k i => all_loopF 0 n (fun k i _ h => hs k i h) he d k i (Nat.zero_le _)
def foldF {σ : Type} (step : Nat → σ → σ) : Nat → Nat → σ → σ
 | _, 0, s => s
 | i, d + 1, s => foldF step (i + 1) d (step i s)
theorem foldF_snoc {σ : Type} (f : Nat → σ → σ) : ∀ (d i : Nat) (s : σ), foldF f i (d + 1) s = f (i + d) (foldF f i d s)
 | 0, i, s => rfl
 | d + 1, i, s => by
  have h := foldF_snoc f d (i + 1) (f i s); rw [show i + 1 + d = i + (d + 1) by omega] at h; exact h
theorem fold_loop {σ β : Type} {f : Nat → Nat → σ → Option β} {step : Nat → σ → σ} {I : Nat → σ → Prop} {e : σ → Option β} (n : Nat) (hs : ∀ k i s, i < n → I i s → f (k + 1) i s = f k (i + 1) (step i s)) (hI : ∀ i s, i < n → I i s → I (i + 1) (step i s)) (he : ∀ k s, I n s → f (k + 1) n s = e s) :
  ∀ d k i s, n - i = d → i ≤ n → I i s → d < k → f k i s = e (foldF step i d s) := by
 intro d
 induction d with
 | zero =>
  intro k i s hd hi h0 hk; obtain ⟨k, rfl⟩ : ∃ m, k = m + 1 := ⟨k - 1, by omega⟩
  have : i = n := by omega
  subst this; exact he k s h0
 | succ d ih =>
  intro k i s hd hi h0 hk; obtain ⟨k, rfl⟩ : ∃ m, k = m + 1 := ⟨k - 1, by omega⟩; rw [hs k i s (by omega) h0]; exact ih k (i + 1) _ (by omega) (by omega) (hI i s (by omega) h0) (by omega)
def inB (n lo hi : Int) : Bool := decide (lo ≤ n ∧ n ≤ hi)
theorem inB_true {n lo hi : Int} : inB n lo hi = true ↔ lo ≤ n ∧ n ≤ hi := by unfold inB; exact decide_eq_true_iff
theorem inB_false {n lo hi : Int} : inB n lo hi = false ↔ ¬ (lo ≤ n ∧ n ≤ hi) := by unfold inB; exact decide_eq_false_iff_not
theorem getD_set {α : Type} (xs : List α) (i : Nat) (v z : α) (h : i < xs.length) : (xs.set i v).getD i z = v := by
 rw [List.getD_eq_getElem?_getD, List.getElem?_set_self h]; rfl
theorem getD_take {α : Type} (xs : List α) (z : α) (n i : Nat) (h : i < n) : (xs.take n).getD i z = xs.getD i z := by
 rw [List.getD_eq_getElem?_getD, List.getD_eq_getElem?_getD, List.getElem?_take, if_pos h]
def Code (c : List Int) : Prop := c.length ≤ 4096 ∧ ∀ x ∈ c, 0 ≤ x ∧ x ≤ 255
def St (c : List Int) (a s : Int) : Prop := 0 ≤ a ∧ a ≤ (c.length : Int) ∧ 0 ≤ s ∧ s < 2147483647
theorem rd_code {c : List Int} (hc : Code c) (i : Int) : 0 ≤ rd c i ∧ rd c i ≤ 255 := by
 unfold rd
 rw [List.getD_eq_getElem?_getD]
 cases h : c[i.toNat]? with
 | none => exact ⟨Int.le_refl _, by decide⟩
 | some x => exact hc.2 x (List.mem_of_getElem? h)
theorem tmod_nn {a b : Int} (ha : 0 ≤ a) (hb : 0 < b) : 0 ≤ Int.tmod a b ∧ Int.tmod a b < b := by
 rw [Int.tmod_eq_emod_of_nonneg ha]; exact ⟨Int.emod_nonneg _ (by omega), Int.emod_lt_of_pos _ hb⟩
theorem next_ok {c : List Int} (hc : Code c) {a s : Int} (h : St c a s) (n : Int) (hn : n ≤ 4611686018427387904) : ∃ r a' s', spec_l01Next.f c a s n = some (r, a', s') ∧ St c a' s' ∧ 0 ≤ r ∧ (r < n ∨ (n ≤ 1 ∧ r = 0)) := by
 obtain ⟨h1, h2, h3, h4⟩ := h; have hl := hc.1
 unfold spec_l01Next.f
 by_cases c1 : n ≤ 1
 ·rw [if_pos c1]
  exact ⟨0, a, s, rfl, ⟨h1, h2, h3, h4⟩, Int.le_refl _, .inr ⟨c1, rfl⟩⟩
 ·have hs := tmod_nn (a := s * 48271 + 29) (b := 2147483647) (by omega) (by omega)
  rw [if_neg c1, w64 (n := s * 48271) (by omega), w64 (n := s * 48271 + 29) (by omega)]; generalize Int.tmod (s * 48271 + 29) 2147483647 = z at hs ⊢; have hd : Int.tdiv z 31 = z / 31 := Int.tdiv_eq_ediv_of_nonneg hs.1; rw [hd]
  have n0 : ¬ n = 0 := by omega
  by_cases c2 : a < (c.length : Int)
  ·have hr := rd_code hc a
   have p := tmod_nn (a := z / 31 + rd c a) (b := n) (by omega) (by omega); have q := tmod_nn (a := rd c a) (b := n) (by omega) (by omega); simp only [if_neg n0]; rw [if_pos c2, if_pos h1, w64 (n := a + 1) (by omega), w64 (n := z / 31) (by omega), w64 (n := rd c a) (by omega), w64 (n := z / 31 + rd c a) (by omega), w64 (n := a + 1 - 1) (by omega), show a + 1 - 1 = a by omega, w64 (n := rd c a) (by omega)]
   by_cases c3 : n ≤ 256
   ·rw [if_pos c3]
    by_cases c4 : Int.tmod (a + 1) 2 = 0
    ·rw [if_pos c4, if_pos h1, if_pos c2]
     exact ⟨_, _, _, rfl, ⟨by omega, by omega, hs.1, hs.2⟩, q.1, .inl q.2⟩
    ·rw [if_neg c4]
     exact ⟨_, _, _, rfl, ⟨by omega, by omega, hs.1, hs.2⟩, p.1, .inl p.2⟩
   ·rw [if_neg c3]
    exact ⟨_, _, _, rfl, ⟨by omega, by omega, hs.1, hs.2⟩, p.1, .inl p.2⟩
  ·have p := tmod_nn (a := z / 31) (b := n) (by omega) (by omega)
   simp only [if_neg n0]; rw [if_neg c2, w64 (n := z / 31) (by omega)]; exact ⟨_, _, _, rfl, ⟨h1, h2, hs.1, hs.2⟩, p.1, .inl p.2⟩
theorem pick_ok {c : List Int} (hc : Code c) {a s : Int} (h : St c a s) (l : List Int) (hl : 0 < l.length) (hl2 : l.length ≤ 1000) : ∃ r a' s', spec_l01Pick.f c a s l = some (r, a', s') ∧ St c a' s' ∧ r ∈ l := by
 obtain ⟨r, a', s', e, h', h0, h1⟩ := next_ok hc h (l.length : Int) (by omega); refine ⟨rd l r, a', s', ?_, h', ?_⟩
 ·unfold spec_l01Pick.f
  rw [e]; simp only [Option.bind_some]; rw [if_pos h0, if_pos (by omega)]
 ·have hr : r.toNat < l.length := by omega
  unfold rd
  rw [List.getD_eq_getElem?_getD, List.getElem?_eq_getElem hr]; exact List.getElem_mem hr
theorem from_ok {c : List Int} (hc : Code c) : ∃ s, (∀ k, 70 ≤ k → spec_l01From.f k c = some (c, 0, s)) ∧ St c 0 s := by
 have loop : ∀ (d : Nat) (i s : Int), 0 ≤ i → i ≤ 64 → 64 - i ≤ d → 0 ≤ s → s < 2147483647 → ∃ s', (∀ k, d < k → spec_l01From.l0 k c i c 0 s = some (c, 0, s')) ∧ St c 0 s' := by
  intro d
  induction d with
  | zero =>
   intro i s h1 h2 h3 h4 h5; refine ⟨s, fun k hk => ?_, by omega, by omega, h4, h5⟩; obtain ⟨k, rfl⟩ : ∃ m, k = m + 1 := ⟨k - 1, by omega⟩; simp only [spec_l01From.l0]; rw [if_neg (show ¬ i < 64 by omega)]
   split <;> rfl
  | succ d ih =>
   intro i s h1 h2 h3 h4 h5
   by_cases c1 : i < (c.length : Int) ∧ i < 64
   ·have hr := rd_code hc i
    have hm := tmod_nn (a := s * 83 + rd c i) (b := 2147483647) (by omega) (by omega); obtain ⟨s', e, hs⟩ := ih (i + 1) (Int.tmod (s * 83 + rd c i) 2147483647) (by omega) (by omega) (by omega) hm.1 hm.2; refine ⟨s', fun k hk => ?_, hs⟩; obtain ⟨k, rfl⟩ : ∃ m, k = m + 1 := ⟨k - 1, by omega⟩; simp only [spec_l01From.l0]; rw [if_pos c1.1, if_pos c1.2, if_pos h1, w64 (n := i + 1) (by omega), w64 (n := s * 83) (by omega), w64 (n := rd c i) (by omega), w64 (n := s * 83 + rd c i) (by omega)]; exact e k (by omega)
   ·refine ⟨s, fun k hk => ?_, by omega, by omega, h4, h5⟩
    obtain ⟨k, rfl⟩ : ∃ m, k = m + 1 := ⟨k - 1, by omega⟩; simp only [spec_l01From.l0]
    by_cases c2 : i < (c.length : Int)
    ·rw [if_pos c2, if_neg (fun x => c1 ⟨c2, x⟩)]
    ·rw [if_neg c2]
 obtain ⟨s', e, hs⟩ := loop 64 0 61043 (by omega) (by omega) (by omega) (by omega) (by omega); exact ⟨s', fun k hk => e k (by omega), hs⟩
theorem code_of {l : List Int} (h : ¬ (l.length : Int) > 4096) (hb : ∀ x ∈ l, (Go.Lit.int .u8 x).wf = true) : Code l := ⟨by omega, fun x hx => by
 have h := hb x hx
 simp [Go.Lit.wf, Go.IntKind.min, Go.IntKind.max, Go.IntKind.signed, Go.IntKind.bits] at h
 omega⟩
theorem good_art {c : List Int} (hc : Code c) {a s : Int} (h : St c a s) (nm : ByteArray) : ∃ q2 q3 q4 q5 q6 q7 q8 q9 a' s', spec_l03Good.f c a s nm = some (nm, q2, q3, q4, q5, q6, q7, q8, q9, a', s') ∧ St c a' s' := by
 obtain ⟨r1, a1, s1, e1, h1, _⟩ := next_ok hc h 4 (by decide); obtain ⟨r2, a2, s2, e2, h2, _⟩ := next_ok hc h1 281 (by decide); obtain ⟨r3, a3, s3, e3, h3, _⟩ := pick_ok hc h2 [50, 75, 100, 150, wrap64 (20 + r2)] (by simp) (by simp); obtain ⟨r4, a4, s4, e4, h4, _⟩ := next_ok hc h3 5000 (by decide); obtain ⟨r5, a5, s5, e5, h5, _⟩ := next_ok hc h4 300 (by decide); obtain ⟨r6, a6, s6, e6, h6, _⟩ := next_ok hc h5 2000 (by decide); obtain ⟨r7, a7, s7, e7, h7, _⟩ := next_ok hc h6 4 (by decide); obtain ⟨r8, a8, s8, e8, h8, _⟩ := next_ok hc h7 8 (by decide); obtain ⟨r9, a9, s9, e9, h9, _⟩ := next_ok hc h8 2000 (by decide)
 unfold spec_l03Good.f
 rw [e1, Option.bind_some]; dsimp only; rw [e2, Option.bind_some]; dsimp only; rw [e3, Option.bind_some]; dsimp only; rw [e4, Option.bind_some]; dsimp only; rw [e5, Option.bind_some]; dsimp only; rw [e6, Option.bind_some]; dsimp only; rw [e7, Option.bind_some]; dsimp only
 by_cases g : r1 = 1
 ·rw [if_pos g, e8, Option.bind_some]; dsimp only
  rw [e9, Option.bind_some]; dsimp only
  by_cases g2 : r1 = 2
  ·rw [if_pos g2]; exact ⟨_, _, _, _, _, _, _, _, _, _, rfl, h9⟩
  ·rw [if_neg g2]; exact ⟨_, _, _, _, _, _, _, _, _, _, rfl, h9⟩
 ·rw [if_neg g]
  by_cases g2 : r1 = 2
  ·rw [if_pos g2]; exact ⟨_, _, _, _, _, _, _, _, _, _, rfl, h7⟩
  ·rw [if_neg g2]; exact ⟨_, _, _, _, _, _, _, _, _, _, rfl, h7⟩
theorem In_eq (n lo hi : Int) : spec_l01In.f n lo hi = some (inB n lo hi) := by
 unfold spec_l01In.f inB
 by_cases h : n ≥ lo
 ·rw [if_pos h]; congr 1; simp; omega
 ·rw [if_neg h]; congr 1; simp; omega
theorem Wi_eq (n lo hi : Int) : impl_within.f n lo hi = some (inB n lo hi) := by
 unfold impl_within.f inB
 by_cases h : lo ≤ n
 ·rw [if_pos h]; congr 1; simp; omega
 ·rw [if_neg h]; congr 1; simp; omega
def bt_at (xs : List S104) (i : Nat) : Int := (xs.getD i z104).f0
def ln_at (xs : List S104) (i : Nat) : Int := (xs.getD i z104).f1
def barAt (xs : List S104) (i : Nat) : Bool := inB (bt_at xs i) 1 16 && inB (ln_at xs i) 100 5000
def isScore (xs : List S104) : Bool := allF (barAt xs) 0 xs.length && inB (xs.length : Int) 1 20
theorem rd_bar (xs : List S104) (i : Nat) : rd_T104 xs (i : Int) = xs.getD i z104 := by unfold rd_T104; rw [Int.toNat_natCast]
theorem spec_score (xs : List S104) (hx : xs.length ≤ 9223372036854775807) (k : Nat) (hk : xs.length < k) : spec_IsScore.f k xs = some (isScore xs) := by
 refine all_loop (f := fun k i => spec_IsScore.l0 k xs (i : Int)) xs.length (fun k i hi => ?_) (fun k => ?_) xs.length k 0 (by omega) (by omega) (by omega)
 ·show spec_IsScore.l0 (k + 1) xs i = _
  simp only [spec_IsScore.l0, In_eq, Option.bind_some]; rw [if_pos (by omega), if_pos (by omega), w64 (by omega), rd_bar]
  unfold barAt bt_at ln_at
  cases inB (xs.getD i z104).f0 1 16 <;> cases inB (xs.getD i z104).f1 100 5000 <;> rfl
 ·show spec_IsScore.l0 (k + 1) xs _ = _
  simp only [spec_IsScore.l0, In_eq, Option.bind_some]; rw [if_neg (by omega)]
theorem impl_score (xs : List S104) (hx : xs.length ≤ 9223372036854775807) (k : Nat) (hk : xs.length + 1 < k) : impl_IsScore.f k xs = some (isScore xs) := by
 obtain ⟨k, rfl⟩ : ∃ m, k = m + 1 := ⟨k - 1, by omega⟩
 unfold impl_IsScore.f isScore
 simp only [impl_IsScore.j0]
 by_cases h1 : (xs.length : Int) < 1
 ·rw [if_pos h1, if_pos trivial, inB_false.2 (by omega), Bool.and_false]
 ·rw [if_neg h1]
  by_cases h2 : (xs.length : Int) > 20
  ·rw [if_pos (decide_eq_true h2), inB_false.2 (by omega), Bool.and_false]
  ·rw [if_neg (by simpa using h2), inB_true.2 (by omega)]
   refine all_loop (f := fun k i => impl_IsScore.l0 k xs (xs.length : Int) (i : Int)) xs.length (fun k i hi => ?_) (fun k => ?_) xs.length k 0 (by omega) (by omega) (by omega)
   ·show impl_IsScore.l0 (k + 1) xs (xs.length : Int) i = _
    simp only [impl_IsScore.l0, Wi_eq, Option.bind_some]; rw [if_pos (by omega), if_pos (by omega), if_pos (by omega), w64 (by omega), rd_bar]
    unfold barAt bt_at ln_at
    cases inB (xs.getD i z104).f0 1 16 <;> cases inB (xs.getD i z104).f1 100 5000 <;> rfl
   ·show impl_IsScore.l0 (k + 1) xs (xs.length : Int) _ = _
    simp only [impl_IsScore.l0]; rw [if_neg (by omega)]
theorem isScore_true {xs : List S104} (h : isScore xs = true) : 1 ≤ xs.length ∧ xs.length ≤ 20 ∧ ∀ i, i < xs.length → 1 ≤ bt_at xs i ∧ bt_at xs i ≤ 16 ∧ 100 ≤ ln_at xs i ∧ ln_at xs i ≤ 5000 := by
 unfold isScore at h
 rw [Bool.and_eq_true, allF_true, inB_true] at h; refine ⟨by omega, by omega, fun i hi => ?_⟩; have := h.1 i (by omega) (by omega)
 unfold barAt at this
 rw [Bool.and_eq_true, inB_true, inB_true] at this
 omega
def tm (xs : List S104) (i : Nat) : Int := foldF (fun j s => s + bt_at xs j * ln_at xs j) 0 i 0
theorem tm_succ (xs : List S104) (i : Nat) : tm xs (i + 1) = tm xs i + bt_at xs i * ln_at xs i := by
 unfold tm
 rw [foldF_snoc, Nat.zero_add]
theorem prod_le {a b : Int} (h : 1 ≤ a ∧ a ≤ 16 ∧ 100 ≤ b ∧ b ≤ 5000) : 100 ≤ a * b ∧ a * b ≤ 80000 := by
 have h1 : 1 * b ≤ a * b := Int.mul_le_mul_of_nonneg_right h.1 (by omega); have h2 : a * b ≤ 16 * b := Int.mul_le_mul_of_nonneg_right h.2.1 (by omega)
 omega
theorem tm_le {xs : List S104} (h : isScore xs = true) : ∀ i, i ≤ xs.length → 0 ≤ tm xs i ∧ tm xs i ≤ 80000 * i
 | 0, _ => by unfold tm foldF; omega
 | i + 1, hi => by
  have h1 := tm_le h i (by omega); have h2 := prod_le ((isScore_true h).2.2 i (by omega)); rw [tm_succ]
  omega
def GoodBars (xs : List S104) : Prop := ∀ x ∈ xs, (2 ≤ x.f0 ∧ x.f0 ≤ 5) ∧ 400 ≤ x.f1 ∧ x.f1 ≤ 999
theorem score_good {c : List Int} (hc : Code c) {a s : Int} (h : St c a s) : ∃ xs a' s', (∀ k, 20 ≤ k → spec_l07Good.f k c a s = some (xs, a', s')) ∧ St c a' s' ∧ 1 ≤ xs.length ∧ xs.length ≤ 6 ∧ GoodBars xs := by
 have loop : ∀ (d : Nat) (n : Int) (xs : List S104) (a s : Int), n = d → GoodBars xs → xs.length + d ≤ 6 → St c a s → ∃ r a' s', (∀ k, d < k → spec_l07Good.l0 k xs n c a s = some (r, a', s')) ∧ St c a' s' ∧ r.length = xs.length + d ∧ GoodBars r := by
  intro d
  induction d with
  | zero =>
   intro n xs a s hn hg hl h; refine ⟨xs, a, s, fun k hk => ?_, h, rfl, hg⟩; obtain ⟨k, rfl⟩ : ∃ m, k = m + 1 := ⟨k - 1, by omega⟩; simp only [spec_l07Good.l0]; rw [if_neg (by omega)]
  | succ d ih =>
   intro n xs a s hn hg hl h; obtain ⟨r1, a1, s1, e1, h1, b1, c1⟩ := next_ok hc h 4 (by omega); obtain ⟨r2, a2, s2, e2, h2, b2, c2⟩ := next_ok hc h1 600 (by omega)
   obtain ⟨r, a', s', e, h', hr, hg'⟩ := ih (n - 1) (xs ++ [(⟨2 + r1, 400 + r2⟩ : S104)]) a2 s2 (by omega) (by
    intro x hx
    rcases List.mem_append.1 hx with y | y
    ·exact hg x y
    ·rw [List.mem_singleton.1 y]
     exact ⟨by show 2 ≤ 2 + r1 ∧ 2 + r1 ≤ 5; omega, by show 400 ≤ 400 + r2 ∧ 400 + r2 ≤ 999; omega⟩) (by rw [List.length_append]; show xs.length + 1 + d ≤ 6; omega) h2
   refine ⟨r, a', s', fun k hk => ?_, h', by rw [hr, List.length_append]; show xs.length + 1 + d = _; omega, hg'⟩; obtain ⟨k, rfl⟩ : ∃ m, k = m + 1 := ⟨k - 1, by omega⟩; simp only [spec_l07Good.l0]; rw [if_pos (by omega)]; simp only [e1, e2, Option.bind_some]; rw [if_pos (by omega), w64 (n := 2 + r1) (by omega), w64 (n := 400 + r2) (by omega), w64 (n := n - 1) (by omega)]; exact e k (by omega)
 obtain ⟨r1, a1, s1, e1, h1, b1, c1⟩ := next_ok hc h 6 (by omega); obtain ⟨r, a', s', e, h', hr, hg⟩ := loop (1 + r1).toNat (1 + r1) [] a1 s1 (by omega) (fun x hx => absurd hx (by simp)) (by show 0 + _ ≤ 6; omega) h1
 have hr' : r.length = (1 + r1).toNat := by rw [hr]; show 0 + _ = _; omega
 refine ⟨r, a', s', fun k hk => ?_, h', by omega, by omega, hg⟩
 unfold spec_l07Good.f
 rw [e1]; simp only [Option.bind_some]; rw [w64 (n := 1 + r1) (by omega)]; exact e k (by omega)
theorem score_draw {c : List Int} (hc : Code c) {a s : Int} (h : St c a s) : ∃ xs a' s', (∀ k, 60 ≤ k → spec_l07Draw.f k c a s = some (xs, a', s')) ∧ St c a' s' ∧ xs.length ≤ 30 := by
 have loop : ∀ (d : Nat) (xs : List S104) (a s : Int), 21 - xs.length = d → xs.length ≤ 30 → St c a s → ∃ r a' s', (∀ k, d < k → spec_l07Draw.l0 k xs c a s = some (r, a', s')) ∧ St c a' s' ∧ r.length ≤ 30 := by
  intro d
  induction d with
  | zero =>
   intro xs a s hd hx h; obtain ⟨r1, a1, s1, e1, h1, b1, b2⟩ := next_ok hc h 2 (by omega); refine ⟨xs, a1, s1, fun k hk => ?_, h1, hx⟩; obtain ⟨k, rfl⟩ : ∃ m, k = m + 1 := ⟨k - 1, by omega⟩; simp only [spec_l07Draw.l0, e1, Option.bind_some]; rw [w64 (n := 20 + r1) (by omega), if_neg (by omega)]
  | succ d ih =>
   intro xs a s hd hx h; obtain ⟨r1, a1, s1, e1, h1, b1, b2⟩ := next_ok hc h 2 (by omega)
   by_cases c1 : (xs.length : Int) < 20 + r1
   ·obtain ⟨r, a', s', e, h', hl⟩ := ih (xs ++ [(⟨4, 500⟩ : S104)]) a1 s1 (by rw [List.length_append]; show 21 - (xs.length + 1) = d; omega) (by rw [List.length_append]; show xs.length + 1 ≤ 30; omega) h1
    refine ⟨r, a', s', fun k hk => ?_, h', hl⟩; obtain ⟨k, rfl⟩ : ∃ m, k = m + 1 := ⟨k - 1, by omega⟩; simp only [spec_l07Draw.l0, e1, Option.bind_some]; rw [w64 (n := 20 + r1) (by omega), if_pos c1, if_pos (by omega)]; exact e k (by omega)
   ·refine ⟨xs, a1, s1, fun k hk => ?_, h1, hx⟩
    obtain ⟨k, rfl⟩ : ∃ m, k = m + 1 := ⟨k - 1, by omega⟩; simp only [spec_l07Draw.l0, e1, Option.bind_some]; rw [w64 (n := 20 + r1) (by omega), if_neg c1]
 obtain ⟨xs, a1, s1, e1, h1, l1, l2, hg⟩ := score_good hc h; obtain ⟨r2, a2, s2, e2, h2, b2, c2⟩ := next_ok hc h1 40 (by omega)
 by_cases d0 : r2 = 0
 ·obtain ⟨r3, a3, s3, e3, h3, _⟩ := pick_ok hc h2 [0, 1, 16, 17] (by simp) (by simp)
  refine ⟨xs.set (0 : Int).toNat (⟨r3, (rd_T104 xs 0).f1⟩ : S104), a3, s3, fun k hk => ?_, h3, by rw [List.length_set]; omega⟩
  unfold spec_l07Draw.f
  simp only [e1 k (by omega), e2, e3, Option.bind_some]; rw [if_pos d0, if_pos (by omega)]
 by_cases d1 : r2 = 1
 ·obtain ⟨r3, a3, s3, e3, h3, _⟩ := pick_ok hc h2 [99, 100, 5000, 5001] (by simp) (by simp)
  refine ⟨xs.set (0 : Int).toNat (⟨(rd_T104 xs 0).f0, r3⟩ : S104), a3, s3, fun k hk => ?_, h3, by rw [List.length_set]; omega⟩
  unfold spec_l07Draw.f
  simp only [e1 k (by omega), e2, e3, Option.bind_some]; rw [if_neg d0, if_pos d1, if_pos (by omega)]
 by_cases d2 : r2 = 2
 ·obtain ⟨r, a', s', e, h', hl⟩ := loop (21 - xs.length) xs a2 s2 rfl (by omega) h2
  refine ⟨r, a', s', fun k hk => ?_, h', hl⟩
  unfold spec_l07Draw.f
  simp only [e1 k (by omega), e2, Option.bind_some]; rw [if_neg d0, if_neg d1, if_pos d2]; exact e k (by omega)
 by_cases d3 : r2 = 3
 ·refine ⟨xs.take (0 : Int).toNat, a2, s2, fun k hk => ?_, h2, Nat.zero_le _⟩
  unfold spec_l07Draw.f
  simp only [e1 k (by omega), e2, Option.bind_some]; rw [if_neg d0, if_neg d1, if_neg d2, if_pos d3, if_pos (by omega)]
 ·refine ⟨xs, a2, s2, fun k hk => ?_, h2, by omega⟩
  unfold spec_l07Draw.f
  simp only [e1 k (by omega), e2, Option.bind_some]; rw [if_neg d0, if_neg d1, if_neg d2, if_neg d3]
def word (s : ByteArray) : Bool := allF (fun j => inB (bt s (j : Int)) 97 122) 0 s.size && inB (s.size : Int) 1 16
theorem spec_word (s : ByteArray) (hs : s.size ≤ 9223372036854775807) (k : Nat) (hk : s.size < k) : spec_IsWord.f k s = some (word s) := by
 refine all_loop (f := fun k i => spec_IsWord.l0 k s (i : Int)) s.size (fun k i hi => ?_) (fun k => ?_) s.size k 0 (by omega) (by omega) (by omega)
 ·show spec_IsWord.l0 (k + 1) s i = _
  simp only [spec_IsWord.l0]; rw [if_pos (by omega), if_pos (by omega), w64 (n := (i : Int) + 1) (by omega)]
  by_cases c1 : bt s (i : Int) < 97
  ·rw [if_pos c1, inB_false.2 (by omega), if_neg (by decide)]
  ·rw [if_neg c1]
   by_cases c2 : bt s (i : Int) > 122
   ·rw [if_pos c2, inB_false.2 (by omega), if_neg (by decide)]
   ·rw [if_neg c2, inB_true.2 (by omega), if_pos rfl]; rfl
 ·show spec_IsWord.l0 (k + 1) s _ = _
  simp only [spec_IsWord.l0]; rw [if_neg (by omega), In_eq]; rfl
theorem impl_word (s : ByteArray) (hs : s.size ≤ 9223372036854775807) (k : Nat) (hk : s.size + 1 < k) : impl_IsWord.f k s = some (word s) := by
 obtain ⟨k, rfl⟩ : ∃ m, k = m + 1 := ⟨k - 1, by omega⟩
 unfold impl_IsWord.f word
 simp only [impl_IsWord.j0]
 by_cases h1 : (s.size : Int) < 1
 ·rw [if_pos h1, if_pos trivial, inB_false.2 (by omega), Bool.and_false]
 ·rw [if_neg h1]
  by_cases h2 : (s.size : Int) > 16
  ·rw [if_pos (decide_eq_true h2), inB_false.2 (by omega), Bool.and_false]
  ·rw [if_neg (by simpa using h2), inB_true.2 (by omega)]
   refine all_loop (f := fun k i => impl_IsWord.l0 k s (i : Int)) s.size (fun k i hi => ?_) (fun k => ?_) s.size k 0 (by omega) (by omega) (by omega)
   ·show impl_IsWord.l0 (k + 1) s i = _
    simp only [impl_IsWord.l0]; rw [if_pos (by omega), if_pos (by omega), w64 (n := (i : Int) + 1) (by omega)]
    by_cases c1 : bt s (i : Int) < 97
    ·rw [if_pos c1, inB_false.2 (by omega), if_neg (by decide)]
    ·rw [if_neg c1]
     by_cases c2 : bt s (i : Int) > 122
     ·rw [if_pos c2, inB_false.2 (by omega), if_neg (by decide)]
     ·rw [if_neg c2, inB_true.2 (by omega), if_pos rfl]; rfl
   ·show impl_IsWord.l0 (k + 1) s _ = _
    simp only [impl_IsWord.l0]; rw [if_neg (by omega)]
def art (a : S62) : Bool := word a.f0 && (inB a.f1 0 3 && (inB a.f2 20 300 && (inB a.f3 0 10000 && (inB a.f4 0 a.f3 && (inB a.f5 1 50 && (inB a.f6 0 10000 && (inB a.f7 1 100000 && inB a.f8 0 3)))))))
theorem spec_art (a : S62) (hs : a.f0.size ≤ 9223372036854775807) (k : Nat) (hk : a.f0.size < k) : spec_IsArticle.f k a.f0 a.f1 a.f2 a.f3 a.f4 a.f5 a.f6 a.f7 a.f8 = some (art a) := by
 unfold spec_IsArticle.f art
 rw [spec_word a.f0 hs k hk]; simp only [In_eq, Option.bind_some]
 cases word a.f0 <;> cases inB a.f1 0 3 <;> cases inB a.f2 20 300 <;> cases inB a.f3 0 10000 <;> cases inB a.f4 0 a.f3 <;> cases inB a.f5 1 50 <;> cases inB a.f6 0 10000 <;> cases inB a.f7 1 100000 <;> rfl
theorem impl_art (a : S62) (hs : a.f0.size ≤ 9223372036854775807) (k : Nat) (hk : a.f0.size + 1 < k) : impl_IsArticle.f k a.f0 a.f1 a.f2 a.f3 a.f4 a.f5 a.f6 a.f7 a.f8 = some (art a) := by
 unfold impl_IsArticle.f art
 rw [impl_word a.f0 hs k hk]; simp only [Wi_eq, Option.bind_some]
 cases word a.f0 <;> cases inB a.f1 0 3 <;> cases inB a.f2 20 300 <;> cases inB a.f3 0 10000 <;> cases inB a.f4 0 a.f3 <;> cases inB a.f5 1 50 <;> cases inB a.f6 0 10000 <;> cases inB a.f7 1 100000 <;> rfl
def ar_at (xs : List S62) (i : Nat) : S62 := xs.getD i z62
theorem rd_art (xs : List S62) (i : Nat) : rd_T62 xs (i : Int) = ar_at xs i := by unfold rd_T62 ar_at; rw [Int.toNat_natCast]
def artAt (xs : List S62) (i : Nat) : Bool := art (ar_at xs i) && (decide (i = 0) || Op.bytesLess (ar_at xs (i - 1)).f0.toList (ar_at xs i).f0.toList)
def areArts (xs : List S62) : Bool := allF (artAt xs) 0 xs.length && decide ((xs.length : Int) ≤ 12)
def Small (B : Nat) (xs : List S62) : Prop := B ≤ 9223372036854775807 ∧ ∀ x ∈ xs, x.f0.size ≤ B
theorem small_at {B : Nat} {xs : List S62} (h : Small B xs) (i : Nat) (hi : i < xs.length) : (ar_at xs i).f0.size ≤ B := by
 unfold ar_at
 rw [List.getD_eq_getElem?_getD, List.getElem?_eq_getElem hi]; exact h.2 _ (List.getElem_mem hi)
theorem spec_arts (B : Nat) (xs : List S62) (hx : xs.length ≤ 9223372036854775807) (hB : Small B xs) (k : Nat) (hk : xs.length + B < k) : spec_AreArticles.f k xs = some (areArts xs) := by
 have loop : ∀ d k i, xs.length - i = d → i ≤ xs.length → d + B < k → spec_AreArticles.l0 k xs (i : Int) = some (allF (artAt xs) i d && decide ((xs.length : Int) ≤ 12)) := by
  intro d
  induction d with
  | zero =>
   intro k i hd hi hk; obtain ⟨k, rfl⟩ : ∃ m, k = m + 1 := ⟨k - 1, by omega⟩; simp only [spec_AreArticles.l0]; rw [if_neg (by omega)]
   rfl
  | succ d ih =>
   intro k i hd hi hk; obtain ⟨k, rfl⟩ : ∃ m, k = m + 1 := ⟨k - 1, by omega⟩; have hb := small_at hB i (by omega); have hB1 := hB.1; have nx := ih k (i + 1) (by omega) (by omega) (by omega); simp only [spec_AreArticles.l0]; rw [if_pos (by omega), if_pos (by omega), rd_art, spec_art _ (by omega) k (by omega), w64 (n := (i : Int) + 1) (by omega)]; simp only [Option.bind_some]
   unfold allF artAt
   cases ha : art (ar_at xs i) with
   | false => rfl
   | true =>
    rw [if_pos rfl, Bool.true_and]
    by_cases i0 : i = 0
    ·subst i0
     rw [if_neg (by omega), decide_eq_true rfl, Bool.true_or, Bool.true_and]; exact nx
    ·rw [if_pos (by omega), w64 (n := (i : Int) - 1) (by omega), if_pos (by omega), if_pos (by omega), show (i : Int) - 1 = ((i - 1 : Nat) : Int) by omega, rd_art, decide_eq_false i0, Bool.false_or]
     cases hl : Op.bytesLess (ar_at xs (i - 1)).f0.toList (ar_at xs i).f0.toList with
     | false => rfl
     | true => rw [if_pos rfl, Bool.true_and]; exact nx
 unfold spec_AreArticles.f
 exact loop xs.length k 0 (by omega) (by omega) hk
theorem impl_arts (B : Nat) (xs : List S62) (hx : xs.length ≤ 9223372036854775807) (hB : Small B xs) (k : Nat) (hk : xs.length + B + 1 < k) : impl_AreArticles.f k xs = some (areArts xs) := by
 have loop : ∀ d k i, xs.length - i = d → i ≤ xs.length → d + B + 1 < k → impl_AreArticles.l0 k xs xs (xs.length : Int) (i : Int) = some (allF (artAt xs) i d && true) := by
  intro d
  induction d with
  | zero =>
   intro k i hd hi hk; obtain ⟨k, rfl⟩ : ∃ m, k = m + 1 := ⟨k - 1, by omega⟩; simp only [impl_AreArticles.l0]; rw [if_neg (by omega)]
   rfl
  | succ d ih =>
   intro k i hd hi hk; obtain ⟨k, rfl⟩ : ∃ m, k = m + 1 := ⟨k - 1, by omega⟩; have hb := small_at hB i (by omega); have hB1 := hB.1; have nx := ih k (i + 1) (by omega) (by omega) (by omega); simp only [impl_AreArticles.l0]; rw [if_pos (by omega), if_pos (by omega), if_pos (by omega), rd_art, impl_art _ (by omega) k (by omega), w64 (n := (i : Int) + 1) (by omega)]; simp only [Option.bind_some]
   unfold allF artAt
   cases ha : art (ar_at xs i) with
   | false => rfl
   | true =>
    rw [if_pos rfl, Bool.true_and]
    by_cases i0 : i = 0
    ·subst i0
     rw [if_neg (by omega), decide_eq_true rfl, Bool.true_or, Bool.true_and]; exact nx
    ·rw [if_pos (by omega), w64 (n := (i : Int) - 1) (by omega), if_pos (by omega), if_pos (by omega), show (i : Int) - 1 = ((i - 1 : Nat) : Int) by omega, rd_art, decide_eq_false i0, Bool.false_or]
     cases hl : Op.bytesLess (ar_at xs (i - 1)).f0.toList (ar_at xs i).f0.toList with
     | false => rfl
     | true => rw [if_pos rfl, Bool.true_and]; exact nx
 unfold impl_AreArticles.f areArts
 by_cases c : (xs.length : Int) > 12
 ·rw [if_pos c, decide_eq_false (by omega), Bool.and_false]
 ·rw [if_neg c, decide_eq_true (by omega)]
  exact loop xs.length k 0 (by omega) (by omega) hk
def findF (xs : List S62) (s : ByteArray) : Nat → Nat → Int
 | _, 0 => -1
 | i, d + 1 => if (ar_at xs i).f0.toList = s.toList then (i : Int) else findF xs s (i + 1) d
def find (xs : List S62) (s : ByteArray) : Int := findF xs s 0 xs.length
theorem find_go (xs : List S62) (hx : xs.length ≤ 9223372036854775807) (s : ByteArray) : ∀ d k i, xs.length - i = d → i ≤ xs.length → d < k → spec_l03Find.l0 k xs s (i : Int) = some (findF xs s i d) ∧ impl_articleOf.l0 k s xs (xs.length : Int) (i : Int) = some (findF xs s i d) := by
 intro d
 induction d with
 | zero =>
  intro k i hd hi hk; obtain ⟨k, rfl⟩ : ∃ m, k = m + 1 := ⟨k - 1, by omega⟩; simp only [spec_l03Find.l0, impl_articleOf.l0]; rw [if_neg (by omega), if_neg (by omega)]; exact ⟨rfl, rfl⟩
 | succ d ih =>
  intro k i hd hi hk; obtain ⟨k, rfl⟩ : ∃ m, k = m + 1 := ⟨k - 1, by omega⟩; obtain ⟨a, b⟩ := ih k (i + 1) (by omega) (by omega) (by omega); have w : wrap64 ((i : Int) + 1) = ((i + 1 : Nat) : Int) := w64 (by omega)
  have g1 : (i : Int) < (xs.length : Int) := by clear w; omega
  have g2 : 0 ≤ (i : Int) := by clear w; omega
  simp only [spec_l03Find.l0, impl_articleOf.l0, if_pos g1, if_pos g2, rd_art, w]
  unfold findF
  by_cases c : (ar_at xs i).f0.toList = s.toList
  ·rw [if_pos c, if_pos c, if_pos c]; exact ⟨rfl, rfl⟩
  ·rw [if_neg c, if_neg c, if_neg c]; exact ⟨a, b⟩
theorem spec_find (xs : List S62) (hx : xs.length ≤ 9223372036854775807) (s : ByteArray) (k : Nat) (hk : xs.length < k) : spec_l03Find.f k xs s = some (find xs s) := (find_go xs hx s xs.length k 0 (by omega) (by omega) hk).1
theorem impl_find (xs : List S62) (hx : xs.length ≤ 9223372036854775807) (s : ByteArray) (k : Nat) (hk : xs.length < k) : impl_articleOf.f k xs s = some (find xs s) := (find_go xs hx s xs.length k 0 (by omega) (by omega) hk).2
theorem findF_range (xs : List S62) (s : ByteArray) : ∀ d i, findF xs s i d = -1 ∨ ((i : Int) ≤ findF xs s i d ∧ findF xs s i d < (i : Int) + d)
 | 0, _ => .inl rfl
 | d + 1, i => by
  unfold findF
  by_cases c : (ar_at xs i).f0.toList = s.toList
  ·rw [if_pos c]; exact .inr ⟨Int.le_refl _, by omega⟩
  ·rw [if_neg c]
   rcases findF_range xs s d (i + 1) with h | h
   ·exact .inl h
   ·exact .inr ⟨by omega, by omega⟩
theorem find_range (xs : List S62) (s : ByteArray) : find xs s = -1 ∨ (0 ≤ find xs s ∧ find xs s < (xs.length : Int)) := by
 have := findF_range xs s xs.length 0
 unfold find
 omega
theorem spec_time {xs : List S104} (h : isScore xs = true) (bar : Nat) (hb : bar < xs.length) (beat : Int) (h0 : 0 ≤ beat ∧ beat ≤ 16) (k : Nat) (hk : bar < k) : spec_l07Time.f k xs (bar : Int) beat = some (tm xs bar + beat * ln_at xs bar) := by
 have hs := isScore_true h; have hl := hs.2.2 bar hb
 have hb2 : 0 ≤ beat * ln_at xs bar ∧ beat * ln_at xs bar ≤ 80000 := by
  have h1 : 0 * ln_at xs bar ≤ beat * ln_at xs bar := Int.mul_le_mul_of_nonneg_right h0.1 (by omega); have h2 : beat * ln_at xs bar ≤ 16 * ln_at xs bar := Int.mul_le_mul_of_nonneg_right h0.2 (by omega)
  omega
 refine fold_loop (f := fun k i s => spec_l07Time.l0 k xs (bar : Int) beat s (i : Int)) (step := fun j s => s + bt_at xs j * ln_at xs j) (I := fun i s => s = tm xs i) (e := fun s => some (s + beat * ln_at xs bar)) bar (fun k i s hi hI => ?_) (fun i s hi hI => ?_) (fun k s hI => ?_) bar k 0 0 (by omega) (by omega) rfl hk
 ·have h1 := tm_le h i (by omega)
  have h2 := prod_le (hs.2.2 i (by omega)); show spec_l07Time.l0 (k + 1) xs (bar : Int) beat s (i : Int) = spec_l07Time.l0 k xs (bar : Int) beat (s + bt_at xs i * ln_at xs i) ((i + 1 : Nat) : Int); simp only [spec_l07Time.l0]; rw [if_pos (by omega), if_pos (by omega), if_pos (by omega), rd_bar]; show spec_l07Time.l0 k xs (bar : Int) beat (wrap64 (s + wrap64 (bt_at xs i * ln_at xs i))) (wrap64 ((i : Int) + 1)) = _; rw [w64 (n := bt_at xs i * ln_at xs i) (by omega), w64 (n := s + _) (by omega), w64 (by omega)]
  rfl
 ·show s + bt_at xs i * ln_at xs i = tm xs (i + 1)
  rw [tm_succ, hI]
 ·have h1 := tm_le h bar (by omega)
  show spec_l07Time.l0 (k + 1) xs (bar : Int) beat s (bar : Int) = some (s + beat * ln_at xs bar); simp only [spec_l07Time.l0]; rw [if_neg (by omega), if_pos (by omega), if_pos (by omega), rd_bar]; show some (wrap64 (s + wrap64 (beat * ln_at xs bar))) = _; rw [w64 (n := beat * ln_at xs bar) (by omega), w64 (by omega)]
theorem impl_time {xs : List S104} (h : isScore xs = true) (bar : Nat) (beat : Int) (hb : bar < xs.length ∨ (bar = xs.length ∧ beat = 0)) (h0 : 0 ≤ beat ∧ beat ≤ 16) (k : Nat) (hk : bar < k) : impl_beatTime.f k xs (bar : Int) beat = some (tm xs bar + beat * ln_at xs bar) := by
 have hs := isScore_true h
 have hlen : (xs.take bar).length = bar := by rw [List.length_take]; omega
 unfold impl_beatTime.f
 rw [if_pos (by omega), if_pos (by omega), Int.toNat_natCast]; simp only [Option.bind_some]; rw [hlen]; refine fold_loop (f := fun k i s => impl_beatTime.l0 k xs (bar : Int) beat s (xs.take bar) (bar : Int) (i : Int)) (step := fun j s => s + bt_at xs j * ln_at xs j) (I := fun i s => s = tm xs i) (e := fun s => some (s + beat * ln_at xs bar)) bar (fun k i s hi hI => ?_) (fun i s hi hI => ?_) (fun k s hI => ?_) bar k 0 0 (by omega) (by omega) rfl hk
 ·have h1 := tm_le h i (by omega)
  have h2 := prod_le (hs.2.2 i (by omega)); show impl_beatTime.l0 (k + 1) xs (bar : Int) beat s (xs.take bar) (bar : Int) (i : Int) = impl_beatTime.l0 k xs (bar : Int) beat (s + bt_at xs i * ln_at xs i) (xs.take bar) (bar : Int) ((i + 1 : Nat) : Int); simp only [impl_beatTime.l0]; rw [if_pos (by omega), if_pos (by omega), if_pos (by rw [hlen]; omega), rd_bar, getD_take _ _ _ _ hi]; show impl_beatTime.l0 k xs (bar : Int) beat (wrap64 (s + wrap64 (bt_at xs i * ln_at xs i))) (xs.take bar) (bar : Int) (wrap64 ((i : Int) + 1)) = _; rw [w64 (n := bt_at xs i * ln_at xs i) (by omega), w64 (n := s + _) (by omega), w64 (by omega)]
  rfl
 ·show s + bt_at xs i * ln_at xs i = tm xs (i + 1)
  rw [tm_succ, hI]
 ·have h1 := tm_le h bar (by omega)
  show impl_beatTime.l0 (k + 1) xs (bar : Int) beat s (xs.take bar) (bar : Int) (bar : Int) = some (s + beat * ln_at xs bar); simp only [impl_beatTime.l0]; rw [if_neg (by omega)]
  by_cases hp : beat > 0
  ·have hlt : bar < xs.length := by omega
   have hl := hs.2.2 bar hlt
   have hb2 : 0 ≤ beat * ln_at xs bar ∧ beat * ln_at xs bar ≤ 80000 := by
    have h1 : 0 * ln_at xs bar ≤ beat * ln_at xs bar := Int.mul_le_mul_of_nonneg_right h0.1 (by omega); have h2 : beat * ln_at xs bar ≤ 16 * ln_at xs bar := Int.mul_le_mul_of_nonneg_right h0.2 (by omega)
    omega
   rw [if_pos hp, if_pos (by omega), if_pos (by omega), rd_bar]; show some (wrap64 (s + wrap64 (beat * ln_at xs bar))) = _; rw [w64 (n := beat * ln_at xs bar) (by omega), w64 (by omega)]
  ·have e : beat = 0 := by omega
   rw [if_neg hp, e, Int.zero_mul, Int.add_zero]
theorem index_eq (a n : Int) : impl_isIndex.f a n = some (inB a 0 (wrap64 (n - 1))) := by
 unfold impl_isIndex.f
 simp only [Wi_eq, Option.bind_some]
def hasBeat (xs : List S104) (bar beat : Int) : Bool := inB bar 0 ((xs.length : Int) - 1) && inB beat 0 (bt_at xs bar.toNat - 1)
theorem hasBeat_true {xs : List S104} {bar beat : Int} (h : hasBeat xs bar beat = true) : ∃ b : Nat, bar = b ∧ b < xs.length ∧ 0 ≤ beat ∧ beat ≤ bt_at xs b - 1 := by
 unfold hasBeat at h
 rw [Bool.and_eq_true, inB_true, inB_true] at h; exact ⟨bar.toNat, by omega, by omega, h.2⟩
theorem spec_has {xs : List S104} (h : isScore xs = true) (bar beat : Int) : spec_l07Has.f xs bar beat = some (hasBeat xs bar beat) := by
 have hs := isScore_true h
 unfold spec_l07Has.f hasBeat
 rw [w64 (n := (xs.length : Int) - 1) (by omega), In_eq]; simp only [Option.bind_some]
 cases g : inB bar 0 ((xs.length : Int) - 1) with
 | false => rfl
 | true =>
  rw [inB_true] at g; obtain ⟨b, rfl⟩ : ∃ n : Nat, bar = n := ⟨bar.toNat, by omega⟩; have hb := hs.2.2 b (by omega); rw [if_pos rfl, if_pos (by omega), if_pos (by omega), rd_bar]; show ((spec_l01In.f beat 0 (wrap64 (bt_at xs b - 1))).bind fun t => some t) = _; rw [w64 (by omega), In_eq]; rfl
theorem impl_has {xs : List S104} (h : isScore xs = true) (bar beat : Int) : impl_isBeat.f xs bar beat = some (hasBeat xs bar beat) := by
 have hs := isScore_true h
 unfold impl_isBeat.f hasBeat
 rw [index_eq, w64 (n := (xs.length : Int) - 1) (by omega)]; simp only [Option.bind_some]
 cases g : inB bar 0 ((xs.length : Int) - 1) with
 | false => rfl
 | true =>
  rw [inB_true] at g; obtain ⟨b, rfl⟩ : ∃ n : Nat, bar = n := ⟨bar.toNat, by omega⟩; have hb := hs.2.2 b (by omega); rw [if_pos rfl, if_pos (by omega), if_pos (by omega), rd_bar]; show ((impl_within.f beat 0 (wrap64 (bt_at xs b - 1))).bind fun t => some t) = _; rw [w64 (by omega), Wi_eq]; rfl
def cu_at (C : List S39) (i : Nat) : S39 := C.getD i z39
theorem rd_cue (C : List S39) (i : Nat) : rd_T39 C (i : Int) = cu_at C i := by unfold rd_T39 cu_at; rw [Int.toNat_natCast]
def arOf (B : List S62) (c : S39) : S62 := ar_at B (find B c.f2).toNat
def ftime (A : List S104) (B : List S62) (c : S39) : Int := tm A c.f0.toNat + c.f1 * ln_at A c.f0.toNat - (arOf B c).f3
theorem areArts_true {xs : List S62} (h : areArts xs = true) : xs.length ≤ 12 ∧ ∀ i, i < xs.length → art (ar_at xs i) = true := by
 unfold areArts at h
 rw [Bool.and_eq_true, allF_true, decide_eq_true_iff] at h; refine ⟨by omega, fun i hi => ?_⟩; have := h.1 i (by omega) (by omega)
 unfold artAt at this
 rw [Bool.and_eq_true] at this; exact this.1
theorem art_true {a : S62} (h : art a = true) : (0 ≤ a.f1 ∧ a.f1 ≤ 3) ∧ (20 ≤ a.f2 ∧ a.f2 ≤ 300) ∧ (0 ≤ a.f3 ∧ a.f3 ≤ 10000) ∧ (0 ≤ a.f4 ∧ a.f4 ≤ a.f3) ∧ (1 ≤ a.f5 ∧ a.f5 ≤ 50) ∧ (0 ≤ a.f6 ∧ a.f6 ≤ 10000) ∧ (1 ≤ a.f7 ∧ a.f7 ≤ 100000) ∧ 0 ≤ a.f8 ∧ a.f8 ≤ 3 := by
 unfold art at h
 simp only [Bool.and_eq_true, inB_true] at h; exact h.2
theorem arOf_ok {B : List S62} (hB : areArts B = true) {c : S39} (hc : 0 ≤ find B c.f2) : art (arOf B c) = true ∧ find B c.f2 < (B.length : Int) := by
 rcases find_range B c.f2 with h | h
 ·omega
 ·exact ⟨(areArts_true hB).2 _ (by omega), h.2⟩
theorem time_range {A : List S104} (hA : isScore A = true) {b : Nat} (hb : b < A.length) {e : Int} (he : 0 ≤ e ∧ e ≤ bt_at A b - 1) : 0 ≤ tm A b + e * ln_at A b ∧ tm A b + e * ln_at A b ≤ 2000000 := by
 have hs := isScore_true hA; have hl := hs.2.2 b hb; have ht := tm_le hA b (by omega); have h1 : 0 ≤ e * ln_at A b := Int.mul_nonneg he.1 (by omega); have h2 : e * ln_at A b ≤ 16 * ln_at A b := Int.mul_le_mul_of_nonneg_right (by omega) (by omega)
 omega
theorem ftime_range {A : List S104} (hA : isScore A = true) {B : List S62} (hB : areArts B = true) {c : S39} (hc : 0 ≤ find B c.f2) (hb : hasBeat A c.f0 c.f1 = true) : -10000 ≤ ftime A B c ∧ ftime A B c ≤ 2000000 := by
 obtain ⟨b, e, h1, h2, h3⟩ := hasBeat_true hb; have ha := art_true (arOf_ok hB hc).1; have := time_range hA h1 ⟨h2, h3⟩
 unfold ftime
 rw [e, Int.toNat_natCast]
 omega
theorem spec_ftime {A : List S104} (hA : isScore A = true) {B : List S62} (hB : areArts B = true) (C : List S39) {c : S39} (hc : 0 ≤ find B c.f2) (hb : hasBeat A c.f0 c.f1 = true) (k : Nat) (hk : 100 ≤ k) : spec_l08Time.f k A B C c.f0 c.f1 c.f2 c.f3 = some (ftime A B c) := by
 obtain ⟨b, e, h1, h2, h3⟩ := hasBeat_true hb; have hs := isScore_true hA; have hl := hs.2.2 b h1; have hf := arOf_ok hB hc; have hr := time_range hA h1 ⟨h2, h3⟩; have ha := art_true hf.1; have hB12 := (areArts_true hB).1
 have ft : ftime A B c = tm A b + c.f1 * ln_at A b - (arOf B c).f3 := by unfold ftime; rw [e, Int.toNat_natCast]
 unfold spec_l08Time.f
 rw [e, spec_time hA b h1 c.f1 (by omega) k (by omega)]; simp only [Option.bind_some]; rw [spec_find B (by omega) c.f2 k (by omega)]; simp only [Option.bind_some]; rw [if_pos hc, if_pos hf.2, ft]
 have er : rd_T62 B (find B c.f2) = arOf B c := by
  have := rd_art B (find B c.f2).toNat; rw [show ((find B c.f2).toNat : Int) = find B c.f2 by omega] at this; exact this
 rw [er, w64 (by omega)]
theorem impl_ftime {A : List S104} (hA : isScore A = true) {B : List S62} (hB : areArts B = true) (C : List S39) (c : S39) (k : Nat) (hk : 100 ≤ k) : impl_firedAt.f k A B C c.f0 c.f1 c.f2 c.f3 = some (if 0 ≤ find B c.f2 ∧ hasBeat A c.f0 c.f1 = true then mx (-1) (ftime A B c) else -1) := by
 have hs := isScore_true hA; have hB12 := (areArts_true hB).1
 unfold impl_firedAt.f
 rw [impl_find B (by omega) c.f2 k (by omega)]; simp only [Option.bind_some]
 by_cases hc : 0 ≤ find B c.f2
 ·rw [if_neg (by omega), impl_has hA]
  simp only [Option.bind_some]
  by_cases hb : hasBeat A c.f0 c.f1 = true
  ·obtain ⟨b, e, h1, h2, h3⟩ := hasBeat_true hb
   have hl := hs.2.2 b h1; have hf := arOf_ok hB hc; have hr := time_range hA h1 ⟨h2, h3⟩; have ha := art_true hf.1
   have ft : ftime A B c = tm A b + c.f1 * ln_at A b - (arOf B c).f3 := by unfold ftime; rw [e, Int.toNat_natCast]
   have er : rd_T62 B (find B c.f2) = arOf B c := by
    have := rd_art B (find B c.f2).toNat; rw [show ((find B c.f2).toNat : Int) = find B c.f2 by omega] at this; exact this
   rw [if_pos hb, if_pos (show 0 ≤ find B c.f2 ∧ hasBeat A c.f0 c.f1 = true from ⟨hc, hb⟩), e, impl_time hA b c.f1 (.inl h1) (by omega) k (by omega)]; simp only [Option.bind_some]; rw [if_pos hc, if_pos hf.2, er, ft, w64 (by omega)]
  ·rw [if_neg hb, if_neg (show ¬ (0 ≤ find B c.f2 ∧ hasBeat A c.f0 c.f1 = true) from fun x => hb x.2)]
 ·rw [if_pos (by omega), if_neg (show ¬ (0 ≤ find B c.f2 ∧ hasBeat A c.f0 c.f1 = true) from fun x => hc x.1)]
def cueOk (A : List S104) (B : List S62) (c : S39) : Bool := hasBeat A c.f0 c.f1 && (decide (0 ≤ find B c.f2) && (inB c.f3 0 11 && decide (0 ≤ ftime A B c)))
def isShow (A : List S104) (B : List S62) (C : List S39) : Bool := isScore A && (areArts B && (decide ((C.length : Int) ≤ 20) && allF (fun i => cueOk A B (cu_at C i)) 0 C.length))
theorem cueOk_true {A : List S104} {B : List S62} {c : S39} (h : cueOk A B c = true) : hasBeat A c.f0 c.f1 = true ∧ 0 ≤ find B c.f2 ∧ (0 ≤ c.f3 ∧ c.f3 ≤ 11) ∧ 0 ≤ ftime A B c := by
 unfold cueOk at h
 simpa only [Bool.and_eq_true, inB_true, decide_eq_true_iff] using h
theorem isShow_true {A : List S104} {B : List S62} {C : List S39} (h : isShow A B C = true) : isScore A = true ∧ areArts B = true ∧ C.length ≤ 20 ∧ ∀ i, i < C.length → cueOk A B (cu_at C i) = true := by
 unfold isShow at h
 rw [Bool.and_eq_true, Bool.and_eq_true, Bool.and_eq_true, allF_true, decide_eq_true_iff] at h; exact ⟨h.1, h.2.1, by omega, fun i hi => h.2.2.2 i (by omega) (by omega)⟩
theorem spec_show (n : Nat) (A : List S104) (B : List S62) (C : List S39) (hA : A.length ≤ 9223372036854775807) (hB : B.length ≤ 9223372036854775807) (hC : C.length ≤ 9223372036854775807) (hS : Small n B) (k : Nat) (hk : A.length + B.length + C.length + n + 200 ≤ k) : spec_IsShow.f k A B C = some (isShow A B C) := by
 obtain ⟨k, rfl⟩ : ∃ m, k = m + 1 := ⟨k - 1, by omega⟩
 unfold spec_IsShow.f isShow
 rw [spec_score A (by omega) (k + 1) (by omega)]; simp only [Option.bind_some]
 cases a : isScore A with
 | false => rfl
 | true =>
  rw [if_pos rfl, spec_arts n B (by omega) hS (k + 1) (by omega)]; simp only [Option.bind_some]
  cases b : areArts B with
  | false => rfl
  | true =>
   rw [if_pos rfl]
   by_cases c : (C.length : Int) > 20
   ·rw [decide_eq_true c, decide_eq_false (by omega)]; rfl
   ·rw [decide_eq_false c, decide_eq_true (by omega)]
    simp only [spec_IsShow.j0, Bool.false_eq_true, if_false, Bool.true_and]; have hB12 := (areArts_true b).1
    have loop : ∀ d k i, C.length - i = d → i ≤ C.length → d + 110 ≤ k → spec_IsShow.l0 k (i : Int) A B C = some (allF (fun i => cueOk A B (cu_at C i)) i d) := by
     intro d
     induction d with
     | zero =>
      intro k i hd hi hk; obtain ⟨k, rfl⟩ : ∃ m, k = m + 1 := ⟨k - 1, by omega⟩; simp only [spec_IsShow.l0]; rw [if_neg (by omega)]
      rfl
     | succ d ih =>
      intro k i hd hi hk; obtain ⟨k, rfl⟩ : ∃ m, k = m + 1 := ⟨k - 1, by omega⟩; have nx := ih k (i + 1) (by omega) (by omega) (by omega); simp only [spec_IsShow.l0]; rw [if_pos (by omega), if_pos (by omega), rd_cue, spec_has a, spec_find B (by omega) _ k (by omega), In_eq, w64 (n := (i : Int) + 1) (by omega)]; simp only [Option.bind_some]
      unfold allF cueOk
      cases hb : hasBeat A (cu_at C i).f0 (cu_at C i).f1 with
      | false => rfl
      | true =>
       rw [if_pos rfl, Bool.true_and]
       by_cases hf : 0 ≤ find B (cu_at C i).f2
       ·rw [if_neg (by omega), decide_eq_true hf, Bool.true_and]
        cases hr : inB (cu_at C i).f3 0 11 with
        | false => rfl
        | true =>
         rw [if_pos rfl, Bool.true_and, spec_ftime a b C hf hb k (by omega)]; simp only [Option.bind_some]
         by_cases ht : ftime A B (cu_at C i) < 0
         ·rw [if_pos ht, decide_eq_false (by omega)]; rfl
         ·rw [if_neg ht, decide_eq_true (by omega), Bool.true_and]
          exact nx
       ·rw [if_pos (by omega), decide_eq_false hf]; rfl
    exact loop C.length k 0 (by omega) (by omega) (by omega)
theorem impl_show (n : Nat) (A : List S104) (B : List S62) (C : List S39) (hA : A.length ≤ 9223372036854775807) (hB : B.length ≤ 9223372036854775807) (hC : C.length ≤ 9223372036854775807) (hS : Small n B) (k : Nat) (hk : A.length + B.length + C.length + n + 200 ≤ k) : impl_IsShow.f k A B C = some (isShow A B C) := by
 obtain ⟨k, rfl⟩ : ∃ m, k = m + 1 := ⟨k - 1, by omega⟩
 unfold impl_IsShow.f isShow
 rw [impl_score A (by omega) (k + 1) (by omega)]; simp only [Option.bind_some]
 cases a : isScore A with
 | false => rfl
 | true =>
  rw [if_pos rfl, impl_arts n B (by omega) hS (k + 1) (by omega)]; simp only [Option.bind_some]
  cases b : areArts B with
  | false => rfl
  | true =>
   rw [if_pos rfl]
   by_cases c : (C.length : Int) > 20
   ·rw [decide_eq_true c, decide_eq_false (by omega)]; rfl
   ·rw [decide_eq_false c, decide_eq_true (by omega)]
    simp only [impl_IsShow.j0, Bool.false_eq_true, if_false, Bool.true_and]; have hB12 := (areArts_true b).1
    have loop : ∀ d k i, C.length - i = d → i ≤ C.length → d + 110 ≤ k → impl_IsShow.l0 k C (C.length : Int) (i : Int) A B C = some (allF (fun i => cueOk A B (cu_at C i)) i d) := by
     intro d
     induction d with
     | zero =>
      intro k i hd hi hk; obtain ⟨k, rfl⟩ : ∃ m, k = m + 1 := ⟨k - 1, by omega⟩; simp only [impl_IsShow.l0]; rw [if_neg (by omega)]
      rfl
     | succ d ih =>
      intro k i hd hi hk; obtain ⟨k, rfl⟩ : ∃ m, k = m + 1 := ⟨k - 1, by omega⟩; have nx := ih k (i + 1) (by omega) (by omega) (by omega); simp only [impl_IsShow.l0]; rw [if_pos (by omega), if_pos (by omega), if_pos (by omega), rd_cue, Wi_eq, impl_ftime a b C _ k (by omega), w64 (n := (i : Int) + 1) (by omega)]; simp only [Option.bind_some]
      unfold allF cueOk
      cases hr : inB (cu_at C i).f3 0 11 with
      | false =>
       rw [if_neg (by decide)]
       simp
      | true =>
       rw [if_pos rfl]
       cases hb : hasBeat A (cu_at C i).f0 (cu_at C i).f1 with
       | false =>
        rw [if_neg (show ¬ (0 ≤ find B (cu_at C i).f2 ∧ false = true) from fun x => absurd x.2 (by decide)), if_pos (by omega)]; rfl
       | true =>
        by_cases hf : 0 ≤ find B (cu_at C i).f2
        ·rw [if_pos (show 0 ≤ find B (cu_at C i).f2 ∧ true = true from ⟨hf, rfl⟩), decide_eq_true hf]
         by_cases ht : ftime A B (cu_at C i) < 0
         ·rw [if_pos (by unfold mx; split <;> omega), decide_eq_false (by omega)]; rfl
         ·rw [if_neg (by unfold mx; split <;> omega), decide_eq_true (by omega)]
          exact nx
        ·rw [if_neg (show ¬ (0 ≤ find B (cu_at C i).f2 ∧ true = true) from fun x => hf x.1), if_pos (by omega), decide_eq_false hf]; rfl
    exact loop C.length k 0 (by omega) (by omega) (by omega)
def fts (A : List S104) (B : List S62) (C : List S39) : List Int := C.map (ftime A B)
theorem fts_len (A : List S104) (B : List S62) (C : List S39) : (fts A B C).length = C.length := by unfold fts; rw [List.length_map]
theorem cu_get {C : List S39} {i : Nat} (hi : i < C.length) : cu_at C i = C[i] := by
 unfold cu_at
 rw [List.getD_eq_getElem?_getD, List.getElem?_eq_getElem hi]; rfl
theorem rd_fts (A : List S104) (B : List S62) {C : List S39} {i : Nat} (hi : i < C.length) : rd (fts A B C) (i : Int) = ftime A B (cu_at C i) := by
 unfold rd fts
 rw [Int.toNat_natCast, List.getD_eq_getElem?_getD, List.getElem?_map, List.getElem?_eq_getElem hi, cu_get hi]; rfl
theorem times_go {A : List S104} {B : List S62} {C : List S39} (h : isShow A B C = true) : ∀ d k i, C.length - i = d → i ≤ C.length → d + 110 ≤ k → spec_l08Times.l0 k ((C.take i).map (ftime A B)) (i : Int) A B C = some (fts A B C) ∧ impl_fireTimes.l0 k ((C.take i).map (ftime A B)) C (C.length : Int) (i : Int) A B C = some (fts A B C) := by
 obtain ⟨hA, hB, hC, hc⟩ := isShow_true h; intro d
 induction d with
 | zero =>
  intro k i hd hi hk; obtain ⟨k, rfl⟩ : ∃ m, k = m + 1 := ⟨k - 1, by omega⟩; simp only [spec_l08Times.l0, impl_fireTimes.l0]; rw [if_neg (by omega), if_neg (by omega), List.take_of_length_le (by omega)]; exact ⟨rfl, rfl⟩
 | succ d ih =>
  intro k i hd hi hk; obtain ⟨k, rfl⟩ : ∃ m, k = m + 1 := ⟨k - 1, by omega⟩; obtain ⟨a, b⟩ := ih k (i + 1) (by omega) (by omega) (by omega); obtain ⟨h1, h2, h3, h4⟩ := cueOk_true (hc i (by omega)); rw [List.take_succ_eq_append_getElem (show i < C.length by omega), List.map_append, ← cu_get (show i < C.length by omega)] at a b
  have hl : ((C.take i).map (ftime A B)).length < 17592186044416 := by rw [List.length_map, List.length_take]; omega
  have e : mx (-1) (ftime A B (cu_at C i)) = ftime A B (cu_at C i) := by unfold mx; rw [if_pos (by omega)]
  have g1 : (i : Int) < (C.length : Int) := by omega
  have g2 : 0 ≤ (i : Int) := by omega
  simp only [spec_l08Times.l0, impl_fireTimes.l0, if_pos g1, if_pos g2, rd_cue, spec_ftime hA hB C h2 h1 k (by omega), impl_ftime hA hB C (cu_at C i) k (by omega), Option.bind_some, if_pos hl]; rw [if_pos (show 0 ≤ find B (cu_at C i).f2 ∧ hasBeat A (cu_at C i).f0 (cu_at C i).f1 = true from ⟨h2, h1⟩), e, w64 (n := (i : Int) + 1) (by omega)]; exact ⟨a, b⟩
theorem times_ok {A : List S104} {B : List S62} {C : List S39} (h : isShow A B C = true) (k : Nat) (hk : 200 ≤ k) : spec_l08Times.f k A B C = some (fts A B C) ∧ impl_fireTimes.f k A B C = some (fts A B C) := by
 have hC := (isShow_true h).2.2.1; exact times_go h C.length k 0 (by omega) (by omega) (by omega)
theorem fts_range {A : List S104} {B : List S62} {C : List S39} (h : isShow A B C = true) {i : Nat} (hi : i < C.length) : 0 ≤ rd (fts A B C) (i : Int) ∧ rd (fts A B C) (i : Int) ≤ 2000000 := by
 obtain ⟨hA, hB, hC, hc⟩ := isShow_true h; obtain ⟨h1, h2, h3, h4⟩ := cueOk_true (hc i hi); rw [rd_fts A B hi]; have := ftime_range hA hB h2 h1
 omega
def Frame (n0 : Nat) (A : List S104) (B : List S62) (C : List S39) : Prop := A.length ≤ 9223372036854775807 ∧ B.length ≤ 9223372036854775807 ∧ C.length ≤ 9223372036854775807 ∧ Small n0 B
theorem ss_ok {n0 : Nat} {A : List S104} {B : List S62} {C : List S39} (h : Frame n0 A B C) (k : Nat) (hk : 36893488147419103428 ≤ k) : spec_IsShow.f k A B C = some (isShow A B C) := spec_show n0 A B C h.1 h.2.1 h.2.2.1 h.2.2.2 k (by have := h.1; have := h.2.1; have := h.2.2.1; have := h.2.2.2.1; omega)
theorem si_ok {n0 : Nat} {A : List S104} {B : List S62} {C : List S39} (h : Frame n0 A B C) (k : Nat) (hk : 36893488147419103428 ≤ k) : impl_IsShow.f k A B C = some (isShow A B C) := impl_show n0 A B C h.1 h.2.1 h.2.2.1 h.2.2.2 k (by have := h.1; have := h.2.1; have := h.2.2.1; have := h.2.2.2.1; omega)
end Go.Proofs.Ythhijbdekboahaa.F
namespace Go.Proofs.Ythhijbdekboahaa.F
open Go.RowKit Go.Proofs.YthhijbdekboahaaW.PrintWords Go.Proofs.YthhijbdekboahaaW.PrintLast Go.Proofs.YthhijbdekboahaaW.PrintMore
attribute [local go_sem] max2_int min2_int max_two min_two max_three min_three max_four min_four
set_option linter.unusedVariables false
set_option linter.unusedSimpArgs false
def impl_copyShow.f (l0_0 : List (S104)) (l0_1 : List (S62)) (l0_2 : List (S39)) : Option ((List (S104)) × (List (S62)) × (List (S39))) := (some (([] : List (S104)) : List (S104))).bind fun y728 => (if y728.length + l0_0.length < 8796093022208 then ((some (([] : List (S62)) : List (S62))).bind fun y734 => (if y734.length + l0_1.length < 1759218604441 then ((some (([] : List (S39)) : List (S39))).bind fun y740 => (if y740.length + l0_2.length < 3518437208883 then (some ((y728 ++ l0_0), (y734 ++ l0_1), (y740 ++ l0_2))) else (none))) else (none))) else (none))
def impl_AddCue.f (k : Nat) (l0_0 : List (S104)) (l0_1 : List (S62)) (l0_2 : List (S39)) (a1_0 : Int) (a1_1 : Int) (a1_2 : ByteArray) (a1_3 : Int) : Option ((List (S104)) × (List (S62)) × (List (S39)) × Int) := (impl_IsShow.f k l0_0 l0_1 l0_2).bind fun t749 => (if t749 = true then (if (l0_2.length : Int) = 20 then (some (([] : List (S104)), ([] : List (S62)), ([] : List (S39)), 3)) else ((impl_copyShow.f l0_0 l0_1 l0_2).bind fun bt750 => (if bt750.2.2.length < 3518437208883 then ((some (bt750.2.2 ++ [(⟨a1_0, a1_1, a1_2, a1_3⟩ : S39)] : List (S39))).bind fun y760 => ((impl_IsShow.f k bt750.1 bt750.2.1 y760).bind fun t763 => (if t763 = true then (some (bt750.1, bt750.2.1, y760, 0)) else (some (([] : List (S104)), ([] : List (S62)), ([] : List (S39)), 5))))) else (none)))) else (some (([] : List (S104)), ([] : List (S62)), ([] : List (S39)), 1)))
end Go.Proofs.Ythhijbdekboahaa.F
namespace Go.Proofs.Ythhijbdekboahaa.F
open Go.RowKit Go.Proofs.YthhijbdekboahaaW.PrintWords Go.Proofs.YthhijbdekboahaaW.PrintLast Go.Proofs.YthhijbdekboahaaW.PrintMore
set_option linter.unusedVariables false
set_option linter.unusedSimpArgs false
theorem with_ok (A : List S104) (B : List S62) (C D : List S39) (hA : A.length ≤ 1000000) (hB : B.length ≤ 1000000) (hD : D.length ≤ 1000010) : spec_l08With.f A B C D = some (A, B, D) := by
 unfold spec_l08With.f
 simp only [Option.bind_some, List.nil_append, List.length_nil]; rw [if_pos (by omega), if_pos (by omega), if_pos (by omega)]
theorem copy_ok (A : List S104) (B : List S62) (C : List S39) (hA : A.length ≤ 1000000) (hB : B.length ≤ 1000000) (hC : C.length ≤ 1000000) : impl_copyShow.f A B C = some (A, B, C) := by
 unfold impl_copyShow.f
 simp only [Option.bind_some, List.nil_append, List.length_nil]; rw [if_pos (by omega), if_pos (by omega), if_pos (by omega)]
def addR (A : List S104) (B : List S62) (C : List S39) (c : S39) : List S104 × List S62 × List S39 × Int := if isShow A B C = true then (if (C.length : Int) = 20 then ([], [], [], 3) else (if isShow A B (C ++ [c]) = true then (A, B, C ++ [c], 0) else ([], [], [], 5))) else ([], [], [], 1)
theorem add_ok (n0 : Nat) {A : List S104} {B : List S62} {C : List S39} (hF : Frame n0 A B C) (hL : A.length ≤ 1000000 ∧ B.length ≤ 1000000 ∧ C.length ≤ 1000000) (x0 x1 : Int) (x2 : ByteArray) (x3 : Int) (k : Nat) (hk : 36893488147419103528 ≤ k) : spec_AddCue.f k A B C x0 x1 x2 x3 = some (addR A B C ⟨x0, x1, x2, x3⟩) ∧ impl_AddCue.f k A B C x0 x1 x2 x3 = some (addR A B C ⟨x0, x1, x2, x3⟩) := by
 unfold spec_AddCue.f impl_AddCue.f addR
 rw [ss_ok hF k (by omega), si_ok hF k (by omega)]; simp only [Option.bind_some]
 cases h : isShow A B C with
 | false => exact ⟨rfl, rfl⟩
 | true =>
  simp only [if_true]; have hC := (isShow_true h).2.2.1
  by_cases c : (C.length : Int) = 20
  ·rw [if_pos c, if_pos c, if_pos c]; exact ⟨rfl, rfl⟩
  ·have hl : (C ++ [(⟨x0, x1, x2, x3⟩ : S39)]).length = C.length + 1 := by rw [List.length_append, List.length_singleton]
   have hF2 : Frame n0 A B (C ++ [(⟨x0, x1, x2, x3⟩ : S39)]) := ⟨hF.1, hF.2.1, by omega, hF.2.2.2⟩; rw [if_neg c, if_neg c, if_neg c, copy_ok A B C hL.1 hL.2.1 hL.2.2]; simp only [Option.bind_some, List.nil_append, List.length_nil, List.length_singleton]; constructor
   ·rw [if_pos (show 0 + C.length < 3518437208883 by omega), if_pos (show C.length + 1 < 3518437208883 by omega), with_ok A B C _ hL.1 hL.2.1 (by rw [hl]; omega)]
    simp only [Option.bind_some]; rw [ss_ok hF2 k (by omega)]; simp only [Option.bind_some]
    cases isShow A B (C ++ [(⟨x0, x1, x2, x3⟩ : S39)]) <;> rfl
   ·rw [if_pos (show C.length < 3518437208883 by omega), si_ok hF2 k (by omega)]
    simp only [Option.bind_some]
    cases isShow A B (C ++ [(⟨x0, x1, x2, x3⟩ : S39)]) <;> rfl
theorem mem_rd {α : Type} {xs : List α} {z : α} {i : Int} (h0 : 0 ≤ i) (h1 : i < (xs.length : Int)) : xs.getD i.toNat z ∈ xs := by
 rw [List.getD_eq_getElem?_getD, List.getElem?_eq_getElem (show i.toNat < xs.length by omega)]; exact List.getElem_mem _
def SmallArts (B : List S62) : Prop := ∀ x ∈ B, x.f0.size ≤ 100
theorem good_l1 {c : List Int} (hc : Code c) {A : List S104} (hA : GoodBars A) (hA1 : 1 ≤ A.length) (hA6 : A.length ≤ 6) {B : List S62} (hB : B.length ≤ 20) (hS : SmallArts B) :
  ∀ m (C : List S39), C.length + m ≤ 20 → ∀ {a s : Int}, St c a s → ∃ C' a' s', (∀ k, 36893488147419103600 + 2 * m ≤ k → spec_l08Good.l1 k (m : Int) c a s A B C = some (A, B, C', a', s')) ∧ St c a' s' ∧ C'.length ≤ 20 := by
 intro m
 induction m with
 | zero =>
  intro C hC a s h; refine ⟨C, a, s, fun k hk => ?_, h, by omega⟩; obtain ⟨k, rfl⟩ : ∃ m, k = m + 2 := ⟨k - 2, by omega⟩; simp only [spec_l08Good.l1]; rw [if_neg (by omega)]; simp only [spec_l08Good.j2]; rw [if_neg (by decide)]
 | succ m ih =>
  intro C hC a s h
  by_cases hb : (B.length : Int) > 0
  ·obtain ⟨r1, a1, s1, e1, h1, p1, q1⟩ := next_ok hc h (A.length : Int) (by omega)
   have hm := hA _ (mem_rd (z := z104) p1 (show r1 < (A.length : Int) by omega)); obtain ⟨r2, a2, s2, e2, h2, _⟩ := next_ok hc h1 (rd_T104 A r1).f0 (by unfold rd_T104; omega); obtain ⟨r3, a3, s3, e3, h3, p3, q3⟩ := next_ok hc h2 (B.length : Int) (by omega); obtain ⟨r4, a4, s4, e4, h4, _⟩ := next_ok hc h3 12 (by decide); have ha := fun k hk => (add_ok 100 (A := A) (B := B) (C := C) ⟨by omega, by omega, by omega, by decide, hS⟩ ⟨by omega, by omega, by omega⟩ r1 r2 (rd_T62 B r3).f0 r4 k hk).1
   have hw : wrap64 (((m + 1 : Nat) : Int) - 1) = (m : Int) := by rw [w64 (by omega)]; omega
   have run : ∀ k, 36893488147419103600 + 2 * (m + 1) ≤ k + 2 → spec_l08Good.l1 (k + 2) ((m + 1 : Nat) : Int) c a s A B C = if (addR A B C ⟨r1, r2, (rd_T62 B r3).f0, r4⟩).2.2.2 = 0 then spec_l08Good.l1 k (m : Int) c a4 s4 (addR A B C ⟨r1, r2, (rd_T62 B r3).f0, r4⟩).1 (addR A B C ⟨r1, r2, (rd_T62 B r3).f0, r4⟩).2.1 (addR A B C ⟨r1, r2, (rd_T62 B r3).f0, r4⟩).2.2.1 else spec_l08Good.l1 k (m : Int) c a4 s4 A B C := by
    intro k hk; simp only [spec_l08Good.l1]; rw [if_pos (by omega)]; simp only [spec_l08Good.j2]; rw [if_pos (by rw [decide_eq_true_iff]; exact hb), e1, Option.bind_some]; dsimp only; rw [if_pos p1, if_pos (by omega), e2, Option.bind_some]; dsimp only; rw [e3, Option.bind_some]; dsimp only; rw [if_pos p3, if_pos (by omega), e4, Option.bind_some]; dsimp only; rw [ha k (by omega), Option.bind_some, hw]
   by_cases g : isShow A B C = true ∧ ¬ (C.length : Int) = 20 ∧ isShow A B (C ++ [⟨r1, r2, (rd_T62 B r3).f0, r4⟩]) = true
   ·have hR : addR A B C ⟨r1, r2, (rd_T62 B r3).f0, r4⟩ = (A, B, C ++ [⟨r1, r2, (rd_T62 B r3).f0, r4⟩], 0) := by
     unfold addR; rw [if_pos g.1, if_neg g.2.1, if_pos g.2.2]
    obtain ⟨C', a', s', e, hs, hl⟩ := ih (C ++ [⟨r1, r2, (rd_T62 B r3).f0, r4⟩]) Zcr h4; refine ⟨C', a', s', fun k hk => ?_, hs, hl⟩; obtain ⟨k, rfl⟩ : ∃ m, k = m + 2 := ⟨k - 2, by omega⟩; rw [run k hk, hR, if_pos rfl]; exact e k (by omega)
   ·have hR : (addR A B C ⟨r1, r2, (rd_T62 B r3).f0, r4⟩).2.2.2 ≠ 0 := by
     unfold addR
     by_cases g1 : isShow A B C = true
     ·rw [if_pos g1]
      by_cases g2 : (C.length : Int) = 20
      ·rw [if_pos g2]; decide
      ·rw [if_neg g2, if_neg (fun g3 => g ⟨g1, g2, g3⟩)]; decide
     ·rw [if_neg g1]; decide
    obtain ⟨C', a', s', e, hs, hl⟩ := ih C (by omega) h4; refine ⟨C', a', s', fun k hk => ?_, hs, hl⟩; obtain ⟨k, rfl⟩ : ∃ m, k = m + 2 := ⟨k - 2, by omega⟩; rw [run k hk, if_neg hR]; exact e k (by omega)
  ·refine ⟨C, a, s, fun k hk => ?_, h, by omega⟩
   obtain ⟨k, rfl⟩ : ∃ m, k = m + 2 := ⟨k - 2, by omega⟩; simp only [spec_l08Good.l1]; rw [if_pos (by omega)]; simp only [spec_l08Good.j2]; rw [if_neg (by rw [decide_eq_true_iff]; exact hb)]
theorem good_l0 {c : List Int} (hc : Code c) {A : List S104} (hA : GoodBars A) (hA1 : 1 ≤ A.length) (hA6 : A.length ≤ 6) {nm : List ByteArray} (hn : ∀ x ∈ nm, x.size ≤ 100) (hn6 : nm.length ≤ 6) :
  ∀ d i (B : List S62), nm.length - i = d → i ≤ nm.length → B.length + d ≤ 20 → SmallArts B → ∀ {a s : Int}, St c a s → ∃ B' C' a' s', (∀ k, 36893488147419104000 + d ≤ k → spec_l08Good.l0 k nm (i : Int) c a s A B [] = some (A, B', C', a', s')) ∧ St c a' s' ∧ B'.length ≤ 20 ∧ SmallArts B' ∧ C'.length ≤ 20 := by
 intro d
 induction d with
 | zero =>
  intro i B hd hi hB hS a s h; obtain ⟨r, a1, s1, e1, h1, p1, q1⟩ := next_ok hc h 9 (by decide); obtain ⟨C', a', s', e, hs, hl⟩ := good_l1 hc hA hA1 hA6 (B := B) (by omega) hS r.toNat [] (by simp only [List.length_nil]; omega) h1; refine ⟨B, C', a', s', fun k hk => ?_, hs, by omega, hS, hl⟩; obtain ⟨k, rfl⟩ : ∃ m, k = m + 1 := ⟨k - 1, by omega⟩; simp only [spec_l08Good.l0]; rw [if_neg (by omega), e1, Option.bind_some]; dsimp only; have := e k (by omega); rw [show ((r.toNat : Nat) : Int) = r by omega] at this; exact this
 | succ d ih =>
  intro i B hd hi hB hS a s h; obtain ⟨r, a1, s1, e1, h1, p1, q1⟩ := next_ok hc h 3 (by decide)
  have hw : wrap64 ((i : Int) + 1) = ((i + 1 : Nat) : Int) := by rw [w64 (by omega)]; omega
  by_cases g : r > 0
  ·obtain ⟨q2, q3, q4, q5, q6, q7, q8, q9, a2, s2, e2, h2⟩ := good_art hc h1 (rdOf ByteArray.empty nm (i : Int))
   have hz : (rdOf ByteArray.empty nm (i : Int)).size ≤ 100 := hn _ (by unfold rdOf; exact mem_rd (by omega) (by omega))
   obtain ⟨B', C', a', s', e, hs, hb, hS', hl⟩ := ih (i + 1) (B ++ [⟨rdOf ByteArray.empty nm (i : Int), q2, q3, Int.tmod q4 3000, mn q5 (Int.tmod q4 3000), q6, q7, q8, q9⟩]) (by omega) (by omega) Zcr (fun x hx => by
    rcases List.mem_append.mp hx with y | y
    ·exact hS x y
    ·rw [List.mem_singleton] at y; subst y; exact hz) h2
   refine ⟨B', C', a', s', fun k hk => ?_, hs, hb, hS', hl⟩; obtain ⟨k, rfl⟩ : ∃ m, k = m + 1 := ⟨k - 1, by omega⟩; simp only [spec_l08Good.l0]; rw [if_pos (by omega), e1, Option.bind_some]; dsimp only; rw [if_pos g, if_pos (by omega), e2, Option.bind_some]; dsimp only; rw [if_pos (by omega), hw]; exact e k (by omega)
  ·obtain ⟨B', C', a', s', e, hs, hb, hS', hl⟩ := ih (i + 1) B (by omega) (by omega) (by omega) hS h1
   refine ⟨B', C', a', s', fun k hk => ?_, hs, hb, hS', hl⟩; obtain ⟨k, rfl⟩ : ∃ m, k = m + 1 := ⟨k - 1, by omega⟩; simp only [spec_l08Good.l0]; rw [if_pos (by omega), e1, Option.bind_some]; dsimp only; rw [if_neg g, hw]; exact e k (by omega)
theorem good_show {c : List Int} (hc : Code c) {a s : Int} (h : St c a s) : ∃ A B C a' s', (∀ k, 36893488147419104010 ≤ k → spec_l08Good.f k c a s = some (A, B, C, a', s')) ∧ St c a' s' ∧ 1 ≤ A.length ∧ A.length ≤ 6 ∧ B.length ≤ 20 ∧ SmallArts B ∧ C.length ≤ 20 := by
 obtain ⟨A, a1, s1, e1, h1, hA1, hA6, hA⟩ := score_good hc h; obtain ⟨nm, en, hn, hn6⟩ : ∃ nm, spec_l03Names.f = some nm ∧ (∀ x ∈ nm, x.size ≤ 100) ∧ nm.length ≤ 6 := ⟨_, rfl, by decide, by decide⟩; obtain ⟨B, C, a', s', e, hs, hb, hS, hl⟩ := good_l0 hc hA hA1 hA6 hn hn6 nm.length 0 [] (by omega) (by omega) (by simp only [List.length_nil]; omega) (fun x hx => by simp at hx) h1; refine ⟨A, B, C, a', s', fun k hk => ?_, hs, hA1, hA6, hb, hS, hl⟩
 unfold spec_l08Good.f
 rw [e1 k (by omega), Option.bind_some]; dsimp only; rw [en, Option.bind_some]; exact e k (by omega)
theorem draw_art {c : List Int} (hc : Code c) {a s : Int} (h : St c a s) (nm : ByteArray) (hn : nm.size ≤ 100) (hW : ∀ {a s : Int}, St c a s → ∃ w a' s', spec_l01DrawWord.f c a s = some (w, a', s') ∧ St c a' s' ∧ w.size ≤ 100) : ∃ q1 q2 q3 q4 q5 q6 q7 q8 q9 a' s', spec_l03Draw.f c a s nm = some (q1, q2, q3, q4, q5, q6, q7, q8, q9, a', s') ∧ St c a' s' ∧ q1.size ≤ 100 := by
 obtain ⟨q2, q3, q4, q5, q6, q7, q8, q9, a1, s1, e1, h1⟩ := good_art hc h nm; obtain ⟨r, a2, s2, e2, h2, _⟩ := next_ok hc h1 60 (by decide)
 unfold spec_l03Draw.f
 rw [e1, Option.bind_some]; dsimp only; rw [e2, Option.bind_some]; dsimp only
 by_cases g0 : r = 0
 ·obtain ⟨p, a3, s3, e3, h3, _⟩ := pick_ok hc h2 [19, 20, 300, 301] (by simp) (by simp)
  rw [if_pos g0, e3, Option.bind_some]; exact ⟨_, _, _, _, _, _, _, _, _, _, _, rfl, h3, hn⟩
 rw [if_neg g0]
 by_cases g1 : r = 1
 ·obtain ⟨p, a3, s3, e3, h3, _⟩ := pick_ok hc h2 [q4, wrap64 (q4 + 1), (-1)] (by simp) (by simp)
  rw [if_pos g1, e3, Option.bind_some]; exact ⟨_, _, _, _, _, _, _, _, _, _, _, rfl, h3, hn⟩
 rw [if_neg g1]
 by_cases g2 : r = 2
 ·obtain ⟨p, a3, s3, e3, h3, _⟩ := pick_ok hc h2 [0, 50, 51] (by simp) (by simp)
  rw [if_pos g2, e3, Option.bind_some]; exact ⟨_, _, _, _, _, _, _, _, _, _, _, rfl, h3, hn⟩
 rw [if_neg g2]
 by_cases g3 : r = 3
 ·obtain ⟨w, a3, s3, e3, h3, hw⟩ := hW h2
  rw [if_pos g3, e3, Option.bind_some]; exact ⟨_, _, _, _, _, _, _, _, _, _, _, rfl, h3, hw⟩
 rw [if_neg g3]
 by_cases g4 : r = 4
 ·obtain ⟨p, a3, s3, e3, h3, _⟩ := pick_ok hc h2 [0, 100000, 100001] (by simp) (by simp)
  rw [if_pos g4, e3, Option.bind_some]; exact ⟨_, _, _, _, _, _, _, _, _, _, _, rfl, h3, hn⟩
 rw [if_neg g4]; exact ⟨_, _, _, _, _, _, _, _, _, _, _, rfl, h2, hn⟩
theorem word_key {c : List Int} (hc : Code c) {a s : Int} (h : St c a s) (n : Int) (hn : n ≤ 100) (L : List ByteArray) (hL : ∀ x ∈ L, x.size ≤ 100) (hl : (L.length : Int) = n) (h1 : 1 ≤ n) :
  ∃ w a' s', ((some L).bind fun y => (spec_l01Next.f c a s n).bind fun bt => (if 0 ≤ bt.1 then (if bt.1 < (y.length : Int) then (some (rdOf ByteArray.empty y bt.1, bt.2.1, bt.2.2)) else (none)) else (none))) = some (w, a', s') ∧ St c a' s' ∧ w.size ≤ 100 := by
 obtain ⟨r, a1, s1, e1, h2, p1, q1⟩ := next_ok hc h n (by omega); rw [Option.bind_some, e1, Option.bind_some]; dsimp only; rw [if_pos p1, if_pos (by omega)]; exact ⟨_, _, _, rfl, h2, hL _ (by unfold rdOf; exact mem_rd p1 (by omega))⟩
theorem word_draw {c : List Int} (hc : Code c) {a s : Int} (h : St c a s) : ∃ w a' s', spec_l01DrawWord.f c a s = some (w, a', s') ∧ St c a' s' ∧ w.size ≤ 100 := by
 obtain ⟨r, a1, s1, e1, h1, _⟩ := next_ok hc h 24 (by decide)
 unfold spec_l01DrawWord.f
 rw [e1, Option.bind_some]; dsimp only
 by_cases g : r = 0
 ·rw [if_pos g]
  exact word_key hc h1 6 (by decide) _ (by decide) rfl (by decide)
 ·rw [if_neg g]
  obtain ⟨w, a2, s2, e2, h2, hw⟩ : ∃ w a' s', spec_l01Good.f c a1 s1 = some (w, a', s') ∧ St c a' s' ∧ w.size ≤ 100 := by
   unfold spec_l01Good.f
   exact word_key hc h1 12 (by decide) _ (by decide) rfl (by decide)
  rw [e2, Option.bind_some]; exact ⟨w, a2, s2, rfl, h2, hw⟩
theorem draw_loop {c : List Int} (hc : Code c) (A : List S104) (B : List S62) (q : S39) : ∀ d (C : List S39), 30 - C.length = d → C.length ≤ 30 → ∀ {a s : Int}, St c a s → ∃ C' a' s', (∀ k, d + 2 ≤ k → spec_l08Draw.l0 k c a s A B C q.f0 q.f1 q.f2 q.f3 = some (A, B, C', a', s')) ∧ St c a' s' ∧ C'.length ≤ 30 := by
 intro d
 induction d with
 | zero =>
  intro C hd hC a s h; obtain ⟨r, a1, s1, e1, h1, p1, q1⟩ := next_ok hc h 2 (by decide); refine ⟨C, a1, s1, fun k hk => ?_, h1, hC⟩; obtain ⟨k, rfl⟩ : ∃ m, k = m + 1 := ⟨k - 1, by omega⟩; simp only [spec_l08Draw.l0]; rw [e1, Option.bind_some]; dsimp only; rw [w64 (by omega), if_neg (by omega)]
 | succ d ih =>
  intro C hd hC a s h; obtain ⟨r, a1, s1, e1, h1, p1, q1⟩ := next_ok hc h 2 (by decide)
  by_cases g : (C.length : Int) < 20 + r
  ·obtain ⟨C', a', s', e, hs, hl⟩ := ih (C ++ [⟨q.f0, q.f1, q.f2, q.f3⟩]) Zcr Zcr h1
   refine ⟨C', a', s', fun k hk => ?_, hs, hl⟩; obtain ⟨k, rfl⟩ : ∃ m, k = m + 1 := ⟨k - 1, by omega⟩; simp only [spec_l08Draw.l0]; rw [e1, Option.bind_some]; dsimp only; rw [w64 (by omega), if_pos g, if_pos (by omega)]; exact e k (by omega)
  ·refine ⟨C, a1, s1, fun k hk => ?_, h1, hC⟩
   obtain ⟨k, rfl⟩ : ∃ m, k = m + 1 := ⟨k - 1, by omega⟩; simp only [spec_l08Draw.l0]; rw [e1, Option.bind_some]; dsimp only; rw [w64 (by omega), if_neg g]
theorem small_snoc {B : List S62} (hB : SmallArts B) {x : S62} (hx : x.f0.size ≤ 100) : SmallArts (B ++ [x]) := fun y hy => by
 rcases List.mem_append.mp hy with z | z
 ·exact hB y z
 ·rw [List.mem_singleton] at z; subst z; exact hx
theorem list_l1 {c : List Int} (hc : Code c) : ∀ d (i : Nat) (B : List S62), 14 - i = d → i ≤ 14 → B.length + d ≤ 60 → SmallArts B → ∀ {a s : Int}, St c a s → ∃ B' a' s', (∀ k, d + 2 ≤ k → spec_l03List.l1 k B (i : Int) c a s = some (B', a', s')) ∧ St c a' s' ∧ B'.length ≤ 60 ∧ SmallArts B' := by
 intro d
 induction d with
 | zero =>
  intro i B hd hi hB hS a s h; obtain ⟨r, a1, s1, e1, h1, p1, q1⟩ := next_ok hc h 2 (by decide); refine ⟨B, a1, s1, fun k hk => ?_, h1, by omega, hS⟩; obtain ⟨k, rfl⟩ : ∃ m, k = m + 1 := ⟨k - 1, by omega⟩; simp only [spec_l03List.l1]; rw [e1, Option.bind_some]; dsimp only
  by_cases g : (B.length : Int) < wrap64 (12 + r)
  ·rw [if_pos g, if_neg (by omega)]
  ·rw [if_neg g]
 | succ d ih =>
  intro i B hd hi hB hS a s h; obtain ⟨r, a1, s1, e1, h1, p1, q1⟩ := next_ok hc h 2 (by decide)
  by_cases g : (B.length : Int) < wrap64 (12 + r)
  ·have hw : wrap64 ((i : Int) + 1) = ((i + 1 : Nat) : Int) := by rw [w64 (by omega)]; omega
   have hz : ((⟨#[97, 98, 99, 100, 101, 102, 103, 104, 105, 106, 107, 108, 109, 110]⟩ : ByteArray).extract (i : Int).toNat ((i + 1 : Nat) : Int).toNat).size ≤ 14 := by
    rw [ByteArray.size_extract]; have : (⟨#[97, 98, 99, 100, 101, 102, 103, 104, 105, 106, 107, 108, 109, 110]⟩ : ByteArray).size = 14 := rfl
    omega
   obtain ⟨q2, q3, q4, q5, q6, q7, q8, q9, a2, s2, e2, h2⟩ := good_art hc h1 ((⟨#[120]⟩ : ByteArray) ++ ((⟨#[97, 98, 99, 100, 101, 102, 103, 104, 105, 106, 107, 108, 109, 110]⟩ : ByteArray).extract (i : Int).toNat ((i + 1 : Nat) : Int).toNat))
   have hx : ((⟨#[120]⟩ : ByteArray) ++ ((⟨#[97, 98, 99, 100, 101, 102, 103, 104, 105, 106, 107, 108, 109, 110]⟩ : ByteArray).extract (i : Int).toNat ((i + 1 : Nat) : Int).toNat)).size ≤ 100 := by
    rw [ByteArray.size_append]; have : (⟨#[120]⟩ : ByteArray).size = 1 := rfl
    omega
   obtain ⟨B', a', s', e, hs, hl, hS'⟩ := ih (i + 1) (B ++ [⟨_, q2, q3, q4, q5, q6, q7, q8, q9⟩]) (by omega) (by omega) Zcr (small_snoc hS hx) h2; refine ⟨B', a', s', fun k hk => ?_, hs, hl, hS'⟩; obtain ⟨k, rfl⟩ : ∃ m, k = m + 1 := ⟨k - 1, by omega⟩; simp only [spec_l03List.l1]; rw [e1, Option.bind_some]; dsimp only; rw [if_pos g, hw, if_pos (by omega), if_pos (by omega), if_pos (by omega), if_pos (by omega), if_pos (by omega), e2, Option.bind_some]; dsimp only; rw [if_pos (by omega)]; exact e k (by omega)
  ·refine ⟨B, a1, s1, fun k hk => ?_, h1, by omega, hS⟩
   obtain ⟨k, rfl⟩ : ∃ m, k = m + 1 := ⟨k - 1, by omega⟩; simp only [spec_l03List.l1]; rw [e1, Option.bind_some]; dsimp only; rw [if_neg g]
theorem list_l0 {c : List Int} (hc : Code c) {nm : List ByteArray} (hn : ∀ x ∈ nm, x.size ≤ 100) (hn6 : nm.length ≤ 6) : ∀ d (i : Nat) (B : List S62), nm.length - i = d → i ≤ nm.length → B.length + d ≤ 40 → SmallArts B → ∀ {a s : Int}, St c a s → ∃ B' a' s', (∀ k, d + 30 ≤ k → spec_l03List.l0 k B nm (i : Int) c a s = some (B', a', s')) ∧ St c a' s' ∧ B'.length ≤ 60 ∧ SmallArts B' := by
 intro d
 induction d with
 | zero =>
  intro i B hd hi hB hS a s h; obtain ⟨r, a1, s1, e1, h1, p1, q1⟩ := next_ok hc h 30 (by decide)
  by_cases g0 : r = 0
  ·obtain ⟨q2, q3, q4, q5, q6, q7, q8, q9, a2, s2, e2, h2⟩ := good_art hc h1 (⟨#[97, 115, 116, 101, 114]⟩ : ByteArray)
   refine ⟨B ++ [⟨_, q2, q3, q4, q5, q6, q7, q8, q9⟩], a2, s2, fun k hk => ?_, h2, Zcr, small_snoc hS (show (⟨#[97, 115, 116, 101, 114]⟩ : ByteArray).size ≤ 100 by decide)⟩; obtain ⟨k, rfl⟩ : ∃ m, k = m + 1 := ⟨k - 1, by omega⟩; simp only [spec_l03List.l0]; rw [if_neg (by omega), e1, Option.bind_some]; dsimp only; rw [if_pos g0, e2, Option.bind_some]; dsimp only; rw [if_pos (by omega)]
  ·by_cases g1 : r = 1
   ·obtain ⟨B', a', s', e, hs, hl, hS'⟩ := list_l1 hc 14 0 B (by omega) (by omega) (by omega) hS h1
    refine ⟨B', a', s', fun k hk => ?_, hs, hl, hS'⟩; obtain ⟨k, rfl⟩ : ∃ m, k = m + 1 := ⟨k - 1, by omega⟩; simp only [spec_l03List.l0]; rw [if_neg (by omega), e1, Option.bind_some]; dsimp only; rw [if_neg g0, if_pos g1]; exact e k (by omega)
   ·refine ⟨B, a1, s1, fun k hk => ?_, h1, by omega, hS⟩
    obtain ⟨k, rfl⟩ : ∃ m, k = m + 1 := ⟨k - 1, by omega⟩; simp only [spec_l03List.l0]; rw [if_neg (by omega), e1, Option.bind_some]; dsimp only; rw [if_neg g0, if_neg g1]
 | succ d ih =>
  intro i B hd hi hB hS a s h; obtain ⟨r, a1, s1, e1, h1, p1, q1⟩ := next_ok hc h 3 (by decide)
  have hw : wrap64 ((i : Int) + 1) = ((i + 1 : Nat) : Int) := by rw [w64 (by omega)]; omega
  by_cases g : r > 0
  ·have hz : (rdOf ByteArray.empty nm (i : Int)).size ≤ 100 := hn _ (by unfold rdOf; exact mem_rd (by omega) (by omega))
   obtain ⟨q1_, q2, q3, q4, q5, q6, q7, q8, q9, a2, s2, e2, h2, hx⟩ := draw_art hc h1 (rdOf ByteArray.empty nm (i : Int)) hz (fun h => word_draw hc h); obtain ⟨B', a', s', e, hs, hb, hS'⟩ := ih (i + 1) (B ++ [⟨q1_, q2, q3, q4, q5, q6, q7, q8, q9⟩]) (by omega) (by omega) Zcr (small_snoc hS hx) h2; refine ⟨B', a', s', fun k hk => ?_, hs, hb, hS'⟩; obtain ⟨k, rfl⟩ : ∃ m, k = m + 1 := ⟨k - 1, by omega⟩; simp only [spec_l03List.l0]; rw [if_pos (by omega), e1, Option.bind_some]; dsimp only; rw [if_pos g, if_pos (by omega), e2, Option.bind_some]; dsimp only; rw [if_pos (by omega), hw]; exact e k (by omega)
  ·obtain ⟨B', a', s', e, hs, hb, hS'⟩ := ih (i + 1) B (by omega) (by omega) (by omega) hS h1
   refine ⟨B', a', s', fun k hk => ?_, hs, hb, hS'⟩; obtain ⟨k, rfl⟩ : ∃ m, k = m + 1 := ⟨k - 1, by omega⟩; simp only [spec_l03List.l0]; rw [if_pos (by omega), e1, Option.bind_some]; dsimp only; rw [if_neg g, hw]; exact e k (by omega)
theorem list_draw {c : List Int} (hc : Code c) {a s : Int} (h : St c a s) : ∃ B a' s', (∀ k, 40 ≤ k → spec_l03List.f k c a s = some (B, a', s')) ∧ St c a' s' ∧ B.length ≤ 60 ∧ SmallArts B := by
 obtain ⟨nm, en, hn, hn6⟩ : ∃ nm, spec_l03Names.f = some nm ∧ (∀ x ∈ nm, x.size ≤ 100) ∧ nm.length ≤ 6 := ⟨_, rfl, by decide, by decide⟩; obtain ⟨B, a', s', e, hs, hb, hS⟩ := list_l0 hc hn hn6 nm.length 0 [] (by omega) (by omega) (by simp only [List.length_nil]; omega) (fun x hx => by simp at hx) h; refine ⟨B, a', s', fun k hk => ?_, hs, hb, hS⟩
 unfold spec_l03List.f
 rw [en, Option.bind_some]; exact e k (by omega)
theorem show_draw {c : List Int} (hc : Code c) {a s : Int} (h : St c a s) : ∃ A B C a' s', (∀ k, 36893488147419104010 ≤ k → spec_l08Draw.f k c a s = some (A, B, C, a', s')) ∧ St c a' s' ∧ A.length ≤ 60 ∧ B.length ≤ 60 ∧ SmallArts B ∧ C.length ≤ 60 := by
 obtain ⟨A, B, C, a1, s1, e1, h1, hA1, hA6, hB, hS, hC⟩ := good_show hc h; obtain ⟨r, a2, s2, e2, h2, _⟩ := next_ok hc h1 40 (by decide)
 by_cases g0 : r = 0
 ·obtain ⟨A', a3, s3, e3, h3, hl⟩ := score_draw hc h2
  refine ⟨A', B, C, a3, s3, fun k hk => ?_, h3, by omega, by omega, hS, by omega⟩
  unfold spec_l08Draw.f
  rw [e1 k hk, Option.bind_some]; dsimp only; rw [e2, Option.bind_some]; dsimp only; rw [if_pos g0, e3 k (by omega), Option.bind_some]
 by_cases g1 : r = 1
 ·obtain ⟨B', a3, s3, e3, h3, hl, hS'⟩ := list_draw hc h2
  refine ⟨A, B', C, a3, s3, fun k hk => ?_, h3, by omega, by omega, hS', by omega⟩
  unfold spec_l08Draw.f
  rw [e1 k hk, Option.bind_some]; dsimp only; rw [e2, Option.bind_some]; dsimp only; rw [if_neg g0, if_pos g1, e3 k (by omega), Option.bind_some]
 by_cases g2 : r = 2
 ·obtain ⟨r3, a3, s3, e3, h3, _⟩ := next_ok hc h2 8 (by decide)
  obtain ⟨r4, a4, s4, e4, h4, _⟩ := next_ok hc h3 5 (by decide); obtain ⟨r5, a5, s5, e5, h5, _⟩ := next_ok hc h4 14 (by decide); refine ⟨A, B, C ++ [⟨wrap64 (r3 - 1), r4, (⟨#[112, 101, 111, 110, 121]⟩ : ByteArray), wrap64 (r5 - 1)⟩], a5, s5, fun k hk => ?_, h5, by omega, by omega, hS, Zcr⟩
  unfold spec_l08Draw.f
  rw [e1 k hk, Option.bind_some]; dsimp only; rw [e2, Option.bind_some]; dsimp only; rw [if_neg g0, if_neg g1, if_pos g2, e3, Option.bind_some]; dsimp only; rw [e4, Option.bind_some]; dsimp only; rw [e5, Option.bind_some]; dsimp only; rw [if_pos (by omega)]
 by_cases g3 : r = 3
 ·by_cases g4 : (C.length : Int) > 0
  ·obtain ⟨C', a3, s3, e3, h3, hl⟩ := draw_loop hc A B (rd_T39 C 0) (30 - C.length) C rfl (by omega) h2
   refine ⟨A, B, C', a3, s3, fun k hk => ?_, h3, by omega, by omega, hS, by omega⟩
   unfold spec_l08Draw.f
   rw [e1 k hk, Option.bind_some]; dsimp only; rw [e2, Option.bind_some]; dsimp only; rw [if_neg g0, if_neg g1, if_neg g2, if_pos g3, if_pos g4, if_pos (by omega)]; exact e3 k (by omega)
  ·refine ⟨A, B, C, a2, s2, fun k hk => ?_, h2, by omega, by omega, hS, by omega⟩
   unfold spec_l08Draw.f
   rw [e1 k hk, Option.bind_some]; dsimp only; rw [e2, Option.bind_some]; dsimp only; rw [if_neg g0, if_neg g1, if_neg g2, if_pos g3, if_neg g4]
 ·refine ⟨A, B, C, a2, s2, fun k hk => ?_, h2, by omega, by omega, hS, by omega⟩
  unfold spec_l08Draw.f
  rw [e1 k hk, Option.bind_some]; dsimp only; rw [e2, Option.bind_some]; dsimp only; rw [if_neg g0, if_neg g1, if_neg g2, if_neg g3]
end Go.Proofs.Ythhijbdekboahaa.F
