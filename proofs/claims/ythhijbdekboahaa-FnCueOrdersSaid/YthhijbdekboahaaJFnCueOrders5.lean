import Derived.Test.YthhijbdekboahaaJFnCueOrders4
import Derived.Below
import Derived.Deep.Draws
import Derived.Deep.AppendLies
import Derived.Maps.AppendAt
import Derived.OwnWalk
import Derived.Laws.BytesArg
import Derived.Laws.MakeOwn
import Derived.Laws.OwnMore
import Derived.Tactics
import Derived.Lib.ConvBytes
import Derived.Laws.Slices
import Derived.WalkKit
import Derived.KernelRfl
import Derived.RowKit3
import Derived.Deep.LoopGhost
import Derived.Deep.QuietTactic
import Derived.BigQuiet
import Derived.WideLaws
import Derived.Deep.DeepCutAuto
import Derived.Deep.CutBlock
import Derived.Deep.RegionHeld3
import Derived.Lib.AppendStr
import Derived.ArgAppend
import Derived.Laws.IdiomCopy
import Derived.RowKit
import Derived.OrdersHeld
import Derived.Laws.BitsLemmas
import Derived.Laws.StructEq
import Derived.Test.YthhijbdekboahaaProg
import Derived.Laws.Cover1
namespace Go.Proofs.Ythhijbdekboahaa.F
open Go.RowKit Go.Proofs.YthhijbdekboahaaW.PrintWords Go.Proofs.YthhijbdekboahaaW.PrintLast Go.Proofs.YthhijbdekboahaaW.PrintMore
attribute [local go_sem] max2_int min2_int max_two min_two max_three min_three max_four min_four
set_option linter.unusedVariables false
set_option linter.unusedSimpArgs false
mutual
def impl_IsShow.j0 : Nat → Bool → List (S104) → List (S62) → List (S39) → Option (Bool)
 | 0, _, _, _, _ => none
 | k + 1, x20, x573000, x573001, x573002 => if x20 = true then (some false) else (impl_IsShow.l0 k x573002 (x573002.length : Int) 0 x573000 x573001 x573002)
def impl_IsShow.l0 : Nat → List (S39) → Int → Int → List (S104) → List (S62) → List (S39) → Option (Bool)
 | 0, _, _, _, _, _, _ => none
 | k + 1, x22, x23, x24, x573000, x573001, x573002 => if x24 < x23 then (if 0 ≤ x24 then (if x24 < (x22.length : Int) then ((impl_within.f ((rd_T39 x22 x24).f3) 0 11).bind fun t577 => (if t577 = true then ((impl_firedAt.f k x573000 x573001 x573002 ((rd_T39 x22 x24).f0) ((rd_T39 x22 x24).f1) ((rd_T39 x22 x24).f2) ((rd_T39 x22 x24).f3)).bind fun t578 => (if t578 < 0 then (some false) else (impl_IsShow.l0 k x22 x23 (wrap64 (x24 + 1)) x573000 x573001 x573002))) else (some false))) else (none)) else (none)) else (some true)
end
def impl_IsShow.f (k : Nat) (l0_0 : List (S104)) (l0_1 : List (S62)) (l0_2 : List (S39)) : Option (Bool) := (impl_IsScore.f k l0_0).bind fun t573 => (if t573 = true then ((impl_AreArticles.f k l0_1).bind fun t574 => (if t574 = true then (impl_IsShow.j0 k (decide ((l0_2.length : Int) > 20)) l0_0 l0_1 l0_2) else (impl_IsShow.j0 k true l0_0 l0_1 l0_2))) else (impl_IsShow.j0 k true l0_0 l0_1 l0_2))
set_option maxHeartbeats 8000000 in
set_option maxRecDepth 100000 in
theorem impl_IsShow.calls (k : Nat) (A0_0 : Option Addr) (c0_0 : Nat) (l0_0 : List (S104)) (A0_1 : Option Addr) (c0_1 : Nat) (l0_1 : List (S62)) (A0_2 : Option Addr) (c0_2 : Nat) (l0_2 : List (S39)) (r : Bool) (w : World) (hr0_0 : Kd.C k104 w A0_0 l0_0.length l0_0) (hc0_0 : l0_0.length ≤ c0_0) (hr0_1 : Kd.C k62 w A0_1 l0_1.length l0_1) (hc0_1 : l0_1.length ≤ c0_1) (hr0_2 : Kd.C k39 w A0_2 l0_2.length l0_2) (hc0_2 : l0_2.length ≤ c0_2) (h : impl_IsShow.f k l0_0 l0_1 l0_2 = some r) :
  Calls Try.prog 25 #[.agg #[.slice A0_0 l0_0.length c0_0, .slice A0_1 l0_1.length c0_1, .slice A0_2 l0_2.length c0_2]] w fun e w' => e = .returned (.bool r) ∧ Below w.heap.size w w' := by
 have hu28 := Try.underlying28; have hu39 := Try.underlying39; have HR0_0 := am_ hr0_0; have HC0_0 := am_ hc0_0; clear hr0_0 hc0_0; have HR0_1 := am_ hr0_1; have HC0_1 := am_ hc0_1; clear hr0_1 hc0_1; have HR0_2 := am_ hr0_2; have HC0_2 := am_ hc0_2; clear hr0_2 hc0_2; have HB := am_ (Below.refl w.heap.size w); have H : ((impl_IsScore.f k l0_0).bind fun t573 => (if t573 = true then ((impl_AreArticles.f k l0_1).bind fun t574 => (if t574 = true then (impl_IsShow.j0 k (decide ((l0_2.length : Int) > 20)) l0_0 l0_1 l0_2) else (impl_IsShow.j0 k true l0_0 l0_1 l0_2))) else (impl_IsShow.j0 k true l0_0 l0_1 l0_2))) = some r := h; clear h; have HC2 := am_ H; clear H
 go_enter Try.func25, Try.ntmps25
 go_upto_region 1 with (first | ((with_reducible refine gate_dst (N := 1) rfl ?_); (try (refine gate_guard (by rfl) ?_; dsimp only)); refine boxZ 1 #[.slice A0_0 l0_0.length c0_0, .slice A0_1 l0_1.length c0_1, .slice A0_2 l0_2.length c0_2] 28 ?_; intro gb572 hg w3 hbox hb; replace BK572 := am_ (hbox); replace GW572 := am_ ((Zp : w.heap.size ≤ gb572)); replace GE572 := GW572; replace HB := (bsZ Zc hb); clear hb hbox hg))
 (try simp only [Act.put, List.setIfInBounds_toArray, List.set_cons_zero, List.set_cons_succ])
 go_cut [20] (fun v20 wc => ∃ (kq : Nat) (x20_1 : Bool), v20 = .bool x20_1 ∧ Aside0 (impl_IsShow.j0 kq x20_1 l0_0 l0_1 l0_2 = some r) ∧ Aside0 (kq ≤ k) ∧ Aside0 (wc.heap[gb572]? = some (.cells #[(.slice A0_0 l0_0.length c0_0), (.slice A0_1 l0_1.length c0_1), (.slice A0_2 l0_2.length c0_2)] 28 (0, 0))) ∧ Aside0 (Below w.heap.size w wc))
 case first =>
  have H := HC2.out; clear HC2; replace H := Option.bind_eq_some_iff.mp H; obtain ⟨t573, A40, H⟩ := H; have A4 := am_ A40; clear A40; have HS_ := am_ H; clear H; refine ci3 BK572 ?_; intros
  go_wp2_with (first | ((with_reducible refine gate_callee (f := 68) rfl ?_); refine gZ 7 Try.func68 #[.slice A0_0 l0_0.length c0_0] ?_; (with_reducible refine (impl_IsScore.calls k _ _ l0_0 t573 _ ?_ ?_ A4.out).mono ?_); exact (Zs HR0_0); exact HC0_0.out; rintro e w9 ⟨rfl, hb⟩; refine ⟨_, rfl, ?_⟩; replace BK572 := (bkZ BK572 hb); replace HB := (bsZ (Ze GE572) hb); clear hb; refine ?roundEnd))
  case roundEnd =>
   by_cases c5 : t573 = true
   ·have H := HS_.out
    clear HS_; subst c5
    have H1 : ((impl_AreArticles.f k l0_1).bind fun t574 => (if t574 = true then (impl_IsShow.j0 k (decide ((l0_2.length : Int) > 20)) l0_0 l0_1 l0_2) else (impl_IsShow.j0 k true l0_0 l0_1 l0_2))) = some r := by rw [if_pos rfl] at H; exact H
    clear H; have H := H1; clear H1; replace H := Option.bind_eq_some_iff.mp H; obtain ⟨t574, A60, H⟩ := H; have A6 := am_ A60; clear A60; have HS_ := am_ H; clear H; refine ci3 BK572 ?_; intros
    go_wp2_with (first | (go_at_call 69; (with_reducible refine (impl_AreArticles.calls k _ _ l0_1 t574 _ ?_ ?_ A6.out).mono ?_); exact (Zs HR0_1); exact HC0_1.out; rintro e w11 ⟨rfl, hb⟩; replace BK572 := (bkZ BK572 hb); replace HB := (bsZ (Ze GE572) hb); clear hb; refine ?roundEnd))
    case roundEnd =>
     by_cases c7 : t574 = true
     ·have H := HS_.out
      clear HS_; subst c7
      have H1 : (impl_IsShow.j0 k (decide ((l0_2.length : Int) > 20)) l0_0 l0_1 l0_2) = some r := by rw [if_pos rfl] at H; exact H
      clear H; have H := H1; clear H1; have H' := am_ H; clear H; refine ci3 BK572 ?_; intros
      go_wp2_with (first | fail)
      go_meet
      case rel => exact ⟨_, (decide ((l0_2.length : Int) > 20)), Za, H', ⟨Zv⟩, ⟨(Zd BK572)⟩, ⟨(Ze GE572)⟩⟩
     ·have H := HS_.out
      clear HS_; replace c7 := Bool.eq_false_iff.mpr c7; subst c7
      have H1 : (impl_IsShow.j0 k true l0_0 l0_1 l0_2) = some r := by rw [if_neg (show ¬ (false = true) by decide)] at H; exact H
      clear H; have H := H1; clear H1; have H' := am_ H; clear H
      go_wp2_with (first | fail)
      go_meet
      case rel => exact ⟨_, (true), Za, H', ⟨Zv⟩, ⟨(Zd BK572)⟩, ⟨(Ze GE572)⟩⟩
   ·have H := HS_.out
    clear HS_; replace c5 := Bool.eq_false_iff.mpr c5; subst c5
    have H1 : (impl_IsShow.j0 k true l0_0 l0_1 l0_2) = some r := by rw [if_neg (show ¬ (false = true) by decide)] at H; exact H
    clear H; have H := H1; clear H1; have H' := am_ H; clear H
    go_wp2_with (first | fail)
    go_meet
    case rel => exact ⟨_, (true), Za, H', ⟨Zv⟩, ⟨(Zd BK572)⟩, ⟨(Ze GE572)⟩⟩
 case rest =>
  clear HC2
  try clear c2
  try clear p2
  try clear c5
  try clear c6
  try clear c7
  obtain ⟨kq, x20_1, rfl, HA, HJ1, BK572, HB⟩ := hcut
  cases kq with
  | zero => exact absurd HA.out (by simp [impl_IsShow.j0])
  | succ kj1 =>
   have H := HA.out; clear HA; simp only [impl_IsShow.j0] at H
   by_cases c19 : x20_1 = true
   ·subst c19
    have H1 : (some false) = some r := by rw [if_pos rfl] at H; exact H
    clear H; have H := H1; clear H1; obtain rfl := Option.some.inj H
    go_wp2
    go_ret
    exact ⟨Zj, (Ze GE572)⟩
   ·replace c19 := Bool.eq_false_iff.mpr c19
    subst c19
    have H1 : (impl_IsShow.l0 kj1 l0_2 (l0_2.length : Int) 0 l0_0 l0_1 l0_2) = some r := by rw [if_neg (show ¬ (false = true) by decide)] at H; exact H
    clear H; have H := H1; clear H1; have H' := am_ H; clear H; refine ci3 BK572 ?_; intros
    go_wp2
    go_loopg [24] kj1 (fun kq v24 w' => ∃ (x24_2 : Int), v24 = .int .i64 x24_2 ∧ Aside0 (impl_IsShow.l0 kq l0_2 (l0_2.length : Int) x24_2 l0_0 l0_1 l0_2 = some r) ∧ Aside0 (kq ≤ kj1) ∧ Aside0 (w'.heap[gb572]? = some (.cells #[(.slice A0_0 l0_0.length c0_0), (.slice A0_1 l0_1.length c0_1), (.slice A0_2 l0_2.length c0_2)] 28 (0, 0))) ∧ Aside0 (Below w.heap.size w w'))
    case atStart => exact ⟨(0), Za, H', ⟨Nat.le_refl _⟩, ⟨(Zd BK572)⟩, ⟨(Ze GE572)⟩⟩
    case round =>
     clear H'
     try clear c1
     try clear c2
     try clear p2
     try clear c5
     try clear c6
     try clear c7
     try clear c19
     try clear p2
     obtain ⟨x24_2, rfl, HA, HK2, BK572, HB⟩ := hrel
     cases gk with
     | zero => exact absurd HA.out (by simp [impl_IsShow.l0])
     | succ k2 =>
      have H := HA.out; clear HA; simp only [impl_IsShow.l0] at H
      by_cases c21 : x24_2 < (l0_2.length : Int)
      ·rw [if_pos c21] at H
       have c21b0 := decide_eq_true c21; clear c21
       by_cases c22 : 0 ≤ x24_2
       ·rw [if_pos c22] at H
        have c22b0 := decide_eq_true c22; clear c22
        by_cases c23 : x24_2 < (l0_2.length : Int)
        ·rw [if_pos c23] at H
         have c23b0 := decide_eq_true c23; clear c23; replace H := Option.bind_eq_some_iff.mp H; obtain ⟨t577, A240, H⟩ := H; have A24 := am_ A240; clear A240
         by_cases c25 : t577 = true
         ·subst c25
          have H1 : ((impl_firedAt.f k2 l0_0 l0_1 l0_2 ((rd_T39 l0_2 x24_2).f0) ((rd_T39 l0_2 x24_2).f1) ((rd_T39 l0_2 x24_2).f2) ((rd_T39 l0_2 x24_2).f3)).bind fun t578 => (if t578 < 0 then (some false) else (impl_IsShow.l0 k2 l0_2 (l0_2.length : Int) (wrap64 (x24_2 + 1)) l0_0 l0_1 l0_2))) = some r := by rw [if_pos rfl] at H; exact H
          clear H; have H := H1; clear H1; replace H := Option.bind_eq_some_iff.mp H; obtain ⟨t578, A260, H⟩ := H; have A26 := am_ A260; clear A260; have HS_ := am_ H; clear H; have p575 : 0 ≤ (x24_2 : Int) := of_decide_eq_true Zg; have q575 : x24_2 < (l0_2.length : Int) := of_decide_eq_true Zg; obtain ⟨ad575, e575, hx575_0, hx575_1, hx575_2, hx575_3⟩ := at_T39 HR0_2.out x24_2 p575 q575
          cases e575
          replace hx575_0 := cbH HB hx575_0; replace hx575_1 := cbH HB hx575_1; replace hx575_2 := cbH HB hx575_2; replace hx575_3 := cbH HB hx575_3; replace p575 := eq_true p575; replace q575 := eq_true q575
          go_wp2_with (first | ((with_reducible refine gate_dst (N := 4) rfl ?_); (try (refine gate_guard (by rfl) ?_; dsimp only)); refine boxZ 4 #[.int .i64 0, .int .i64 0, .string (⟨#[]⟩ : ByteArray), .int .i64 0] 39 ?_; intro gb576 hg w28 hbox hb; replace BK576 := am_ (hbox); replace GW576 := am_ (((Zr GE572) : w.heap.size ≤ gb576)); replace GE576 := GW576; replace HB := (bsZ (Ze GE572) hb); replace NB572_576 := am_ ((by rw [hg]; exact Nat.ne_of_lt (blk_lt (g := gb572) (b0Z BK572)) : gb572 ≠ gb576)); replace NB576_572 := am_ ((by rw [hg]; exact Nat.ne_of_gt (blk_lt (g := gb572) (b0Z BK572)) : gb576 ≠ gb572)); replace BK572 := (bkZ BK572 hb); clear hb hbox hg; have hnb29 := NB576_572.out; have hnc29 := NB572_576.out; refine ci4 BK576 ?_; intros) | ((with_reducible refine gate_callee (f := 53) rfl ?_); refine gZ 30 Try.func53 #[.int .i64 ((rd_T39 l0_2 x24_2).f3), .int .i64 0, .int .i64 11] ?_; (with_reducible refine (impl_within.calls ((rd_T39 l0_2 x24_2).f3) 0 11 true _ A24.out).mono ?_); rintro e w' ⟨rfl, ⟨nd, rfl⟩⟩; refine ⟨_, rfl, ?_⟩; refine ci3 BK572 ?_; intros) | (go_at_call 70; (with_reducible refine (impl_firedAt.calls k2 _ _ l0_0 _ _ l0_1 _ _ l0_2 ((rd_T39 l0_2 x24_2).f0) ((rd_T39 l0_2 x24_2).f1) ((rd_T39 l0_2 x24_2).f2) ((rd_T39 l0_2 x24_2).f3) t578 _ ?_ ?_ ?_ ?_ ?_ ?_ A26.out).mono ?_); exact Kd.C_below HR0_0.out (Zu GE572 GE576); exact HC0_0.out; exact Kd.C_below HR0_1.out (Zu GE572 GE576); exact HC0_1.out; exact Kd.C_below HR0_2.out (Zu GE572 GE576); exact HC0_2.out; rintro e w32 ⟨rfl, hb⟩; replace BK572 := am_ (blk_below (g := gb572) (bfZ BK572 NB572_576) hb); replace BK576 := am_ (blk_below (g := gb576) (o := .cells #[.int .i64 ((rd_T39 l0_2 x24_2).f0), .int .i64 ((rd_T39 l0_2 x24_2).f1), .string ((rd_T39 l0_2 x24_2).f2), .int .i64 ((rd_T39 l0_2 x24_2).f3)] 39 (0, 0)) (bpZ BK576) hb); replace HB := (bsZ (Zu GE572 GE576) hb); clear hb; refine ?roundEnd))
          case roundEnd =>
           by_cases c27 : t578 < 0
           ·have H := HS_.out
            clear HS_; rw [if_pos c27] at H; have c27b0 := decide_eq_true c27; clear c27; obtain rfl := Option.some.inj H
            go_wp2_with (first | fail)
            go_ret
            exact ⟨Zj, (Zu GE572 GE576)⟩
           ·have H := HS_.out
            clear HS_; rw [if_neg c27] at H; have c27b0 := decide_eq_false c27; clear c27; have H' := am_ H; clear H
            go_wp2_with (first | fail)
            go_roundg k2
            case measure => have := HJ1.out; have := HK2.out; omega
            case rel => exact ⟨(wrap64 (x24_2 + 1)), Za, H', ⟨by have := HJ1.out; have := HK2.out; omega⟩, ⟨(Zd BK572)⟩, ⟨(Zu GE572 GE576)⟩⟩
         ·replace c25 := Bool.eq_false_iff.mpr c25
          subst c25
          have H1 : (some false) = some r := by rw [if_neg (show ¬ (false = true) by decide)] at H; exact H
          clear H; have H := H1; clear H1; obtain rfl := Option.some.inj H; have p575 : 0 ≤ (x24_2 : Int) := of_decide_eq_true Zg; have q575 : x24_2 < (l0_2.length : Int) := of_decide_eq_true Zg; obtain ⟨ad575, e575, hx575_0, hx575_1, hx575_2, hx575_3⟩ := at_T39 HR0_2.out x24_2 p575 q575
          cases e575
          replace hx575_0 := cbH HB hx575_0; replace hx575_1 := cbH HB hx575_1; replace hx575_2 := cbH HB hx575_2; replace hx575_3 := cbH HB hx575_3; replace p575 := eq_true p575; replace q575 := eq_true q575
          go_wp2_with (first | ((with_reducible refine gate_dst (N := 4) rfl ?_); (try (refine gate_guard (by rfl) ?_; dsimp only)); refine boxZ 4 #[.int .i64 0, .int .i64 0, .string (⟨#[]⟩ : ByteArray), .int .i64 0] 39 ?_; intro gb576 hg w38 hbox hb; replace BK576 := am_ (hbox); replace GW576 := am_ (((Zr GE572) : w.heap.size ≤ gb576)); replace GE576 := GW576; replace HB := (bsZ (Ze GE572) hb); replace NB572_576 := am_ ((by rw [hg]; exact Nat.ne_of_lt (blk_lt (g := gb572) (b0Z BK572)) : gb572 ≠ gb576)); replace NB576_572 := am_ ((by rw [hg]; exact Nat.ne_of_gt (blk_lt (g := gb572) (b0Z BK572)) : gb576 ≠ gb572)); replace BK572 := (bkZ BK572 hb); clear hb hbox hg; have hnb39 := NB576_572.out; have hnc39 := NB572_576.out; refine ci4 BK576 ?_; intros) | ((with_reducible refine gate_callee (f := 53) rfl ?_); refine gZ 30 Try.func53 #[.int .i64 ((rd_T39 l0_2 x24_2).f3), .int .i64 0, .int .i64 11] ?_; (with_reducible refine (impl_within.calls ((rd_T39 l0_2 x24_2).f3) 0 11 false _ A24.out).mono ?_); rintro e w' ⟨rfl, ⟨nd, rfl⟩⟩; refine ⟨_, rfl, ?_⟩))
          go_ret
          exact ⟨Zj, (Zu GE572 GE576)⟩
        ·rw [if_neg c23] at H
         exact absurd H (by simp)
       ·rw [if_neg c22] at H
        exact absurd H (by simp)
      ·rw [if_neg c21] at H
       have c21b0 := decide_eq_false c21; clear c21; obtain rfl := Option.some.inj H
       go_wp2
       go_ret
       exact ⟨Zj, (Ze GE572)⟩
def impl_twoCues.f (k : Nat) (l0_0 : List (S104)) (l0_1 : List (S62)) (l0_2 : List (S39)) (a1 : Int) (a2 : Int) : Option (Int) := (impl_IsShow.f k l0_0 l0_1 l0_2).bind fun t998 => (if t998 = true then ((impl_isIndex.f a1 (l0_2.length : Int)).bind fun t999 => (if t999 = true then ((impl_isIndex.f a2 (l0_2.length : Int)).bind fun t1000 => (if t1000 = true then (some 0) else (some 2))) else (some 2))) else (some 1))
set_option maxHeartbeats 8000000 in
set_option maxRecDepth 100000 in
theorem impl_twoCues.calls (k : Nat) (A0_0 : Option Addr) (c0_0 : Nat) (l0_0 : List (S104)) (A0_1 : Option Addr) (c0_1 : Nat) (l0_1 : List (S62)) (A0_2 : Option Addr) (c0_2 : Nat) (l0_2 : List (S39)) (a1 : Int) (a2 : Int) (r : Int) (w : World) (hr0_0 : Kd.C k104 w A0_0 l0_0.length l0_0) (hc0_0 : l0_0.length ≤ c0_0) (hr0_1 : Kd.C k62 w A0_1 l0_1.length l0_1) (hc0_1 : l0_1.length ≤ c0_1) (hr0_2 : Kd.C k39 w A0_2 l0_2.length l0_2) (hc0_2 : l0_2.length ≤ c0_2) (h : impl_twoCues.f k l0_0 l0_1 l0_2 a1 a2 = some r) :
  Calls Try.prog 71 #[.agg #[.slice A0_0 l0_0.length c0_0, .slice A0_1 l0_1.length c0_1, .slice A0_2 l0_2.length c0_2], .int .i64 a1, .int .i64 a2] w fun e w' => e = .returned (.int .i64 r) ∧ Below w.heap.size w w' := by
 have hu28 := Try.underlying28; have HR0_0 := am_ hr0_0; have HC0_0 := am_ hc0_0; clear hr0_0 hc0_0; have HR0_1 := am_ hr0_1; have HC0_1 := am_ hc0_1; clear hr0_1 hc0_1; have HR0_2 := am_ hr0_2; have HC0_2 := am_ hc0_2; clear hr0_2 hc0_2; have HB := am_ (Below.refl w.heap.size w); have H : ((impl_IsShow.f k l0_0 l0_1 l0_2).bind fun t998 => (if t998 = true then ((impl_isIndex.f a1 (l0_2.length : Int)).bind fun t999 => (if t999 = true then ((impl_isIndex.f a2 (l0_2.length : Int)).bind fun t1000 => (if t1000 = true then (some 0) else (some 2))) else (some 2))) else (some 1))) = some r := h; clear h; replace H := Option.bind_eq_some_iff.mp H; obtain ⟨t998, A40, H⟩ := H; have A4 := am_ A40; clear A40; have HS_ := am_ H; clear H
 go_enter Try.func71, Try.ntmps71
 go_wp2_with (first | ((with_reducible refine gate_dst (N := 3) rfl ?_); (try (refine gate_guard (by rfl) ?_; dsimp only)); refine boxZ 3 #[.slice A0_0 l0_0.length c0_0, .slice A0_1 l0_1.length c0_1, .slice A0_2 l0_2.length c0_2] 28 ?_; intro gb997 hg w10 hbox hb; replace BK997 := am_ (hbox); replace GW997 := am_ ((Zp : w.heap.size ≤ gb997)); replace GE997 := GW997; replace HB := (bsZ Zc hb); clear hb hbox hg; refine ci3 BK997 ?_; intros) | ((with_reducible refine gate_callee (f := 25) rfl ?_); refine gZ 8 Try.func25 #[.agg #[.slice A0_0 l0_0.length c0_0, .slice A0_1 l0_1.length c0_1, .slice A0_2 l0_2.length c0_2]] ?_; (with_reducible refine (impl_IsShow.calls k _ _ l0_0 _ _ l0_1 _ _ l0_2 t998 _ ?_ ?_ ?_ ?_ ?_ ?_ A4.out).mono ?_); exact (Zs HR0_0); exact HC0_0.out; exact (Zs HR0_1); exact HC0_1.out; exact (Zs HR0_2); exact HC0_2.out; rintro e w12 ⟨rfl, hb⟩; refine ⟨_, rfl, ?_⟩; replace BK997 := (bkZ BK997 hb); replace HB := (bsZ (Ze GE997) hb); clear hb; refine ?roundEnd))
 case roundEnd =>
  by_cases c5 : t998 = true
  ·have H := HS_.out
   clear HS_; subst c5
   have H1 : ((impl_isIndex.f a1 (l0_2.length : Int)).bind fun t999 => (if t999 = true then ((impl_isIndex.f a2 (l0_2.length : Int)).bind fun t1000 => (if t1000 = true then (some 0) else (some 2))) else (some 2))) = some r := by rw [if_pos rfl] at H; exact H
   clear H; have H := H1; clear H1; replace H := Option.bind_eq_some_iff.mp H; obtain ⟨t999, A60, H⟩ := H; have A6 := am_ A60; clear A60; have HS_ := am_ H; clear H; refine ci3 BK997 ?_; intros
   go_wp2_with (first | ((with_reducible refine gate_callee (f := 62) rfl ?_); refine gZ 14 Try.func62 #[.int .i64 a1, .int .i64 (l0_2.length : Int)] ?_; (with_reducible refine (impl_isIndex.calls a1 (l0_2.length : Int) t999 _ A6.out).mono ?_); rintro e w' ⟨rfl, ⟨nd, rfl⟩⟩; refine ⟨_, rfl, ?_⟩; refine ?roundEnd))
   case roundEnd =>
    by_cases c7 : t999 = true
    ·have H := HS_.out
     clear HS_; subst c7
     have H1 : ((impl_isIndex.f a2 (l0_2.length : Int)).bind fun t1000 => (if t1000 = true then (some 0) else (some 2))) = some r := by rw [if_pos rfl] at H; exact H
     clear H; have H := H1; clear H1; replace H := Option.bind_eq_some_iff.mp H; obtain ⟨t1000, A80, H⟩ := H; have A8 := am_ A80; clear A80; have HS_ := am_ H; clear H
     go_wp2_with (first | (go_at_call 62; (with_reducible refine (impl_isIndex.calls a2 (l0_2.length : Int) t1000 _ A8.out).mono ?_); rintro e w' ⟨rfl, ⟨nd, rfl⟩⟩; refine ?roundEnd))
     case roundEnd =>
      by_cases c9 : t1000 = true
      ·have H := HS_.out
       clear HS_; subst c9
       have H1 : (some 0) = some r := by rw [if_pos rfl] at H; exact H
       clear H; have H := H1; clear H1; obtain rfl := Option.some.inj H
       go_wp2_with (first | fail)
       go_ret
       exact ⟨Zj, (Ze GE997)⟩
      ·have H := HS_.out
       clear HS_; replace c9 := Bool.eq_false_iff.mpr c9; subst c9
       have H1 : (some 2) = some r := by rw [if_neg (show ¬ (false = true) by decide)] at H; exact H
       clear H; have H := H1; clear H1; obtain rfl := Option.some.inj H
       go_wp2_with (first | fail)
       go_ret
       exact ⟨Zj, (Ze GE997)⟩
    ·have H := HS_.out
     clear HS_; replace c7 := Bool.eq_false_iff.mpr c7; subst c7
     have H1 : (some 2) = some r := by rw [if_neg (show ¬ (false = true) by decide)] at H; exact H
     clear H; have H := H1; clear H1; obtain rfl := Option.some.inj H
     go_wp2_with (first | fail)
     go_ret
     exact ⟨Zj, (Ze GE997)⟩
  ·have H := HS_.out
   clear HS_; replace c5 := Bool.eq_false_iff.mpr c5; subst c5
   have H1 : (some 1) = some r := by rw [if_neg (show ¬ (false = true) by decide)] at H; exact H
   clear H; have H := H1; clear H1; obtain rfl := Option.some.inj H
   go_wp2_with (first | fail)
   go_ret
   exact ⟨Zj, (Ze GE997)⟩
def impl_articleFor.f (k : Nat) (l0_0 : List (S104)) (l0_1 : List (S62)) (l0_2 : List (S39)) (a1_0 : Int) (a1_1 : Int) (a1_2 : ByteArray) (a1_3 : Int) : Option (ByteArray × Int × Int × Int × Int × Int × Int × Int × Int) := (impl_articleOf.f k l0_1 a1_2).bind fun t1004 => (if 0 ≤ t1004 then (if t1004 < (l0_1.length : Int) then (some ((rd_T62 l0_1 t1004).f0, (rd_T62 l0_1 t1004).f1, (rd_T62 l0_1 t1004).f2, (rd_T62 l0_1 t1004).f3, (rd_T62 l0_1 t1004).f4, (rd_T62 l0_1 t1004).f5, (rd_T62 l0_1 t1004).f6, (rd_T62 l0_1 t1004).f7, (rd_T62 l0_1 t1004).f8)) else (none)) else (none))
def impl_articleFor.T1 : Bool × List (List Nat × List Nat) := (true, [([], []), ([0], [0]), ([], []), ([2], [2]), ([], []), ([4], [4]), ([3, 5], [3, 5]), ([1, 6], [1, 6]), ([7], [7]), ([8, 6, 0, 1, 2, 3, 4, 5, 6, 7, 8], [8])])
def impl_articleFor.B1 : List Nat := [0, 1, 0, 4, 0, 16, 60, 127, 255, 511]
theorem impl_articleFor.tab1 : rtab .any (opsOf Try.f80 1) = impl_articleFor.T1 := by kernel_rfl
theorem impl_articleFor.bits1 : waitsOk impl_articleFor.T1.2 impl_articleFor.B1 = true := by kernel_rfl
set_option maxHeartbeats 8000000 in
set_option maxRecDepth 100000 in
theorem impl_articleFor.calls (k : Nat) (A0_0 : Option Addr) (c0_0 : Nat) (l0_0 : List (S104)) (A0_1 : Option Addr) (c0_1 : Nat) (l0_1 : List (S62)) (A0_2 : Option Addr) (c0_2 : Nat) (l0_2 : List (S39)) (a1_0 : Int) (a1_1 : Int) (a1_2 : ByteArray) (a1_3 : Int) (r1 : ByteArray) (r2 : Int) (r3 : Int) (r4 : Int) (r5 : Int) (r6 : Int) (r7 : Int) (r8 : Int) (r9 : Int) (w : World) (hr0_0 : Kd.C k104 w A0_0 l0_0.length l0_0) (hc0_0 : l0_0.length ≤ c0_0) (hr0_1 : Kd.C k62 w A0_1 l0_1.length l0_1) (hc0_1 : l0_1.length ≤ c0_1) (hr0_2 : Kd.C k39 w A0_2 l0_2.length l0_2) (hc0_2 : l0_2.length ≤ c0_2) (h : impl_articleFor.f k l0_0 l0_1 l0_2 a1_0 a1_1 a1_2 a1_3 = some (r1, r2, r3, r4, r5, r6, r7, r8, r9)) :
  Calls Try.prog 80 #[.agg #[.slice A0_0 l0_0.length c0_0, .slice A0_1 l0_1.length c0_1, .slice A0_2 l0_2.length c0_2], .agg #[.int .i64 a1_0, .int .i64 a1_1, .string a1_2, .int .i64 a1_3]] w fun e w' => e = .returned (.agg #[.string r1, .int .i64 r2, .int .i64 r3, .int .i64 r4, .int .i64 r5, .int .i64 r6, .int .i64 r7, .int .i64 r8, .int .i64 r9]) ∧ Below w.heap.size w w' := by
 have hu28 := Try.underlying28; have hu39 := Try.underlying39; have hu62 := Try.underlying62; have HR0_0 := am_ hr0_0; have HC0_0 := am_ hc0_0; clear hr0_0 hc0_0; have HR0_1 := am_ hr0_1; have HC0_1 := am_ hc0_1; clear hr0_1 hc0_1; have HR0_2 := am_ hr0_2; have HC0_2 := am_ hc0_2; clear hr0_2 hc0_2; have HB := am_ (Below.refl w.heap.size w); have H : ((impl_articleOf.f k l0_1 a1_2).bind fun t1004 => (if 0 ≤ t1004 then (if t1004 < (l0_1.length : Int) then (some ((rd_T62 l0_1 t1004).f0, (rd_T62 l0_1 t1004).f1, (rd_T62 l0_1 t1004).f2, (rd_T62 l0_1 t1004).f3, (rd_T62 l0_1 t1004).f4, (rd_T62 l0_1 t1004).f5, (rd_T62 l0_1 t1004).f6, (rd_T62 l0_1 t1004).f7, (rd_T62 l0_1 t1004).f8)) else (none)) else (none))) = some (r1, r2, r3, r4, r5, r6, r7, r8, r9) := h; clear h; replace H := Option.bind_eq_some_iff.mp H; obtain ⟨t1004, A30, H⟩ := H; have A3 := am_ A30; clear A30
 by_cases c4 : 0 ≤ t1004
 ·rw [if_pos c4] at H
  have c4b0 := decide_eq_true c4; clear c4
  by_cases c5 : t1004 < (l0_1.length : Int)
  ·rw [if_pos c5] at H
   have c5b0 := decide_eq_true c5; clear c5; simp only [Option.some.injEq, Prod.mk.injEq] at H; obtain ⟨rfl, rfl, rfl, rfl, rfl, rfl, rfl, rfl, rfl⟩ := H
   go_enter Try.func80, Try.ntmps80
   try go_wp2_with (first | ((with_reducible refine gate_dst (N := 2) rfl ?_); refine boxZ 2 #[.slice A0_0 l0_0.length c0_0, .slice A0_1 l0_1.length c0_1, .slice A0_2 l0_2.length c0_2] 28 ?_; intro gb1001 hg w6 hbox hb; replace BK1001 := am_ (hbox); replace GW1001 := am_ ((Zp : w.heap.size ≤ gb1001)); replace GE1001 := GW1001; replace HB := (bsZ Zc hb); clear hb hbox hg) | ((with_reducible refine gate_dst (N := 3) rfl ?_); refine boxZ 3 #[.int .i64 a1_0, .int .i64 a1_1, .string a1_2, .int .i64 a1_3] 39 ?_; intro gb1002 hg w7 hbox hb; replace BK1002 := am_ (hbox); replace GW1002 := am_ (((Zr GE1001) : w.heap.size ≤ gb1002)); replace GE1002 := GW1002; replace HB := (bsZ (Ze GE1001) hb); replace NB1001_1002 := am_ ((by rw [hg]; exact Nat.ne_of_lt (blk_lt (g := gb1001) (b0Z BK1001)) : gb1001 ≠ gb1002)); replace NB1002_1001 := am_ ((by rw [hg]; exact Nat.ne_of_gt (blk_lt (g := gb1001) (b0Z BK1001)) : gb1002 ≠ gb1001)); replace BK1001 := (bkZ BK1001 hb); clear hb hbox hg) | ((with_reducible refine gate_dst (N := 4) rfl ?_); refine boxZ 4 #[.string (⟨#[]⟩ : ByteArray), .int .i64 0, .int .i64 0, .int .i64 0, .int .i64 0, .int .i64 0, .int .i64 0, .int .i64 0, .int .i64 0] 62 ?_; intro gb1003 hg w8 hbox hb; replace BK1003 := am_ (hbox); replace GW1003 := am_ (((Zac GE1001 GE1002) : w.heap.size ≤ gb1003)); replace GE1003 := GW1003; replace HB := (bsZ (Zu GE1001 GE1002) hb); replace NB1001_1003 := am_ ((by rw [hg]; exact Nat.ne_of_lt (blk_lt (g := gb1001) (b0Z BK1001)) : gb1001 ≠ gb1003)); replace NB1003_1001 := am_ ((by rw [hg]; exact Nat.ne_of_gt (blk_lt (g := gb1001) (b0Z BK1001)) : gb1003 ≠ gb1001)); replace BK1001 := (bkZ BK1001 hb); replace NB1002_1003 := am_ ((by rw [hg]; exact Nat.ne_of_lt (blk_lt (g := gb1002) (b0Z BK1002)) : gb1002 ≠ gb1003)); replace NB1003_1002 := am_ ((by rw [hg]; exact Nat.ne_of_gt (blk_lt (g := gb1002) (b0Z BK1002)) : gb1003 ≠ gb1002)); replace BK1002 := (bkZ BK1002 hb); clear hb hbox hg))
   replace BK1001 := am_ (blk_drew BK1001.out); replace BK1002 := am_ (blk_drew BK1002.out); replace BK1003 := am_ (blk_drew BK1003.out); replace HB := am_ (below_drew1 HB.out); have p1005 : 0 ≤ (t1004 : Int) := of_decide_eq_true Zg; have q1005 : t1004 < (l0_1.length : Int) := of_decide_eq_true Zg; obtain ⟨ad1005, e1005, hx1005_0, hx1005_1, hx1005_2, hx1005_3, hx1005_4, hx1005_5, hx1005_6, hx1005_7, hx1005_8⟩ := at_T62 HR0_1.out t1004 p1005 q1005; have hw1005_8 := hx1005_8; have hw1005_7 := hx1005_7; have hw1005_6 := hx1005_6; have hw1005_5 := hx1005_5; have hw1005_4 := hx1005_4; have hw1005_3 := hx1005_3; have hw1005_2 := hx1005_2; have hw1005_1 := hx1005_1; have hw1005_0 := hx1005_0
   cases e1005
   replace hx1005_0 := cbH HB hx1005_0; replace hx1005_1 := cbH HB hx1005_1; replace hx1005_2 := cbH HB hx1005_2; replace hx1005_3 := cbH HB hx1005_3; replace hx1005_4 := cbH HB hx1005_4; replace hx1005_5 := cbH HB hx1005_5; replace hx1005_6 := cbH HB hx1005_6; replace hx1005_7 := cbH HB hx1005_7; replace hx1005_8 := cbH HB hx1005_8; replace p1005 := eq_true p1005; replace q1005 := eq_true q1005; refine start_ (n := 10) (S := fun w' => w'.cell? ⟨gb1001, 0, none⟩ = some (.slice A0_0 l0_0.length c0_0) ∧ w'.cell? ⟨gb1001, 1, none⟩ = some (.slice (some ad1005) l0_1.length c0_1) ∧ w'.cell? ⟨gb1001, 2, none⟩ = some (.slice A0_2 l0_2.length c0_2) ∧ w'.cell? ⟨gb1002, 0, none⟩ = some (.int .i64 a1_0) ∧ w'.cell? ⟨gb1002, 1, none⟩ = some (.int .i64 a1_1) ∧ w'.cell? ⟨gb1002, 2, none⟩ = some (.string a1_2) ∧ w'.cell? ⟨gb1002, 3, none⟩ = some (.int .i64 a1_3) ∧ w'.cell? (ad1005.add ((t1004).toNat * 9)) = some (.string ((rd_T62 l0_1 t1004).f0)) ∧ w'.cell? ⟨(ad1005.add ((t1004).toNat * 9)).block, (ad1005.add ((t1004).toNat * 9)).off + 1, none⟩ = some (.int .i64 ((rd_T62 l0_1 t1004).f1)) ∧ w'.cell? ⟨(ad1005.add ((t1004).toNat * 9)).block, (ad1005.add ((t1004).toNat * 9)).off + 2, none⟩ = some (.int .i64 ((rd_T62 l0_1 t1004).f2)) ∧ w'.cell? ⟨(ad1005.add ((t1004).toNat * 9)).block, (ad1005.add ((t1004).toNat * 9)).off + 3, none⟩ = some (.int .i64 ((rd_T62 l0_1 t1004).f3)) ∧ w'.cell? ⟨(ad1005.add ((t1004).toNat * 9)).block, (ad1005.add ((t1004).toNat * 9)).off + 4, none⟩ = some (.int .i64 ((rd_T62 l0_1 t1004).f4)) ∧ w'.cell? ⟨(ad1005.add ((t1004).toNat * 9)).block, (ad1005.add ((t1004).toNat * 9)).off + 5, none⟩ = some (.int .i64 ((rd_T62 l0_1 t1004).f5)) ∧ w'.cell? ⟨(ad1005.add ((t1004).toNat * 9)).block, (ad1005.add ((t1004).toNat * 9)).off + 6, none⟩ = some (.int .i64 ((rd_T62 l0_1 t1004).f6)) ∧ w'.cell? ⟨(ad1005.add ((t1004).toNat * 9)).block, (ad1005.add ((t1004).toNat * 9)).off + 7, none⟩ = some (.int .i64 ((rd_T62 l0_1 t1004).f7)) ∧ w'.cell? ⟨(ad1005.add ((t1004).toNat * 9)).block, (ad1005.add ((t1004).toNat * 9)).off + 8, none⟩ = some (.int .i64 ((rd_T62 l0_1 t1004).f8))) (ds := []) (bT 10 0) Zh rfl rfl ⟨(blk_cell BK1001.out 0).trans rfl, (blk_cell BK1001.out 1).trans rfl, (blk_cell BK1001.out 2).trans rfl, (blk_cell BK1002.out 0).trans rfl, (blk_cell BK1002.out 1).trans rfl, (blk_cell BK1002.out 2).trans rfl, (blk_cell BK1002.out 3).trans rfl, (cbH HB hw1005_0 :), (cbH HB hw1005_1 :), (cbH HB hw1005_2 :), (cbH HB hw1005_3 :), (cbH HB hw1005_4 :), (cbH HB hw1005_5 :), (cbH HB hw1005_6 :), (cbH HB hw1005_7 :), (cbH HB hw1005_8 :)⟩ (fun hHeld => ?_); refine with_tabW impl_articleFor.tab1 impl_articleFor.bits1 (fun HT_ HW_ => ?_); generalize w8.drew = w9 at BK1001 BK1002 BK1003 HB hx1005_0 hx1005_1 hx1005_2 hx1005_3 hx1005_4 hx1005_5 hx1005_6 hx1005_7 hx1005_8 hHeld ⊢; refine pureZ HT_ 0 (some 5) (bT 10 1) ?_; refine pureZ HT_ 2 (some 7) (bB 10 5) ?_; refine pureZ HT_ 4 (some 9) (bB 10 21) ?_; refine takeZ16 HT_ HW_ 1 (some 6) (bB 10 23) hHeld ?_; refine takeZ16 HT_ HW_ 3 (some 8) (bT 10 5) hHeld ?_
   refine takeZ16 HT_ HW_ 5 (some 10) (bT 10 6) hHeld ?_; refine one_ (i := 6) (N := some 11) (bT 10 7) rfl rfl (one_of HT_.out Zh) (by decide) (fun K hK => ?_); refine goes_ Try.func63 Zh rfl #[.slice (some ad1005) l0_1.length c0_1, .string a1_2] (by rfl) rfl rfl Zq ?_
   with_reducible refine (impl_articleOf.calls k _ _ l0_1 a1_2 t1004 _ ?side1 ?side2 A3.out).mono ?_
   (case side1 => exact (Zs HR0_1))
   (case side2 => exact HC0_1.out)
   rintro e w10 ⟨rfl, hb⟩; refine ⟨_, rfl, ?_⟩; replace BK1001 := (bkZ BK1001 hb); replace BK1002 := (bkZ BK1002 hb); replace BK1003 := (bkZ BK1003 hb); replace HB := (bsZ (Zaf GE1001 GE1002 GE1003) hb)
   (try clear hb)
   (try clear hb2)
   (try clear hk)
   (try clear hi)
   refine hK.out _ _ (Zcn BK1001 BK1002 hw1005_0 hw1005_1 hw1005_2 hw1005_3 hw1005_4 hw1005_5 hw1005_6 hw1005_7 hw1005_8) (fun hHeld => ?_); clear hK K; refine normZ 11 ?_; refine pureZ HT_ 7 (some 12) (bT 10 8) ?_; refine takeZ16 HT_ HW_ 8 (some 13) (bT 10 9) hHeld ?_; refine one_ (i := 9) (N := none) (bT 10 10) rfl rfl (one_of HT_.out Zh) (by decide) (fun K hK => ?_); have hs11 : w10.cell? ⟨gb1003, 0, none⟩ = some (.string (⟨#[]⟩ : ByteArray)) := (blk_cell BK1003.out 0).trans rfl; have hfs11 := blk_frozen BK1003.out 0; have hns11_0 := NB1001_1003.out; have hns11_1 := NB1002_1003.out; have hms11_0 := NB1003_1001.out; have hms11_1 := NB1003_1002.out; have hs12 : w10.cell? ⟨gb1003, 1, none⟩ = some (.int .i64 0) := (blk_cell BK1003.out 1).trans rfl; have hfs12 := blk_frozen BK1003.out 1; have hns12_0 := NB1001_1003.out; have hns12_1 := NB1002_1003.out; have hms12_0 := NB1003_1001.out; have hms12_1 := NB1003_1002.out; have hs13 : w10.cell? ⟨gb1003, 2, none⟩ = some (.int .i64 0) := (blk_cell BK1003.out 2).trans rfl; have hfs13 := blk_frozen BK1003.out 2; have hns13_0 := NB1001_1003.out; have hns13_1 := NB1002_1003.out; have hms13_0 := NB1003_1001.out; have hms13_1 := NB1003_1002.out; have hs14 : w10.cell? ⟨gb1003, 3, none⟩ = some (.int .i64 0) := (blk_cell BK1003.out 3).trans rfl; have hfs14 := blk_frozen BK1003.out 3; have hns14_0 := NB1001_1003.out; have hns14_1 := NB1002_1003.out; have hms14_0 := NB1003_1001.out; have hms14_1 := NB1003_1002.out; have hs15 : w10.cell? ⟨gb1003, 4, none⟩ = some (.int .i64 0) := (blk_cell BK1003.out 4).trans rfl; have hfs15 := blk_frozen BK1003.out 4; have hns15_0 := NB1001_1003.out; have hns15_1 := NB1002_1003.out; have hms15_0 := NB1003_1001.out; have hms15_1 := NB1003_1002.out; have hs16 : w10.cell? ⟨gb1003, 5, none⟩ = some (.int .i64 0) := (blk_cell BK1003.out 5).trans rfl; have hfs16 := blk_frozen BK1003.out 5; have hns16_0 := NB1001_1003.out; have hns16_1 := NB1002_1003.out; have hms16_0 := NB1003_1001.out; have hms16_1 := NB1003_1002.out; have hs17 : w10.cell? ⟨gb1003, 6, none⟩ = some (.int .i64 0) := (blk_cell BK1003.out 6).trans rfl; have hfs17 := blk_frozen BK1003.out 6; have hns17_0 := NB1001_1003.out; have hns17_1 := NB1002_1003.out; have hms17_0 := NB1003_1001.out; have hms17_1 := NB1003_1002.out; have hs18 : w10.cell? ⟨gb1003, 7, none⟩ = some (.int .i64 0) := (blk_cell BK1003.out 7).trans rfl; have hfs18 := blk_frozen BK1003.out 7; have hns18_0 := NB1001_1003.out; have hns18_1 := NB1002_1003.out; have hms18_0 := NB1003_1001.out; have hms18_1 := NB1003_1002.out; have hs19 : w10.cell? ⟨gb1003, 8, none⟩ = some (.int .i64 0) := (blk_cell BK1003.out 8).trans rfl; have hfs19 := blk_frozen BK1003.out 8; have hns19_0 := NB1001_1003.out; have hns19_1 := NB1002_1003.out; have hms19_0 := NB1003_1001.out; have hms19_1 := NB1003_1002.out; refine skip_ (w1 := ?_) (by rfl) rfl ?_ ?_; rotate_left
   ·go_simp
    rfl
   refine hK.out _ _ ⟨(cg1 (hHeld.1) NB1001_1003), (cg1 (hHeld.2.1) NB1001_1003), (cg1 (hHeld.2.2.1) NB1001_1003), (cg1 (hHeld.2.2.2.1) NB1002_1003), (cg1 (hHeld.2.2.2.2.1) NB1002_1003), (cg1 (hHeld.2.2.2.2.2.1) NB1002_1003), (cg1 (hHeld.2.2.2.2.2.2.1) NB1002_1003), (cfZ gb1003 (hHeld.2.2.2.2.2.2.2.1) (Zco hw1005_0 GW1003)), (cfZ gb1003 (hHeld.2.2.2.2.2.2.2.2.1) (Zco hw1005_1 GW1003)), (cfZ gb1003 (hHeld.2.2.2.2.2.2.2.2.2.1) (Zco hw1005_2 GW1003)), (cfZ gb1003 (hHeld.2.2.2.2.2.2.2.2.2.2.1) (Zco hw1005_3 GW1003)), (cfZ gb1003 (hHeld.2.2.2.2.2.2.2.2.2.2.2.1) (Zco hw1005_4 GW1003)), (cfZ gb1003 (hHeld.2.2.2.2.2.2.2.2.2.2.2.2.1) (Zco hw1005_5 GW1003)), (cfZ gb1003 (hHeld.2.2.2.2.2.2.2.2.2.2.2.2.2.1) (Zco hw1005_6 GW1003)), (cfZ gb1003 (hHeld.2.2.2.2.2.2.2.2.2.2.2.2.2.2.1) (Zco hw1005_7 GW1003)), (cfZ gb1003 (hHeld.2.2.2.2.2.2.2.2.2.2.2.2.2.2.2) (Zco hw1005_8 GW1003))⟩ (fun hHeld => ?_); clear hK K; refine done_ (done_of HT_.out Zh) ?_
   try go_wp2
   refine bodyPost_ret (results_cell_row rfl _ _ gb1003 62 #[.string ((rd_T62 l0_1 t1004).f0), .int .i64 ((rd_T62 l0_1 t1004).f1), .int .i64 ((rd_T62 l0_1 t1004).f2), .int .i64 ((rd_T62 l0_1 t1004).f3), .int .i64 ((rd_T62 l0_1 t1004).f4), .int .i64 ((rd_T62 l0_1 t1004).f5), .int .i64 ((rd_T62 l0_1 t1004).f6), .int .i64 ((rd_T62 l0_1 t1004).f7), .int .i64 ((rd_T62 l0_1 t1004).f8)] (0, 0) _ rfl (bpZ BK1003) Try.underlying62 rfl Zh) rfl ?_; exact ⟨Zj, (Zaf GE1001 GE1002 GE1003)⟩
  ·rw [if_neg c5] at H
   exact absurd H (by simp)
 ·rw [if_neg c4] at H
  exact absurd H (by simp)
def impl_shotWindows.l0 : Nat → Int → List (List Int) → Int → ByteArray → Int → Int → Int → Int → Int → Int → Int → Int → Option ((List (List Int)))
 | 0, _, _, _, _, _, _, _, _, _, _, _, _ => none
 | k + 1, x1, x5, x6, x1007000, x1007001, x1007002, x1007003, x1007004, x1007005, x1007006, x1007007, x1007008 => if x6 < x1007005 then (if x5.length < 5864062014805 then (impl_shotWindows.l0 k x1 (x5 ++ [(([wrap64 ((wrap64 ((wrap64 (x1 + x1007003)) + (wrap64 (x6 * x1007006)))) - x1007004), wrap64 ((wrap64 ((wrap64 (x1 + x1007003)) + (wrap64 (x6 * x1007006)))) + x1007004)] : List Int))]) (wrap64 (x6 + 1)) x1007000 x1007001 x1007002 x1007003 x1007004 x1007005 x1007006 x1007007 x1007008) else (none)) else (some x5)
def impl_shotWindows.f (k : Nat) (a0_0 : ByteArray) (a0_1 : Int) (a0_2 : Int) (a0_3 : Int) (a0_4 : Int) (a0_5 : Int) (a0_6 : Int) (a0_7 : Int) (a0_8 : Int) (a1 : Int) : Option ((List (List Int))) := impl_shotWindows.l0 k a1 ([] : List (List Int)) 0 a0_0 a0_1 a0_2 a0_3 a0_4 a0_5 a0_6 a0_7 a0_8
set_option maxHeartbeats 8000000 in
set_option maxRecDepth 100000 in
theorem impl_shotWindows.calls (k : Nat) (a0_0 : ByteArray) (a0_1 : Int) (a0_2 : Int) (a0_3 : Int) (a0_4 : Int) (a0_5 : Int) (a0_6 : Int) (a0_7 : Int) (a0_8 : Int) (a1 : Int) (r : List (List Int)) (w : World) (h : impl_shotWindows.f k a0_0 a0_1 a0_2 a0_3 a0_4 a0_5 a0_6 a0_7 a0_8 a1 = some r) :
  Calls Try.prog 92 #[.agg #[.string a0_0, .int .i64 a0_1, .int .i64 a0_2, .int .i64 a0_3, .int .i64 a0_4, .int .i64 a0_5, .int .i64 a0_6, .int .i64 a0_7, .int .i64 a0_8], .int .i64 a1] w fun e w' => ∃ v0_ : Value, e = .returned (v0_) ∧ Kd.S (Kd.slice 2 (Kd.int .i64)) 33 w' w.heap.size (fun _ => True) v0_ r ∧ Below w.heap.size w w' := by
 have hu62 := Try.underlying62; have HB := am_ (Below.refl w.heap.size w); have H : (impl_shotWindows.l0 k a1 ([] : List (List Int)) 0 a0_0 a0_1 a0_2 a0_3 a0_4 a0_5 a0_6 a0_7 a0_8) = some r := h; clear h; have H' := am_ H; clear H
 go_enter Try.func92, Try.ntmps92
 go_wp2_with (first | ((with_reducible refine gate_dst (N := 2) rfl ?_); refine boxZ 2 #[.string a0_0, .int .i64 a0_1, .int .i64 a0_2, .int .i64 a0_3, .int .i64 a0_4, .int .i64 a0_5, .int .i64 a0_6, .int .i64 a0_7, .int .i64 a0_8] 62 ?_; intro gb1006 hg w3 hbox hb; replace BK1006 := am_ (hbox); replace GW1006 := am_ ((Zp : w.heap.size ≤ gb1006)); replace GE1006 := GW1006; replace HB := (bsZ Zc hb); clear hb hbox hg))
 go_loopg [5, 6] k (fun kq v5 v6 w' => ∃ (x5_1 : List (List Int)) (x6_1 : Int), v6 = .int .i64 x6_1 ∧ Aside0 (impl_shotWindows.l0 kq a1 x5_1 x6_1 a0_0 a0_1 a0_2 a0_3 a0_4 a0_5 a0_6 a0_7 a0_8 = some r) ∧ Aside0 (kq ≤ k) ∧ Aside0 (Kd.S (Kd.slice 2 (Kd.int .i64)) 33 w' w.heap.size (fun _ => True) v5 x5_1) ∧ Aside0 (w'.heap[gb1006]? = some (.cells #[.string a0_0, .int .i64 a0_1, .int .i64 a0_2, .int .i64 a0_3, .int .i64 a0_4, .int .i64 a0_5, .int .i64 a0_6, .int .i64 a0_7, .int .i64 a0_8] 62 (0, 0))) ∧ Aside0 (Below w.heap.size w w'))
 case atStart => exact ⟨(([] : List (List Int))), (0), Za, H', ⟨Nat.le_refl _⟩, ⟨Zcp⟩, ⟨(Zd BK1006)⟩, ⟨(Ze GE1006)⟩⟩
 case round =>
  clear H'
  try clear p2
  obtain ⟨x5_1, x6_1, rfl, HA, HK1, HO_5, BK1006, HB⟩ := hrel
  cases gk with
  | zero => exact absurd HA.out (by simp [impl_shotWindows.l0])
  | succ k1 =>
   have H := HA.out; clear HA; simp only [impl_shotWindows.l0] at H
   by_cases c4 : x6_1 < a0_5
   ·rw [if_pos c4] at H
    have c4b0 := decide_eq_true c4; clear c4; obtain ⟨y1007, hy1007⟩ : ∃ y_ : List Int, y_ = (([wrap64 ((wrap64 ((wrap64 (a1 + a0_3)) + (wrap64 (x6_1 * a0_6)))) - a0_4), wrap64 ((wrap64 ((wrap64 (a1 + a0_3)) + (wrap64 (x6_1 * a0_6)))) + a0_4)] : List Int)) := ⟨_, rfl⟩
    (first | (rw [← hy1007] at H; with_reducible replace H := bindZ H) | rw [← hy1007] at H)
    have Ny1007 := am_ hy1007; clear hy1007
    by_cases c5 : x5_1.length < 5864062014805
    ·rw [if_pos c5] at H
     have LMc5 := am_ c5; clear c5; obtain ⟨y1010, hy1010⟩ : ∃ y_ : List (List Int), y_ = (x5_1 ++ [y1007]) := ⟨_, rfl⟩
     (first | (rw [← hy1010] at H; with_reducible replace H := bindZ H) | rw [← hy1010] at H)
     have Ny1010 := am_ hy1010; clear hy1010; have H' := am_ H; clear H; refine ci9 BK1006 ?_; intros
     go_wp2_with (first | ((with_reducible refine gate_dst (N := 32) rfl ?_); refine Kd.R_lit (Kd.int .i64) _ 2 ?hg (N := 32) ?hd (xs := ([wrap64 ((wrap64 ((wrap64 (a1 + a0_3)) + (wrap64 (x6_1 * a0_6)))) - a0_4), wrap64 ((wrap64 ((wrap64 (a1 + a0_3)) + (wrap64 (x6_1 * a0_6)))) + a0_4)] : List Int)) (inner := [.int .i64 (wrap64 ((wrap64 ((wrap64 (a1 + a0_3)) + (wrap64 (x6_1 * a0_6)))) - a0_4)), .int .i64 (wrap64 ((wrap64 ((wrap64 (a1 + a0_3)) + (wrap64 (x6_1 * a0_6)))) + a0_4))]) (ok := fun _ => True) (okp := fun _ => True) ?hr ?hp (fun _ hk => hk) trivial (Below.refl _ _) (Nat.le_refl _) (by simp) ?_; (case hd => rfl); (case hg => rfl); (case hr => first | (go_simp; done) | (go_simp; rfl)); (case hp => exact (Reps.one (show Kd.M (Kd.int .i64) _ _ _ (wrap64 ((wrap64 ((wrap64 (a1 + a0_3)) + (wrap64 (x6_1 * a0_6)))) - a0_4)) [.int .i64 (wrap64 ((wrap64 ((wrap64 (a1 + a0_3)) + (wrap64 (x6_1 * a0_6)))) - a0_4))] from rfl) (Reps.one (show Kd.M (Kd.int .i64) _ _ _ (wrap64 ((wrap64 ((wrap64 (a1 + a0_3)) + (wrap64 (x6_1 * a0_6)))) + a0_4)) [.int .i64 (wrap64 ((wrap64 ((wrap64 (a1 + a0_3)) + (wrap64 (x6_1 * a0_6)))) + a0_4))] from rfl) (Reps.none _ _)))); intro v1008 w7 ho8 hb hg_ hnew_; clear hg_ hnew_; (first | rw [← Ny1007.out] at ho8 | (simp only [Int.reduceToNat] at ho8; rw [← Ny1007.out] at ho8)); replace HO_5 := am_ (Kd.S_elder' (Zcq HO_5) (Kd.R_base ho8) hb); replace HO1009 := am_ (Kd.R_lower ho8 (below_size (Ze GE1006))); replace BK1006 := (bkZ BK1006 hb); replace HB := (bsZ (Ze GE1006) hb); clear hb ho8; obtain ⟨Ao10, co10, eo10⟩ := Kd.R_slice HO1009.out; subst eo10) | ((with_reducible refine gate_builtin (b := .append) (xs := #[.tmp 23, .tmp 33]) rfl ?_); at_builtin; refine Kd.S_append (Kd.slice 2 (Kd.int .i64)) (w0 := w) w.heap.size rfl (.tmp 23) (.tmp 33) 51 33 (.slice none 0 0) 24 rfl Try.underlying51 info33 rfl (by decide) (by omega) u5 x5_1 y1007 [.slice Ao10 y1007.length co10] (fun _ => True) (fun k_ => some k_ = (.slice Ao10 y1007.length co10 : Value).ownBlock) rfl rfl ?aP (fun k_ hk_ => ((Kd.R_mono (ok' := fun k_ => ((fun _ => True)) k_ ∧ some k_ ≠ (u5 : Value).ownBlock) (Kd.R_apart' (HO1009.out) (Kd.S_typed HO_5.out) (by decide)) (fun k_ hk => ⟨trivial, hk.2⟩))).1 k_ hk_.symm) ?aF ?aO ?aB ?aS ?aL ?_; (case aP => exact Kd.M_row (Kd.R_mono (Kd.R_tight rfl (Kd.R_mono (ok' := fun k_ => ((fun _ => True)) k_ ∧ some k_ ≠ (u5 : Value).ownBlock) (Kd.R_apart' (HO1009.out) (Kd.S_typed HO_5.out) (by decide)) (fun k_ hk => ⟨trivial, hk.2⟩))) (fun _ h_ => h_))); (case aB => exact (Ze GE1006)); (case aF => exact (fun _ _ => trivial)); (case aO => exact (Zcr HO_5)); (case aS => exact (below_size (Ze GE1006))); (case aL => have := LMc5.out; omega); intro v1011 w9 ho hb hg hat; rw [← Ny1010.out] at ho; replace BK1006 := am_ (blk_grown (g := gb1006) (b0Z BK1006) hg (Kd.S_ne HO_5.out BK1006.out (by decide))); replace HB := am_ (hb); replace HO1012 := am_ (ho); clear HO_5 HO1009; clear ho hb hg hat))
     go_roundg k1
     case measure => have := HK1.out; omega
     case rel => exact ⟨(y1010), (wrap64 (x6_1 + 1)), Za, H', ⟨Zi⟩, ⟨(Zcq HO1012)⟩, ⟨(Zd BK1006)⟩, ⟨(Ze GE1006)⟩⟩
    ·rw [if_neg c5] at H
     exact absurd H (by simp)
   ·rw [if_neg c4] at H
    have c4b0 := decide_eq_false c4; clear c4; obtain rfl := Option.some.inj H; refine ci9 BK1006 ?_; intros
    go_wp2
    go_ret
    exact ⟨_, Zj, (Zcq HO_5), (Ze GE1006)⟩
def impl_windowsOfCue.f (k : Nat) (l0_0 : List (S104)) (l0_1 : List (S62)) (l0_2 : List (S39)) (a1_0 : Int) (a1_1 : Int) (a1_2 : ByteArray) (a1_3 : Int) : Option ((List (List Int))) := (impl_articleFor.f k l0_0 l0_1 l0_2 a1_0 a1_1 a1_2 a1_3).bind fun bt1015 => ((impl_firedAt.f k l0_0 l0_1 l0_2 a1_0 a1_1 a1_2 a1_3).bind fun t1024 => ((impl_shotWindows.f k bt1015.1 bt1015.2.1 bt1015.2.2.1 bt1015.2.2.2.1 bt1015.2.2.2.2.1 bt1015.2.2.2.2.2.1 bt1015.2.2.2.2.2.2.1 bt1015.2.2.2.2.2.2.2.1 bt1015.2.2.2.2.2.2.2.2 t1024).bind fun t1025 => (some t1025)))
def impl_windowsOfCue.T1 : Bool × List (List Nat × List Nat) := (true, [([], []), ([], []), ([0, 1], [0, 1]), ([], []), ([], []), ([3, 4, 2], [3, 4]), ([2, 5, 5], [2, 5]), ([6, 6, 0, 1, 2, 3, 4, 5, 6], [6])])
def impl_windowsOfCue.B1 : List Nat := [0, 0, 3, 0, 0, 31, 63, 127]
theorem impl_windowsOfCue.tab1 : rtab .any (opsOf Try.f75 1) = impl_windowsOfCue.T1 := by kernel_rfl
theorem impl_windowsOfCue.bits1 : waitsOk impl_windowsOfCue.T1.2 impl_windowsOfCue.B1 = true := by kernel_rfl
set_option maxHeartbeats 8000000 in
set_option maxRecDepth 100000 in
theorem impl_windowsOfCue.calls (k : Nat) (A0_0 : Option Addr) (c0_0 : Nat) (l0_0 : List (S104)) (A0_1 : Option Addr) (c0_1 : Nat) (l0_1 : List (S62)) (A0_2 : Option Addr) (c0_2 : Nat) (l0_2 : List (S39)) (a1_0 : Int) (a1_1 : Int) (a1_2 : ByteArray) (a1_3 : Int) (r : List (List Int)) (w : World) (hr0_0 : Kd.C k104 w A0_0 l0_0.length l0_0) (hc0_0 : l0_0.length ≤ c0_0) (hr0_1 : Kd.C k62 w A0_1 l0_1.length l0_1) (hc0_1 : l0_1.length ≤ c0_1) (hr0_2 : Kd.C k39 w A0_2 l0_2.length l0_2) (hc0_2 : l0_2.length ≤ c0_2) (h : impl_windowsOfCue.f k l0_0 l0_1 l0_2 a1_0 a1_1 a1_2 a1_3 = some r) :
  Calls Try.prog 75 #[.agg #[.slice A0_0 l0_0.length c0_0, .slice A0_1 l0_1.length c0_1, .slice A0_2 l0_2.length c0_2], .agg #[.int .i64 a1_0, .int .i64 a1_1, .string a1_2, .int .i64 a1_3]] w fun e w' => ∃ v0_ : Value, e = .returned (v0_) ∧ Kd.S (Kd.slice 2 (Kd.int .i64)) 33 w' w.heap.size (fun _ => True) v0_ r ∧ Below w.heap.size w w' := by
 have hu28 := Try.underlying28; have hu39 := Try.underlying39; have HR0_0 := am_ hr0_0; have HC0_0 := am_ hc0_0; clear hr0_0 hc0_0; have HR0_1 := am_ hr0_1; have HC0_1 := am_ hc0_1; clear hr0_1 hc0_1; have HR0_2 := am_ hr0_2; have HC0_2 := am_ hc0_2; clear hr0_2 hc0_2; have HB := am_ (Below.refl w.heap.size w); have H : ((impl_articleFor.f k l0_0 l0_1 l0_2 a1_0 a1_1 a1_2 a1_3).bind fun bt1015 => ((impl_firedAt.f k l0_0 l0_1 l0_2 a1_0 a1_1 a1_2 a1_3).bind fun t1024 => ((impl_shotWindows.f k bt1015.1 bt1015.2.1 bt1015.2.2.1 bt1015.2.2.2.1 bt1015.2.2.2.2.1 bt1015.2.2.2.2.2.1 bt1015.2.2.2.2.2.2.1 bt1015.2.2.2.2.2.2.2.1 bt1015.2.2.2.2.2.2.2.2 t1024).bind fun t1025 => (some t1025)))) = some r := h; clear h; replace H := Option.bind_eq_some_iff.mp H; obtain ⟨⟨t1015, t1016, t1017, t1018, t1019, t1020, t1021, t1022, t1023⟩, A30, H⟩ := H; replace H : ((impl_firedAt.f k l0_0 l0_1 l0_2 a1_0 a1_1 a1_2 a1_3).bind fun t1024 => ((impl_shotWindows.f k t1015 t1016 t1017 t1018 t1019 t1020 t1021 t1022 t1023 t1024).bind fun t1025 => (some t1025))) = some r := H; have A3 := am_ A30; clear A30; replace H := Option.bind_eq_some_iff.mp H; obtain ⟨t1024, A40, H⟩ := H; have A4 := am_ A40; clear A40; replace H := Option.bind_eq_some_iff.mp H; obtain ⟨t1025, A50, H⟩ := H; have A5 := am_ A50; clear A50; obtain rfl := Option.some.inj H
 go_enter Try.func75, Try.ntmps75
 try go_wp2_with (first | ((with_reducible refine gate_dst (N := 2) rfl ?_); refine boxZ 2 #[.slice A0_0 l0_0.length c0_0, .slice A0_1 l0_1.length c0_1, .slice A0_2 l0_2.length c0_2] 28 ?_; intro gb1013 hg w6 hbox hb; replace BK1013 := am_ (hbox); replace GW1013 := am_ ((Zp : w.heap.size ≤ gb1013)); replace GE1013 := GW1013; replace HB := (bsZ Zc hb); clear hb hbox hg) | ((with_reducible refine gate_dst (N := 3) rfl ?_); refine boxZ 3 #[.int .i64 a1_0, .int .i64 a1_1, .string a1_2, .int .i64 a1_3] 39 ?_; intro gb1014 hg w7 hbox hb; replace BK1014 := am_ (hbox); replace GW1014 := am_ (((Zr GE1013) : w.heap.size ≤ gb1014)); replace GE1014 := GW1014; replace HB := (bsZ (Ze GE1013) hb); replace NB1013_1014 := am_ ((by rw [hg]; exact Nat.ne_of_lt (blk_lt (g := gb1013) (b0Z BK1013)) : gb1013 ≠ gb1014)); replace NB1014_1013 := am_ ((by rw [hg]; exact Nat.ne_of_gt (blk_lt (g := gb1013) (b0Z BK1013)) : gb1014 ≠ gb1013)); replace BK1013 := (bkZ BK1013 hb); clear hb hbox hg))
 replace BK1013 := am_ (blk_drew BK1013.out); replace BK1014 := am_ (blk_drew BK1014.out); replace HB := am_ (below_drew1 HB.out); refine start_ (n := 8) (S := fun w' => w'.cell? ⟨gb1013, 0, none⟩ = some (.slice A0_0 l0_0.length c0_0) ∧ w'.cell? ⟨gb1013, 1, none⟩ = some (.slice A0_1 l0_1.length c0_1) ∧ w'.cell? ⟨gb1013, 2, none⟩ = some (.slice A0_2 l0_2.length c0_2) ∧ w'.cell? ⟨gb1014, 0, none⟩ = some (.int .i64 a1_0) ∧ w'.cell? ⟨gb1014, 1, none⟩ = some (.int .i64 a1_1) ∧ w'.cell? ⟨gb1014, 2, none⟩ = some (.string a1_2) ∧ w'.cell? ⟨gb1014, 3, none⟩ = some (.int .i64 a1_3)) (ds := []) (bT 8 0) Zh rfl rfl ⟨(blk_cell BK1013.out 0).trans rfl, (blk_cell BK1013.out 1).trans rfl, (blk_cell BK1013.out 2).trans rfl, (blk_cell BK1014.out 0).trans rfl, (blk_cell BK1014.out 1).trans rfl, (blk_cell BK1014.out 2).trans rfl, (blk_cell BK1014.out 3).trans rfl⟩ (fun hHeld => ?_); refine with_tabW impl_windowsOfCue.tab1 impl_windowsOfCue.bits1 (fun HT_ HW_ => ?_); generalize w7.drew = w8 at BK1013 BK1014 HB hHeld ⊢; refine takeZ7 HT_ HW_ 0 (some 5) (bT 8 1) hHeld ?_; refine takeZ7 HT_ HW_ 1 (some 6) (bT 8 2) hHeld ?_; refine takeZ7 HT_ HW_ 3 (some 8) (bB 8 11) hHeld ?_; refine takeZ7 HT_ HW_ 4 (some 9) (bB 8 27) hHeld ?_; refine one_ (i := 2) (N := some 7) (bT 8 5) rfl rfl (one_of HT_.out Zh) (by decide) (fun K hK => ?_); refine goes_ Try.func80 Zh rfl #[.agg #[.slice A0_0 l0_0.length c0_0, .slice A0_1 l0_1.length c0_1, .slice A0_2 l0_2.length c0_2], .agg #[.int .i64 a1_0, .int .i64 a1_1, .string a1_2, .int .i64 a1_3]] (by rfl) rfl rfl Zq ?_
 with_reducible refine (impl_articleFor.calls k _ _ l0_0 _ _ l0_1 _ _ l0_2 a1_0 a1_1 a1_2 a1_3 t1015 t1016 t1017 t1018 t1019 t1020 t1021 t1022 t1023 _ ?side1 ?side2 ?side3 ?side4 ?side5 ?side6 A3.out).mono ?_
 (case side1 => exact (Zs HR0_0))
 (case side2 => exact HC0_0.out)
 (case side3 => exact (Zs HR0_1))
 (case side4 => exact HC0_1.out)
 (case side5 => exact (Zs HR0_2))
 (case side6 => exact HC0_2.out)
 rintro e w9 ⟨rfl, hb⟩; refine ⟨_, rfl, ?_⟩; replace BK1013 := (bkZ BK1013 hb); replace BK1014 := (bkZ BK1014 hb); replace HB := (bsZ (Zu GE1013 GE1014) hb)
 (try clear hb)
 (try clear hb2)
 (try clear hk)
 (try clear hi)
 refine hK.out _ _ (Zah BK1013 BK1014) (fun hHeld => ?_); clear hK K; refine normZ 7 ?_; refine one_ (i := 5) (N := some 10) (bT 8 6) rfl rfl (one_of HT_.out Zh) (by decide) (fun K hK => ?_); refine goes_ Try.func70 Zh rfl #[.agg #[.slice A0_0 l0_0.length c0_0, .slice A0_1 l0_1.length c0_1, .slice A0_2 l0_2.length c0_2], .agg #[.int .i64 a1_0, .int .i64 a1_1, .string a1_2, .int .i64 a1_3]] (by rfl) rfl rfl Zq ?_
 with_reducible refine (impl_firedAt.calls k _ _ l0_0 _ _ l0_1 _ _ l0_2 a1_0 a1_1 a1_2 a1_3 t1024 _ ?side1 ?side2 ?side3 ?side4 ?side5 ?side6 A4.out).mono ?_
 (case side1 => exact (Zs HR0_0))
 (case side2 => exact HC0_0.out)
 (case side3 => exact (Zs HR0_1))
 (case side4 => exact HC0_1.out)
 (case side5 => exact (Zs HR0_2))
 (case side6 => exact HC0_2.out)
 rintro e w10 ⟨rfl, hb⟩; refine ⟨_, rfl, ?_⟩; replace BK1013 := (bkZ BK1013 hb); replace BK1014 := (bkZ BK1014 hb); replace HB := (bsZ (Zu GE1013 GE1014) hb)
 (try clear hb)
 (try clear hb2)
 (try clear hk)
 (try clear hi)
 refine hK.out _ _ (Zah BK1013 BK1014) (fun hHeld => ?_); clear hK K; refine normZ 10 ?_; refine one_ (i := 6) (N := some 11) (bT 8 7) rfl rfl (one_of HT_.out Zh) (by decide) (fun K hK => ?_); refine goes_ Try.func92 Zh rfl #[.agg #[.string t1015, .int .i64 t1016, .int .i64 t1017, .int .i64 t1018, .int .i64 t1019, .int .i64 t1020, .int .i64 t1021, .int .i64 t1022, .int .i64 t1023], .int .i64 t1024] (by rfl) rfl rfl Zq ?_
 with_reducible refine (impl_shotWindows.calls k t1015 t1016 t1017 t1018 t1019 t1020 t1021 t1022 t1023 t1024 t1025 _ A5.out).mono ?_
 rintro e w11 ⟨v1026, rfl, ho0, hb⟩; refine ⟨_, rfl, ?_⟩; replace HO1027 := am_ (Kd.S_lower ho0 (below_size (Zu GE1013 GE1014))); replace BK1013 := (bkZ BK1013 hb); replace BK1014 := (bkZ BK1014 hb); replace HB := (bsZ (Zu GE1013 GE1014) hb)
 (try clear hb)
 (try clear hb2)
 (try clear hk)
 (try clear hi)
 (try clear ho0)
 refine hK.out _ _ (Zah BK1013 BK1014) (fun hHeld => ?_); clear hK K; refine normZ 11 ?_; refine pureZ HT_ 7 (some 4) (bT 8 8) ?_; refine done_ (done_of HT_.out Zh) ?_
 try go_wp2
 go_ret
 exact ⟨_, Zj, (Zcq HO1027), (Zu GE1013 GE1014)⟩
def impl_surelyBefore.f (k : Nat) (l0_0 : List (S104)) (l0_1 : List (S62)) (l0_2 : List (S39)) (a1 : Int) (a2 : Int) : Option (Bool) := if 0 ≤ a1 then (if a1 < (l0_2.length : Int) then ((impl_windowsOfCue.f k l0_0 l0_1 l0_2 ((rd_T39 l0_2 a1).f0) ((rd_T39 l0_2 a1).f1) ((rd_T39 l0_2 a1).f2) ((rd_T39 l0_2 a1).f3)).bind fun t1030 => (if 0 ≤ a2 then (if a2 < (l0_2.length : Int) then ((impl_windowsOfCue.f k l0_0 l0_1 l0_2 ((rd_T39 l0_2 a2).f0) ((rd_T39 l0_2 a2).f1) ((rd_T39 l0_2 a2).f2) ((rd_T39 l0_2 a2).f3)).bind fun t1034 => (if 0 ≤ (wrap64 ((t1030.length : Int) - 1)) then (if (wrap64 ((t1030.length : Int) - 1)) < (t1030.length : Int) then (if 1 < ((rd_L6 t1030 (wrap64 ((t1030.length : Int) - 1))).length : Int) then (if 0 < (t1034.length : Int) then (if 0 < ((rd_L6 t1034 0).length : Int) then (some (decide ((rd (rd_L6 t1030 (wrap64 ((t1030.length : Int) - 1))) 1) < (rd (rd_L6 t1034 0) 0)))) else (none)) else (none)) else (none)) else (none)) else (none))) else (none)) else (none))) else (none)) else (none)
def impl_surelyBefore.T1 : Bool × List (List Nat × List Nat) := (true, [([], []), ([], []), ([1], [1]), ([], []), ([2, 3], [2, 3]), ([4], [4]), ([0, 5], [0, 5]), ([], []), ([], []), ([8], [8]), ([], []), ([9, 10], [9, 10]), ([11], [11]), ([7, 12, 6], [7, 12]), ([6, 13, 0, 1, 2, 3, 4, 5, 6], [6]), ([13, 14, 0, 1, 2, 3, 4, 5, 6, 7, 8, 9, 10, 11, 12, 13, 14], [13])])
def impl_surelyBefore.B1 : List Nat := [0, 0, 2, 0, 14, 30, 63, 0, 0, 256, 0, 1792, 3840, 8191, 16383, 32767]
theorem impl_surelyBefore.tab1 : rtab .any (opsOf Try.f72 1) = impl_surelyBefore.T1 := by kernel_rfl
theorem impl_surelyBefore.bits1 : waitsOk impl_surelyBefore.T1.2 impl_surelyBefore.B1 = true := by kernel_rfl
def impl_surelyBefore.T2 : Bool × List (List Nat × List Nat) := (true, [([], []), ([], []), ([1], [1]), ([2], [2]), ([0, 3], [0, 3]), ([4], [4]), ([5], [5]), ([6], [6]), ([], []), ([8], [8]), ([9], [9]), ([10], [10]), ([11], [11]), ([7, 12], [7, 12]), ([13, 0, 1, 2, 3, 4, 5, 6, 7, 8, 9, 10, 11, 12, 13], [13])])
def impl_surelyBefore.B2 : List Nat := [0, 0, 2, 6, 15, 31, 63, 127, 0, 256, 768, 1792, 3840, 8191, 16383]
theorem impl_surelyBefore.tab2 : rtab .any (opsOf Try.f72 2) = impl_surelyBefore.T2 := by kernel_rfl
theorem impl_surelyBefore.bits2 : waitsOk impl_surelyBefore.T2.2 impl_surelyBefore.B2 = true := by kernel_rfl
set_option maxHeartbeats 8000000 in
set_option maxRecDepth 100000 in
theorem impl_surelyBefore.calls (k : Nat) (A0_0 : Option Addr) (c0_0 : Nat) (l0_0 : List (S104)) (A0_1 : Option Addr) (c0_1 : Nat) (l0_1 : List (S62)) (A0_2 : Option Addr) (c0_2 : Nat) (l0_2 : List (S39)) (a1 : Int) (a2 : Int) (r : Bool) (w : World) (hr0_0 : Kd.C k104 w A0_0 l0_0.length l0_0) (hc0_0 : l0_0.length ≤ c0_0) (hr0_1 : Kd.C k62 w A0_1 l0_1.length l0_1) (hc0_1 : l0_1.length ≤ c0_1) (hr0_2 : Kd.C k39 w A0_2 l0_2.length l0_2) (hc0_2 : l0_2.length ≤ c0_2) (h : impl_surelyBefore.f k l0_0 l0_1 l0_2 a1 a2 = some r) :
  Calls Try.prog 72 #[.agg #[.slice A0_0 l0_0.length c0_0, .slice A0_1 l0_1.length c0_1, .slice A0_2 l0_2.length c0_2], .int .i64 a1, .int .i64 a2] w fun e w' => e = .returned (.bool r) ∧ Below w.heap.size w w' := by
 have hu28 := Try.underlying28; have hu39 := Try.underlying39; have HR0_0 := am_ hr0_0; have HC0_0 := am_ hc0_0; clear hr0_0 hc0_0; have HR0_1 := am_ hr0_1; have HC0_1 := am_ hc0_1; clear hr0_1 hc0_1; have HR0_2 := am_ hr0_2; have HC0_2 := am_ hc0_2; clear hr0_2 hc0_2; have HB := am_ (Below.refl w.heap.size w); have H : (if 0 ≤ a1 then (if a1 < (l0_2.length : Int) then ((impl_windowsOfCue.f k l0_0 l0_1 l0_2 ((rd_T39 l0_2 a1).f0) ((rd_T39 l0_2 a1).f1) ((rd_T39 l0_2 a1).f2) ((rd_T39 l0_2 a1).f3)).bind fun t1030 => (if 0 ≤ a2 then (if a2 < (l0_2.length : Int) then ((impl_windowsOfCue.f k l0_0 l0_1 l0_2 ((rd_T39 l0_2 a2).f0) ((rd_T39 l0_2 a2).f1) ((rd_T39 l0_2 a2).f2) ((rd_T39 l0_2 a2).f3)).bind fun t1034 => (if 0 ≤ (wrap64 ((t1030.length : Int) - 1)) then (if (wrap64 ((t1030.length : Int) - 1)) < (t1030.length : Int) then (if 1 < ((rd_L6 t1030 (wrap64 ((t1030.length : Int) - 1))).length : Int) then (if 0 < (t1034.length : Int) then (if 0 < ((rd_L6 t1034 0).length : Int) then (some (decide ((rd (rd_L6 t1030 (wrap64 ((t1030.length : Int) - 1))) 1) < (rd (rd_L6 t1034 0) 0)))) else (none)) else (none)) else (none)) else (none)) else (none))) else (none)) else (none))) else (none)) else (none)) = some r := h; clear h
 by_cases c4 : 0 ≤ a1
 ·rw [if_pos c4] at H
  have c4b0 := decide_eq_true c4; clear c4
  by_cases c5 : a1 < (l0_2.length : Int)
  ·rw [if_pos c5] at H
   have c5b0 := decide_eq_true c5; clear c5; replace H := Option.bind_eq_some_iff.mp H; obtain ⟨t1030, A60, H⟩ := H; have A6 := am_ A60; clear A60
   by_cases c7 : 0 ≤ a2
   ·rw [if_pos c7] at H
    have c7b0 := decide_eq_true c7; clear c7
    by_cases c8 : a2 < (l0_2.length : Int)
    ·rw [if_pos c8] at H
     have c8b0 := decide_eq_true c8; clear c8; replace H := Option.bind_eq_some_iff.mp H; obtain ⟨t1034, A90, H⟩ := H; have A9 := am_ A90; clear A90; obtain ⟨ji10, hji10⟩ : ∃ j_ : Int, (wrap64 ((t1030.length : Int) - 1)) = j_ := ⟨_, rfl⟩
     replace H : (if 0 ≤ (ji10) then (if (ji10) < (t1030.length : Int) then (if 1 < ((rd_L6 t1030 (ji10)).length : Int) then (if 0 < (t1034.length : Int) then (if 0 < ((rd_L6 t1034 0).length : Int) then (some (decide ((rd (rd_L6 t1030 (ji10)) 1) < (rd (rd_L6 t1034 0) 0)))) else (none)) else (none)) else (none)) else (none)) else (none)) = some r := by first | (rw [hji10] at H; exact H) | (simp only [hji10] at H ⊢; exact H)
     (try rw [hji10] at A6)
     (try rw [hji10] at A9)
     have hji10w : (IntKind.i64.wrap ((t1030.length : Int) - 1)) = ji10 := (i64_w _).trans hji10
     by_cases c11 : 0 ≤ (ji10)
     ·rw [if_pos c11] at H
      have c11b0 := decide_eq_true c11; clear c11
      by_cases c12 : (ji10) < (t1030.length : Int)
      ·rw [if_pos c12] at H
       have c12b0 := decide_eq_true c12; clear c12
       by_cases c13 : 1 < ((rd_L6 t1030 (ji10)).length : Int)
       ·rw [if_pos c13] at H
        have c13b0 := decide_eq_true c13; have c13b1 : decide (1 < (rd_L6 t1030 (ji10)).length) = true := decide_eq_true (by omega); clear c13
        by_cases c14 : 0 < (t1034.length : Int)
        ·rw [if_pos c14] at H
         have c14b0 := decide_eq_true c14; have c14b1 : decide (0 < t1034.length) = true := decide_eq_true (by omega); clear c14
         by_cases c15 : 0 < ((rd_L6 t1034 0).length : Int)
         ·rw [if_pos c15] at H
          have c15b0 := decide_eq_true c15; have c15b1 : decide (0 < (rd_L6 t1034 0).length) = true := decide_eq_true (by omega); clear c15; obtain rfl := Option.some.inj H
          go_enter Try.func72, Try.ntmps72
          try go_wp2_with (first | ((with_reducible refine gate_dst (N := 3) rfl ?_); refine boxZ 3 #[.slice A0_0 l0_0.length c0_0, .slice A0_1 l0_1.length c0_1, .slice A0_2 l0_2.length c0_2] 28 ?_; intro gb1028 hg w16 hbox hb; replace BK1028 := am_ (hbox); replace GW1028 := am_ ((Zp : w.heap.size ≤ gb1028)); replace GE1028 := GW1028; replace HB := (bsZ Zc hb); clear hb hbox hg))
          replace BK1028 := am_ (blk_drew BK1028.out); replace HB := am_ (below_drew1 HB.out); have p1029 : 0 ≤ (a1 : Int) := of_decide_eq_true Zg; have q1029 : a1 < (l0_2.length : Int) := of_decide_eq_true Zg; obtain ⟨ad1029, e1029, hx1029_0, hx1029_1, hx1029_2, hx1029_3⟩ := at_T39 HR0_2.out a1 p1029 q1029; have hw1029_3 := hx1029_3; have hw1029_2 := hx1029_2; have hw1029_1 := hx1029_1; have hw1029_0 := hx1029_0
          cases e1029
          replace hx1029_0 := cbH HB hx1029_0; replace hx1029_1 := cbH HB hx1029_1; replace hx1029_2 := cbH HB hx1029_2; replace hx1029_3 := cbH HB hx1029_3; replace p1029 := eq_true p1029; replace q1029 := eq_true q1029; have p1033 : 0 ≤ (a2 : Int) := of_decide_eq_true Zg; have q1033 : a2 < (l0_2.length : Int) := of_decide_eq_true Zg; obtain ⟨ad1033, e1033, hx1033_0, hx1033_1, hx1033_2, hx1033_3⟩ := at_T39 HR0_2.out a2 p1033 q1033; have hw1033_3 := hx1033_3; have hw1033_2 := hx1033_2; have hw1033_1 := hx1033_1; have hw1033_0 := hx1033_0; obtain rfl : ad1029 = ad1033 := (by injection e1033); replace hx1033_0 := cbH HB hx1033_0; replace hx1033_1 := cbH HB hx1033_1; replace hx1033_2 := cbH HB hx1033_2; replace hx1033_3 := cbH HB hx1033_3; replace p1033 := eq_true p1033; replace q1033 := eq_true q1033; refine start_ (n := 16) (S := fun w' => w'.cell? ⟨gb1028, 0, none⟩ = some (.slice A0_0 l0_0.length c0_0) ∧ w'.cell? ⟨gb1028, 1, none⟩ = some (.slice A0_1 l0_1.length c0_1) ∧ w'.cell? ⟨gb1028, 2, none⟩ = some (.slice (some ad1029) l0_2.length c0_2) ∧ w'.cell? (ad1029.add ((a1).toNat * 4)) = some (.int .i64 ((rd_T39 l0_2 a1).f0)) ∧ w'.cell? ⟨(ad1029.add ((a1).toNat * 4)).block, (ad1029.add ((a1).toNat * 4)).off + 1, none⟩ = some (.int .i64 ((rd_T39 l0_2 a1).f1)) ∧ w'.cell? ⟨(ad1029.add ((a1).toNat * 4)).block, (ad1029.add ((a1).toNat * 4)).off + 2, none⟩ = some (.string ((rd_T39 l0_2 a1).f2)) ∧ w'.cell? ⟨(ad1029.add ((a1).toNat * 4)).block, (ad1029.add ((a1).toNat * 4)).off + 3, none⟩ = some (.int .i64 ((rd_T39 l0_2 a1).f3)) ∧ w'.cell? (ad1029.add ((a2).toNat * 4)) = some (.int .i64 ((rd_T39 l0_2 a2).f0)) ∧ w'.cell? ⟨(ad1029.add ((a2).toNat * 4)).block, (ad1029.add ((a2).toNat * 4)).off + 1, none⟩ = some (.int .i64 ((rd_T39 l0_2 a2).f1)) ∧ w'.cell? ⟨(ad1029.add ((a2).toNat * 4)).block, (ad1029.add ((a2).toNat * 4)).off + 2, none⟩ = some (.string ((rd_T39 l0_2 a2).f2)) ∧ w'.cell? ⟨(ad1029.add ((a2).toNat * 4)).block, (ad1029.add ((a2).toNat * 4)).off + 3, none⟩ = some (.int .i64 ((rd_T39 l0_2 a2).f3))) (ds := []) (bT 16 0) Zh rfl rfl ⟨(blk_cell BK1028.out 0).trans rfl, (blk_cell BK1028.out 1).trans rfl, (blk_cell BK1028.out 2).trans rfl, (cbH HB hw1029_0 :), (cbH HB hw1029_1 :), (cbH HB hw1029_2 :), (cbH HB hw1029_3 :), (cbH HB hw1033_0 :), (cbH HB hw1033_1 :), (cbH HB hw1033_2 :), (cbH HB hw1033_3 :)⟩ (fun hHeld => ?_); refine with_tabW impl_surelyBefore.tab1 impl_surelyBefore.bits1 (fun HT_ HW_ => ?_); generalize w16.drew = w17 at BK1028 HB hx1029_0 hx1029_1 hx1029_2 hx1029_3 hx1033_0 hx1033_1 hx1033_2 hx1033_3 hHeld ⊢; refine pureZ HT_ 1 (some 10) (bB 16 2) ?_; refine pureZ HT_ 3 (some 12) (bB 16 10) ?_; refine pureZ HT_ 8 (some 17) (bB 16 266) ?_; refine pureZ HT_ 10 (some 19) (bB 16 1290) ?_; refine takeZ11 HT_ HW_ 0 (some 9) (bB 16 1291) hHeld ?_; refine takeZ11 HT_ HW_ 2 (some 11) (bB 16 1295) hHeld ?_; refine pureZ HT_ 4 (some 13) (bB 16 1311) ?_; refine takeZ11 HT_ HW_ 5 (some 14) (bB 16 1343) hHeld ?_; refine takeZ11 HT_ HW_ 7 (some 16) (bB 16 1471) hHeld ?_
          refine takeZ11 HT_ HW_ 9 (some 18) (bB 16 1983) hHeld ?_; refine pureZ HT_ 11 (some 20) (bB 16 4031) ?_; refine takeZ11 HT_ HW_ 12 (some 21) (bB 16 8127) hHeld ?_; refine one_ (i := 6) (N := some 15) (bT 16 13) rfl rfl (one_of HT_.out Zh) (by decide) (fun K hK => ?_); refine goes_ Try.func75 Zh rfl #[.agg #[.slice A0_0 l0_0.length c0_0, .slice A0_1 l0_1.length c0_1, .slice (some ad1029) l0_2.length c0_2], .agg #[.int .i64 ((rd_T39 l0_2 a1).f0), .int .i64 ((rd_T39 l0_2 a1).f1), .string ((rd_T39 l0_2 a1).f2), .int .i64 ((rd_T39 l0_2 a1).f3)]] (by rfl) rfl rfl Zq ?_
          with_reducible refine (impl_windowsOfCue.calls k _ _ l0_0 _ _ l0_1 _ _ l0_2 ((rd_T39 l0_2 a1).f0) ((rd_T39 l0_2 a1).f1) ((rd_T39 l0_2 a1).f2) ((rd_T39 l0_2 a1).f3) t1030 _ ?side1 ?side2 ?side3 ?side4 ?side5 ?side6 A6.out).mono ?_
          (case side1 => exact (Zs HR0_0))
          (case side2 => exact HC0_0.out)
          (case side3 => exact (Zs HR0_1))
          (case side4 => exact HC0_1.out)
          (case side5 => exact (Zs HR0_2))
          (case side6 => exact HC0_2.out)
          rintro e w18 ⟨v1031, rfl, ho0, hb⟩; refine ⟨_, rfl, ?_⟩; replace HO1032 := am_ (Kd.S_lower ho0 (below_size (Ze GE1028))); replace BK1028 := (bkZ BK1028 hb); replace HB := (bsZ (Ze GE1028) hb)
          (try clear hb)
          (try clear hb2)
          (try clear hk)
          (try clear hi)
          (try clear ho0)
          refine hK.out _ _ (by exact ⟨(blk_cell BK1028.out 0).trans rfl, (blk_cell BK1028.out 1).trans rfl, (blk_cell BK1028.out 2).trans rfl, (cbH HB hw1029_0 :), (cbH HB hw1029_1 :), (cbH HB hw1029_2 :), (cbH HB hw1029_3 :), (cbH HB hw1033_0 :), (cbH HB hw1033_1 :), (cbH HB hw1033_2 :), (cbH HB hw1033_3 :)⟩) (fun hHeld => ?_); clear hK K; refine normZ 15 ?_; refine one_ (i := 13) (N := some 22) (bT 16 14) rfl rfl (one_of HT_.out Zh) (by decide) (fun K hK => ?_); refine goes_ Try.func75 Zh rfl #[.agg #[.slice A0_0 l0_0.length c0_0, .slice A0_1 l0_1.length c0_1, .slice (some ad1029) l0_2.length c0_2], .agg #[.int .i64 ((rd_T39 l0_2 a2).f0), .int .i64 ((rd_T39 l0_2 a2).f1), .string ((rd_T39 l0_2 a2).f2), .int .i64 ((rd_T39 l0_2 a2).f3)]] (by rfl) rfl rfl Zq ?_
          with_reducible refine (impl_windowsOfCue.calls k _ _ l0_0 _ _ l0_1 _ _ l0_2 ((rd_T39 l0_2 a2).f0) ((rd_T39 l0_2 a2).f1) ((rd_T39 l0_2 a2).f2) ((rd_T39 l0_2 a2).f3) t1034 _ ?side1 ?side2 ?side3 ?side4 ?side5 ?side6 A9.out).mono ?_
          (case side1 => exact (Zs HR0_0))
          (case side2 => exact HC0_0.out)
          (case side3 => exact (Zs HR0_1))
          (case side4 => exact HC0_1.out)
          (case side5 => exact (Zs HR0_2))
          (case side6 => exact HC0_2.out)
          rintro e w19 ⟨v1035, rfl, ho0, hb⟩; refine ⟨_, rfl, ?_⟩; replace HO1036 := am_ (Kd.S_lower (Kd.S_new' ho0 (Kd.S_lt (Zcq HO1032))) (below_size (Ze GE1028))); replace HO1032 := am_ (Kd.S_elder' (Zcq HO1032) (Kd.S_base ho0) hb); replace BK1028 := (bkZ BK1028 hb); replace HB := (bsZ (Ze GE1028) hb)
          (try clear hb)
          (try clear hb2)
          (try clear hk)
          (try clear hi)
          (try clear ho0)
          refine hK.out _ _ (by exact ⟨(blk_cell BK1028.out 0).trans rfl, (blk_cell BK1028.out 1).trans rfl, (blk_cell BK1028.out 2).trans rfl, (cbH HB hw1029_0 :), (cbH HB hw1029_1 :), (cbH HB hw1029_2 :), (cbH HB hw1029_3 :), (cbH HB hw1033_0 :), (cbH HB hw1033_1 :), (cbH HB hw1033_2 :), (cbH HB hw1033_3 :)⟩) (fun hHeld => ?_); clear hK K; refine normZ 22 ?_; refine pureZ HT_ 14 (some 7) (bT 16 15) ?_; refine pureZ HT_ 15 (some 8) (bT 16 16) ?_; refine done_ (done_of HT_.out Zh) ?_
          try go_wp2
          replace HO1032 := am_ (Kd.S_drew HO1032.out); replace HO1036 := am_ (Kd.S_drew HO1036.out); replace BK1028 := am_ (blk_drew BK1028.out); replace HB := am_ (below_drew1 HB.out); obtain ⟨Ao21, co21, eo21⟩ := Kd.S_slice HO1032.out
          (first | subst eo21 | (injection eo21 with f1_ f2_ f3_; have f4_ := f1_.symm; have f5_ := f3_.symm; clear f1_ f2_ f3_; subst f4_; subst f5_))
          have p1037 : 0 ≤ ((ji10) : Int) := of_decide_eq_true Zg; have q1037 : (ji10) < (t1030.length : Int) := of_decide_eq_true Zg; obtain ⟨ad1037, A1037_0, c1037_0, e1037, hx1037_0, hl1037_0, hi1037_0⟩ := at_L6 (Kd.S_reads' HO1032.out).2.2 (ji10) p1037 q1037
          cases e1037
          obtain ⟨ce1037, hce1037, hMe1037, hcc1037⟩ := Kd.S_get HO1032.out [] (ji10) p1037 (by first | exact q1037 | exact of_decide_eq_true Zg | (have e_ := (Kd.S_reads' HO1032.out).1; omega)); obtain ⟨ve1037_0, rfl, ge1037_0⟩ := hMe1037; have hv1037_0 := hcc1037 0 _ rfl; rw [Nat.add_zero, show ((Kd.slice 2 (Kd.int .i64))).sz = 1 from rfl, Nat.mul_one] at hv1037_0; replace hv1037_0 := Option.some.inj (hv1037_0.symm.trans hx1037_0); rw [hv1037_0] at ge1037_0; have HL1037_0 := am_ (show Kd.R (Kd.int .i64) 2 _ _ _ _ (rd_L6 t1030 (ji10)) from ge1037_0); clear hv1037_0 ge1037_0; clear hcc1037 hce1037; have HR1037_0 := am_ hi1037_0; have HC1037_0 := am_ hl1037_0; clear hi1037_0 hl1037_0; replace p1037 := eq_true p1037; replace q1037 := eq_true q1037; have p1038 : 0 ≤ (1 : Int) := (by omega); have q1038 : 1 < ((rd_L6 t1030 (ji10)).length : Int) := of_decide_eq_true Zg; obtain ⟨ad1038, e1038, hx1038_0⟩ := Kd.at_int (Zcs HR1037_0) 1 p1038 q1038
          cases e1038
          (try simp only [show (1 : Int).toNat = 1 from rfl, Nat.reduceMul, Nat.reduceEqDiff, Go.Addr.add, ↓reduceIte] at hx1038_0)
          have qi1038 : (1 < (rd_L6 t1030 (ji10)).length) = True := eq_true (by omega)
          (try rw [show ((1 : Int)).toNat = 1 from rfl] at hx1038_0)
          replace p1038 := eq_true p1038; replace q1038 := eq_true q1038; obtain ⟨Ao22, co22, eo22⟩ := Kd.S_slice HO1036.out
          (first | subst eo22 | (injection eo22 with f1_ f2_ f3_; have f4_ := f1_.symm; have f5_ := f3_.symm; clear f1_ f2_ f3_; subst f4_; subst f5_))
          have p1039 : 0 ≤ (0 : Int) := (by omega); have q1039 : 0 < (t1034.length : Int) := of_decide_eq_true Zg; obtain ⟨ad1039, A1039_0, c1039_0, e1039, hx1039_0, hl1039_0, hi1039_0⟩ := at_L6 (Kd.S_reads' HO1036.out).2.2 0 p1039 q1039
          cases e1039
          obtain ⟨ce1039, hce1039, hMe1039, hcc1039⟩ := Kd.S_get HO1036.out [] 0 p1039 (by first | exact q1039 | exact of_decide_eq_true Zg | (have e_ := (Kd.S_reads' HO1036.out).1; omega)); obtain ⟨ve1039_0, rfl, ge1039_0⟩ := hMe1039; have hv1039_0 := hcc1039 0 _ rfl; rw [Nat.add_zero, show ((Kd.slice 2 (Kd.int .i64))).sz = 1 from rfl, Nat.mul_one] at hv1039_0; replace hv1039_0 := Option.some.inj (hv1039_0.symm.trans hx1039_0); rw [hv1039_0] at ge1039_0; have HL1039_0 := am_ (show Kd.R (Kd.int .i64) 2 _ _ _ _ (rd_L6 t1034 0) from ge1039_0); clear hv1039_0 ge1039_0; clear hcc1039 hce1039; have qi1039 : (0 < t1034.length) = True := eq_true (by omega)
          (try rw [show ((0 : Int)).toNat = 0 from rfl] at hx1039_0)
          (try rw [Addr.add_zero'] at hx1039_0)
          have HR1039_0 := am_ hi1039_0; have HC1039_0 := am_ hl1039_0; clear hi1039_0 hl1039_0; replace p1039 := eq_true p1039; replace q1039 := eq_true q1039; have p1040 : 0 ≤ (0 : Int) := (by omega); have q1040 : 0 < ((rd_L6 t1034 0).length : Int) := of_decide_eq_true Zg; obtain ⟨ad1040, e1040, hx1040_0⟩ := Kd.at_int (Zcs HR1039_0) 0 p1040 q1040
          cases e1040
          have qi1040 : (0 < (rd_L6 t1034 0).length) = True := eq_true (by omega)
          (try rw [show ((0 : Int)).toNat = 0 from rfl] at hx1040_0)
          (try rw [Addr.add_zero'] at hx1040_0)
          replace p1040 := eq_true p1040; replace q1040 := eq_true q1040; refine start_ (n := 15) (S := fun w' => w'.cell? (ad1037.add ((ji10)).toNat) = some (.slice (some ad1038) (rd_L6 t1030 (ji10)).length c1037_0) ∧ w'.cell? ⟨ad1038.block, ad1038.off + 1, none⟩ = some (.int .i64 (rd (rd_L6 t1030 (ji10)) 1)) ∧ w'.cell? ad1039 = some (.slice (some ad1040) (rd_L6 t1034 0).length c1039_0) ∧ w'.cell? ad1040 = some (.int .i64 (rd (rd_L6 t1034 0) 0))) (ds := []) (bT 15 0) Zh rfl rfl ⟨hx1037_0, hx1038_0, hx1039_0, hx1040_0⟩ (fun hHeld => ?_); refine with_tabW impl_surelyBefore.tab2 impl_surelyBefore.bits2 (fun HT_ HW_ => ?_); generalize w19.drew = w20 at HO1032 HO1036 BK1028 HB HL1037_0 HL1039_0 HR1037_0 HR1039_0 hx1037_0 hx1038_0 hx1039_0 hx1040_0 hHeld ⊢; refine pureZ HT_ 0 (some 23) (bT 15 1) ?_; refine pureZ HT_ 1 (some 24) (bT 15 2) ?_; refine pureZ HT_ 2 (some 25) (bT 15 3) ?_; refine pureZ HT_ 3 (some 26) (bT 15 4) ?_; refine pureZ HT_ 4 (some 27) (bT 15 5) ?_; refine pureZ HT_ 8 (some 31) (bB 15 287) ?_; refine pureZ HT_ 9 (some 32) (bB 15 799) ?_; refine takeZ4 HT_ HW_ 5 (some 28) (bB 15 831) hHeld ?_; refine pureZ HT_ 6 (some 29) (bB 15 895) ?_; refine takeZ4 HT_ HW_ 7 (some 30) (bT 15 10) hHeld ?_; refine takeZ4 HT_ HW_ 10 (some 33) (bT 15 11) hHeld ?_; refine pureZ HT_ 11 (some 34) (bT 15 12) ?_; refine takeZ4 HT_ HW_ 12 (some 35) (bT 15 13) hHeld ?_; refine pureZ HT_ 13 (some 36) (bT 15 14) ?_; refine pureZ HT_ 14 (some 6) (bT 15 15) ?_; refine done_ (done_of HT_.out Zh) ?_
          try go_wp2
          go_ret
          exact ⟨by first | rfl | (simp [errW_none, errW_some] <;> rfl) | (simp only [← hji10]; first | rfl | (simp [errW_none, errW_some] <;> rfl)) | (simp [*, errW_none, errW_some] <;> rfl), (Ze GE1028)⟩
         ·rw [if_neg c15] at H
          exact absurd H (by simp)
        ·rw [if_neg c14] at H
         exact absurd H (by simp)
       ·rw [if_neg c13] at H
        exact absurd H (by simp)
      ·rw [if_neg c12] at H
       exact absurd H (by simp)
     ·rw [if_neg c11] at H
      exact absurd H (by simp)
    ·rw [if_neg c8] at H
     exact absurd H (by simp)
   ·rw [if_neg c7] at H
    exact absurd H (by simp)
  ·rw [if_neg c5] at H
   exact absurd H (by simp)
 ·rw [if_neg c4] at H
  exact absurd H (by simp)
def impl_SurelyBefore.f (k : Nat) (l0_0 : List (S104)) (l0_1 : List (S62)) (l0_2 : List (S39)) (a1 : Int) (a2 : Int) : Option (Bool × Int) := (impl_twoCues.f k l0_0 l0_1 l0_2 a1 a2).bind fun t1042 => (if t1042 = 0 then ((impl_surelyBefore.f k l0_0 l0_1 l0_2 a1 a2).bind fun t1043 => (some (t1043, 0))) else (some (false, t1042)))
set_option maxHeartbeats 8000000 in
set_option maxRecDepth 100000 in
theorem impl_SurelyBefore.calls (k : Nat) (A0_0 : Option Addr) (c0_0 : Nat) (l0_0 : List (S104)) (A0_1 : Option Addr) (c0_1 : Nat) (l0_1 : List (S62)) (A0_2 : Option Addr) (c0_2 : Nat) (l0_2 : List (S39)) (a1 : Int) (a2 : Int) (r1 : Bool) (r2 : Int) (w : World) (hr0_0 : Kd.C k104 w A0_0 l0_0.length l0_0) (hc0_0 : l0_0.length ≤ c0_0) (hr0_1 : Kd.C k62 w A0_1 l0_1.length l0_1) (hc0_1 : l0_1.length ≤ c0_1) (hr0_2 : Kd.C k39 w A0_2 l0_2.length l0_2) (hc0_2 : l0_2.length ≤ c0_2) (h : impl_SurelyBefore.f k l0_0 l0_1 l0_2 a1 a2 = some (r1, r2)) :
  Calls Try.prog 28 #[.agg #[.slice A0_0 l0_0.length c0_0, .slice A0_1 l0_1.length c0_1, .slice A0_2 l0_2.length c0_2], .int .i64 a1, .int .i64 a2] w fun e w' => e = .returned (.tuple #[.bool r1, .int .i64 r2]) ∧ Below w.heap.size w w' := by
 have hu28 := Try.underlying28; have HR0_0 := am_ hr0_0; have HC0_0 := am_ hc0_0; clear hr0_0 hc0_0; have HR0_1 := am_ hr0_1; have HC0_1 := am_ hc0_1; clear hr0_1 hc0_1; have HR0_2 := am_ hr0_2; have HC0_2 := am_ hc0_2; clear hr0_2 hc0_2; have HB := am_ (Below.refl w.heap.size w); have H : ((impl_twoCues.f k l0_0 l0_1 l0_2 a1 a2).bind fun t1042 => (if t1042 = 0 then ((impl_surelyBefore.f k l0_0 l0_1 l0_2 a1 a2).bind fun t1043 => (some (t1043, 0))) else (some (false, t1042)))) = some (r1, r2) := h; clear h; replace H := Option.bind_eq_some_iff.mp H; obtain ⟨t1042, A40, H⟩ := H; have A4 := am_ A40; clear A40; have HS_ := am_ H; clear H
 go_enter Try.func28, Try.ntmps28
 go_wp2_with (first | ((with_reducible refine gate_dst (N := 3) rfl ?_); refine boxZ 3 #[.slice A0_0 l0_0.length c0_0, .slice A0_1 l0_1.length c0_1, .slice A0_2 l0_2.length c0_2] 28 ?_; intro gb1041 hg w7 hbox hb; replace BK1041 := am_ (hbox); replace GW1041 := am_ ((Zp : w.heap.size ≤ gb1041)); replace GE1041 := GW1041; replace HB := (bsZ Zc hb); clear hb hbox hg; refine ci3 BK1041 ?_; intros) | ((with_reducible refine gate_callee (f := 71) rfl ?_); refine gZ 12 Try.func71 #[.agg #[.slice A0_0 l0_0.length c0_0, .slice A0_1 l0_1.length c0_1, .slice A0_2 l0_2.length c0_2], .int .i64 a1, .int .i64 a2] ?_; (with_reducible refine (impl_twoCues.calls k _ _ l0_0 _ _ l0_1 _ _ l0_2 a1 a2 t1042 _ ?_ ?_ ?_ ?_ ?_ ?_ A4.out).mono ?_); exact (Zs HR0_0); exact HC0_0.out; exact (Zs HR0_1); exact HC0_1.out; exact (Zs HR0_2); exact HC0_2.out; rintro e w9 ⟨rfl, hb⟩; refine ⟨_, rfl, ?_⟩; replace BK1041 := (bkZ BK1041 hb); replace HB := (bsZ (Ze GE1041) hb); clear hb; refine ?roundEnd))
 case roundEnd =>
  by_cases c5 : t1042 = 0
  ·have H := HS_.out
   clear HS_; rw [if_pos c5] at H; have c5b0 := beq_iff_eq.mpr c5; have c5b1 := bne_eq_false_iff_eq.mpr c5; clear c5; replace H := Option.bind_eq_some_iff.mp H; obtain ⟨t1043, A60, H⟩ := H; have A6 := am_ A60; clear A60; simp only [Option.some.injEq, Prod.mk.injEq] at H; obtain ⟨rfl, rfl⟩ := H; refine ci3 BK1041 ?_; intros
   go_wp2_with (first | ((with_reducible refine gate_callee (f := 72) rfl ?_); refine gZ 19 Try.func72 #[.agg #[.slice A0_0 l0_0.length c0_0, .slice A0_1 l0_1.length c0_1, .slice A0_2 l0_2.length c0_2], .int .i64 a1, .int .i64 a2] ?_; (with_reducible refine (impl_surelyBefore.calls k _ _ l0_0 _ _ l0_1 _ _ l0_2 a1 a2 t1043 _ ?_ ?_ ?_ ?_ ?_ ?_ A6.out).mono ?_); exact (Zs HR0_0); exact HC0_0.out; exact (Zs HR0_1); exact HC0_1.out; exact (Zs HR0_2); exact HC0_2.out; rintro e w11 ⟨rfl, hb⟩; refine ⟨_, rfl, ?_⟩; replace BK1041 := (bkZ BK1041 hb); replace HB := (bsZ (Ze GE1041) hb); clear hb))
   go_ret2
   exact ⟨Zj, (Ze GE1041)⟩
  ·have H := HS_.out
   clear HS_; rw [if_neg c5] at H; have c5b0 := beq_eq_false_iff_ne.mpr c5; have c5b1 := bne_iff_ne.mpr c5; simp only [Option.some.injEq, Prod.mk.injEq] at H; obtain ⟨rfl, rfl⟩ := H
   go_wp2_with (first | fail)
   go_ret2
   exact ⟨Zj, (Ze GE1041)⟩
def spec_l09Code.f (k : Nat) (l0_0 : List (S104)) (l0_1 : List (S62)) (l0_2 : List (S39)) (a1 : Int) (a2 : Int) : Option (Int) := (spec_IsShow.f k l0_0 l0_1 l0_2).bind fun t1045 => (if t1045 = true then ((spec_l01In.f a1 0 (wrap64 ((l0_2.length : Int) - 1))).bind fun t1046 => (if t1046 = true then ((spec_l01In.f a2 0 (wrap64 ((l0_2.length : Int) - 1))).bind fun t1047 => (if t1047 = true then (some 0) else (some 2))) else (some 2))) else (some 1))
set_option maxHeartbeats 8000000 in
set_option maxRecDepth 100000 in
theorem spec_l09Code.calls (k : Nat) (A0_0 : Option Addr) (c0_0 : Nat) (l0_0 : List (S104)) (A0_1 : Option Addr) (c0_1 : Nat) (l0_1 : List (S62)) (A0_2 : Option Addr) (c0_2 : Nat) (l0_2 : List (S39)) (a1 : Int) (a2 : Int) (r : Int) (w : World) (hr0_0 : Kd.C k104 w A0_0 l0_0.length l0_0) (hc0_0 : l0_0.length ≤ c0_0) (hr0_1 : Kd.C k62 w A0_1 l0_1.length l0_1) (hc0_1 : l0_1.length ≤ c0_1) (hr0_2 : Kd.C k39 w A0_2 l0_2.length l0_2) (hc0_2 : l0_2.length ≤ c0_2) (h : spec_l09Code.f k l0_0 l0_1 l0_2 a1 a2 = some r) :
  Calls Try.prog 73 #[.agg #[.slice A0_0 l0_0.length c0_0, .slice A0_1 l0_1.length c0_1, .slice A0_2 l0_2.length c0_2], .int .i64 a1, .int .i64 a2] w fun e w' => e = .returned (.int .i64 r) ∧ Below w.heap.size w w' := by
 have hu28 := Try.underlying28; have HR0_0 := am_ hr0_0; have HC0_0 := am_ hc0_0; clear hr0_0 hc0_0; have HR0_1 := am_ hr0_1; have HC0_1 := am_ hc0_1; clear hr0_1 hc0_1; have HR0_2 := am_ hr0_2; have HC0_2 := am_ hc0_2; clear hr0_2 hc0_2; have HB := am_ (Below.refl w.heap.size w); have H : ((spec_IsShow.f k l0_0 l0_1 l0_2).bind fun t1045 => (if t1045 = true then ((spec_l01In.f a1 0 (wrap64 ((l0_2.length : Int) - 1))).bind fun t1046 => (if t1046 = true then ((spec_l01In.f a2 0 (wrap64 ((l0_2.length : Int) - 1))).bind fun t1047 => (if t1047 = true then (some 0) else (some 2))) else (some 2))) else (some 1))) = some r := h; clear h; replace H := Option.bind_eq_some_iff.mp H; obtain ⟨t1045, A40, H⟩ := H; have A4 := am_ A40; clear A40; have HS_ := am_ H; clear H
 go_enter Try.func73, Try.ntmps73
 go_wp2_with (first | ((with_reducible refine gate_dst (N := 3) rfl ?_); refine boxZ 3 #[.slice A0_0 l0_0.length c0_0, .slice A0_1 l0_1.length c0_1, .slice A0_2 l0_2.length c0_2] 28 ?_; intro gb1044 hg w10 hbox hb; replace BK1044 := am_ (hbox); replace GW1044 := am_ ((Zp : w.heap.size ≤ gb1044)); replace GE1044 := GW1044; replace HB := (bsZ Zc hb); clear hb hbox hg; refine ci3 BK1044 ?_; intros) | ((with_reducible refine gate_callee (f := 56) rfl ?_); refine gZ 9 Try.func56 #[.agg #[.slice A0_0 l0_0.length c0_0, .slice A0_1 l0_1.length c0_1, .slice A0_2 l0_2.length c0_2]] ?_; (with_reducible refine (spec_IsShow.calls k _ _ l0_0 _ _ l0_1 _ _ l0_2 t1045 _ ?_ ?_ ?_ ?_ ?_ ?_ A4.out).mono ?_); exact (Zs HR0_0); exact HC0_0.out; exact (Zs HR0_1); exact HC0_1.out; exact (Zs HR0_2); exact HC0_2.out; rintro e w12 ⟨rfl, hb⟩; refine ⟨_, rfl, ?_⟩; replace BK1044 := (bkZ BK1044 hb); replace HB := (bsZ (Ze GE1044) hb); clear hb; refine ?roundEnd))
 case roundEnd =>
  by_cases c5 : t1045 = true
  ·have H := HS_.out
   clear HS_; subst c5
   have H1 : ((spec_l01In.f a1 0 (wrap64 ((l0_2.length : Int) - 1))).bind fun t1046 => (if t1046 = true then ((spec_l01In.f a2 0 (wrap64 ((l0_2.length : Int) - 1))).bind fun t1047 => (if t1047 = true then (some 0) else (some 2))) else (some 2))) = some r := by rw [if_pos rfl] at H; exact H
   clear H; have H := H1; clear H1; replace H := Option.bind_eq_some_iff.mp H; obtain ⟨t1046, A60, H⟩ := H; have A6 := am_ A60; clear A60; have HS_ := am_ H; clear H; refine ci3 BK1044 ?_; intros
   go_wp2_with (first | ((with_reducible refine gate_callee (f := 57) rfl ?_); refine gZ 17 Try.func57 #[.int .i64 a1, .int .i64 0, .int .i64 (wrap64 ((l0_2.length : Int) - 1))] ?_; (with_reducible refine (spec_l01In.calls a1 0 (wrap64 ((l0_2.length : Int) - 1)) t1046 _ A6.out).mono ?_); rintro e w' ⟨rfl, ⟨nd, rfl⟩⟩; refine ⟨_, rfl, ?_⟩; refine ?roundEnd))
   case roundEnd =>
    by_cases c7 : t1046 = true
    ·have H := HS_.out
     clear HS_; subst c7
     have H1 : ((spec_l01In.f a2 0 (wrap64 ((l0_2.length : Int) - 1))).bind fun t1047 => (if t1047 = true then (some 0) else (some 2))) = some r := by rw [if_pos rfl] at H; exact H
     clear H; have H := H1; clear H1; replace H := Option.bind_eq_some_iff.mp H; obtain ⟨t1047, A80, H⟩ := H; have A8 := am_ A80; clear A80; have HS_ := am_ H; clear H
     go_wp2_with (first | (go_at_call 57; (with_reducible refine (spec_l01In.calls a2 0 (wrap64 ((l0_2.length : Int) - 1)) t1047 _ A8.out).mono ?_); rintro e w' ⟨rfl, ⟨nd, rfl⟩⟩; refine ?roundEnd))
     case roundEnd =>
      by_cases c9 : t1047 = true
      ·have H := HS_.out
       clear HS_; subst c9
       have H1 : (some 0) = some r := by rw [if_pos rfl] at H; exact H
       clear H; have H := H1; clear H1; obtain rfl := Option.some.inj H
       go_wp2_with (first | fail)
       go_ret
       exact ⟨Zj, (Ze GE1044)⟩
      ·have H := HS_.out
       clear HS_; replace c9 := Bool.eq_false_iff.mpr c9; subst c9
       have H1 : (some 2) = some r := by rw [if_neg (show ¬ (false = true) by decide)] at H; exact H
       clear H; have H := H1; clear H1; obtain rfl := Option.some.inj H
       go_wp2_with (first | fail)
       go_ret
       exact ⟨Zj, (Ze GE1044)⟩
    ·have H := HS_.out
     clear HS_; replace c7 := Bool.eq_false_iff.mpr c7; subst c7
     have H1 : (some 2) = some r := by rw [if_neg (show ¬ (false = true) by decide)] at H; exact H
     clear H; have H := H1; clear H1; obtain rfl := Option.some.inj H
     go_wp2_with (first | fail)
     go_ret
     exact ⟨Zj, (Ze GE1044)⟩
  ·have H := HS_.out
   clear HS_; replace c5 := Bool.eq_false_iff.mpr c5; subst c5
   have H1 : (some 1) = some r := by rw [if_neg (show ¬ (false = true) by decide)] at H; exact H
   clear H; have H := H1; clear H1; obtain rfl := Option.some.inj H
   go_wp2_with (first | fail)
   go_ret
   exact ⟨Zj, (Ze GE1044)⟩
def spec_l03Window.f (a0_0 : ByteArray) (a0_1 : Int) (a0_2 : Int) (a0_3 : Int) (a0_4 : Int) (a0_5 : Int) (a0_6 : Int) (a0_7 : Int) (a0_8 : Int) (a1 : Int) (a2 : Int) : Option (List Int) := some (([wrap64 ((wrap64 ((wrap64 (a1 + a0_3)) + (wrap64 (a2 * a0_6)))) - a0_4), wrap64 ((wrap64 ((wrap64 (a1 + a0_3)) + (wrap64 (a2 * a0_6)))) + a0_4)] : List Int))
set_option maxHeartbeats 8000000 in
set_option maxRecDepth 100000 in
theorem spec_l03Window.calls (a0_0 : ByteArray) (a0_1 : Int) (a0_2 : Int) (a0_3 : Int) (a0_4 : Int) (a0_5 : Int) (a0_6 : Int) (a0_7 : Int) (a0_8 : Int) (a1 : Int) (a2 : Int) (r : List Int) (w : World) (h : spec_l03Window.f a0_0 a0_1 a0_2 a0_3 a0_4 a0_5 a0_6 a0_7 a0_8 a1 a2 = some r) :
  Calls Try.prog 93 #[.agg #[.string a0_0, .int .i64 a0_1, .int .i64 a0_2, .int .i64 a0_3, .int .i64 a0_4, .int .i64 a0_5, .int .i64 a0_6, .int .i64 a0_7, .int .i64 a0_8], .int .i64 a1, .int .i64 a2] w fun e w' => ∃ v0_ : Value, e = .returned (v0_) ∧ Kd.R (Kd.int .i64) 2 w' w.heap.size (fun _ => True) v0_ r ∧ Below w.heap.size w w' := by
 have hu62 := Try.underlying62; have HB := am_ (Below.refl w.heap.size w); have H : (some (([wrap64 ((wrap64 ((wrap64 (a1 + a0_3)) + (wrap64 (a2 * a0_6)))) - a0_4), wrap64 ((wrap64 ((wrap64 (a1 + a0_3)) + (wrap64 (a2 * a0_6)))) + a0_4)] : List Int))) = some r := h; clear h; obtain ⟨y1049, hy1049⟩ : ∃ y_ : List Int, y_ = (([wrap64 ((wrap64 ((wrap64 (a1 + a0_3)) + (wrap64 (a2 * a0_6)))) - a0_4), wrap64 ((wrap64 ((wrap64 (a1 + a0_3)) + (wrap64 (a2 * a0_6)))) + a0_4)] : List Int)) := ⟨_, rfl⟩
 (first | (rw [← hy1049] at H; with_reducible replace H := bindZ H) | rw [← hy1049] at H)
 have Ny1049 := am_ hy1049; clear hy1049; obtain rfl := Option.some.inj H
 go_enter Try.func93, Try.ntmps93
 go_wp2_with (first | ((with_reducible refine gate_dst (N := 3) rfl ?_); refine boxZ 3 #[.string a0_0, .int .i64 a0_1, .int .i64 a0_2, .int .i64 a0_3, .int .i64 a0_4, .int .i64 a0_5, .int .i64 a0_6, .int .i64 a0_7, .int .i64 a0_8] 62 ?_; intro gb1048 hg w4 hbox hb; replace BK1048 := am_ (hbox); replace GW1048 := am_ ((Zp : w.heap.size ≤ gb1048)); replace GE1048 := GW1048; replace HB := (bsZ Zc hb); clear hb hbox hg; refine ci9 BK1048 ?_; intros) | ((with_reducible refine gate_dst (N := 25) rfl ?_); refine Kd.R_lit (Kd.int .i64) _ 2 ?hg (N := 25) ?hd (xs := ([wrap64 ((wrap64 ((wrap64 (a1 + a0_3)) + (wrap64 (a2 * a0_6)))) - a0_4), wrap64 ((wrap64 ((wrap64 (a1 + a0_3)) + (wrap64 (a2 * a0_6)))) + a0_4)] : List Int)) (inner := [.int .i64 (wrap64 ((wrap64 ((wrap64 (a1 + a0_3)) + (wrap64 (a2 * a0_6)))) - a0_4)), .int .i64 (wrap64 ((wrap64 ((wrap64 (a1 + a0_3)) + (wrap64 (a2 * a0_6)))) + a0_4))]) (ok := fun _ => True) (okp := fun _ => True) ?hr ?hp (fun _ hk => hk) trivial (Below.refl _ _) (Nat.le_refl _) (by simp) ?_; (case hd => rfl); (case hg => rfl); (case hr => first | (go_simp; done) | (go_simp; rfl)); (case hp => exact (Reps.one (show Kd.M (Kd.int .i64) _ _ _ (wrap64 ((wrap64 ((wrap64 (a1 + a0_3)) + (wrap64 (a2 * a0_6)))) - a0_4)) [.int .i64 (wrap64 ((wrap64 ((wrap64 (a1 + a0_3)) + (wrap64 (a2 * a0_6)))) - a0_4))] from rfl) (Reps.one (show Kd.M (Kd.int .i64) _ _ _ (wrap64 ((wrap64 ((wrap64 (a1 + a0_3)) + (wrap64 (a2 * a0_6)))) + a0_4)) [.int .i64 (wrap64 ((wrap64 ((wrap64 (a1 + a0_3)) + (wrap64 (a2 * a0_6)))) + a0_4))] from rfl) (Reps.none _ _)))); intro v1050 w6 ho7 hb hg_ hnew_; clear hg_ hnew_; (first | rw [← Ny1049.out] at ho7 | (simp only [Int.reduceToNat] at ho7; rw [← Ny1049.out] at ho7)); replace HO1051 := am_ (Kd.R_lower ho7 (below_size (Ze GE1048))); replace BK1048 := (bkZ BK1048 hb); replace HB := (bsZ (Ze GE1048) hb); clear hb ho7))
 go_ret
 exact ⟨_, Zj, (Zy HO1051), (Ze GE1048)⟩
def spec_l09Cue.l0 : Nat → Int → List (List Int) → Int → List (S104) → List (S62) → List (S39) → Int → Int → ByteArray → Int → ByteArray → Int → Int → Int → Int → Int → Int → Int → Int → Option ((List (List Int)))
 | 0, _, _, _, _, _, _, _, _, _, _, _, _, _, _, _, _, _, _, _ => none
 | k + 1, x1, x7, x8, x1053000, x1053001, x1053002, x1055000, x1055001, x1055002, x1055003, x1058000, x1058001, x1058002, x1058003, x1058004, x1058005, x1058006, x1058007, x1058008 => if x8 < x1058005 then ((spec_l08Time.f k x1053000 x1053001 x1053002 x1055000 x1055001 x1055002 x1055003).bind fun t1061 => ((spec_l03Window.f x1058000 x1058001 x1058002 x1058003 x1058004 x1058005 x1058006 x1058007 x1058008 t1061 x8).bind fun t1062 => (if 0 < (t1062.length : Int) then (if 1 < (t1062.length : Int) then (if x7.length < 5864062014805 then (spec_l09Cue.l0 k x1 (x7 ++ [(([rd t1062 0, rd t1062 1, x1] : List Int))]) (wrap64 (x8 + 1)) x1053000 x1053001 x1053002 x1055000 x1055001 x1055002 x1055003 x1058000 x1058001 x1058002 x1058003 x1058004 x1058005 x1058006 x1058007 x1058008) else (none)) else (none)) else (none)))) else (some x7)
def spec_l09Cue.f (k : Nat) (l0_0 : List (S104)) (l0_1 : List (S62)) (l0_2 : List (S39)) (a1 : Int) : Option ((List (List Int))) := if 0 ≤ a1 then (if a1 < (l0_2.length : Int) then ((spec_l03Find.f k l0_1 ((rd_T39 l0_2 a1).f2)).bind fun t1055 => (if 0 ≤ t1055 then (if t1055 < (l0_1.length : Int) then (spec_l09Cue.l0 k a1 (([] : List (List Int))) 0 l0_0 l0_1 l0_2 ((rd_T39 l0_2 a1).f0) ((rd_T39 l0_2 a1).f1) ((rd_T39 l0_2 a1).f2) ((rd_T39 l0_2 a1).f3) ((rd_T62 l0_1 t1055).f0) ((rd_T62 l0_1 t1055).f1) ((rd_T62 l0_1 t1055).f2) ((rd_T62 l0_1 t1055).f3) ((rd_T62 l0_1 t1055).f4) ((rd_T62 l0_1 t1055).f5) ((rd_T62 l0_1 t1055).f6) ((rd_T62 l0_1 t1055).f7) ((rd_T62 l0_1 t1055).f8)) else (none)) else (none))) else (none)) else (none)
def spec_l09Cue.T2 : Bool × List (List Nat × List Nat) := (true, [([], []), ([0], [0]), ([], []), ([2], [2]), ([], []), ([4], [4]), ([3, 5], [3, 5]), ([1, 6], [1, 6]), ([7], [7]), ([], []), ([9, 8, 6, 0, 1, 2, 3, 4, 5, 6, 7, 8, 9], [8, 9])])
def spec_l09Cue.B2 : List Nat := [0, 1, 0, 4, 0, 16, 60, 127, 255, 0, 1023]
theorem spec_l09Cue.tab2 : rtab .any (opsOf Try.f76 2) = spec_l09Cue.T2 := by kernel_rfl
theorem spec_l09Cue.bits2 : waitsOk spec_l09Cue.T2.2 spec_l09Cue.B2 = true := by kernel_rfl
def spec_l09Cue.T8 : Bool × List (List Nat × List Nat) := (true, [([], []), ([], []), ([1], [1]), ([2], [2]), ([], []), ([4], [4]), ([5], [5]), ([], []), ([3, 6, 7], [3, 6, 7]), ([8], [8]), ([0, 9], [0, 9]), ([10, 10, 0, 1, 2, 3, 4, 5, 6, 7, 8, 9, 10], [0, 10])])
def spec_l09Cue.B8 : List Nat := [0, 0, 2, 6, 0, 16, 48, 0, 254, 510, 1023, 2047]
theorem spec_l09Cue.tab8 : rtab .any (opsOf Try.f76 8) = spec_l09Cue.T8 := by kernel_rfl
theorem spec_l09Cue.bits8 : waitsOk spec_l09Cue.T8.2 spec_l09Cue.B8 = true := by kernel_rfl
set_option maxHeartbeats 8000000 in
set_option maxRecDepth 100000 in
theorem spec_l09Cue.calls (k : Nat) (A0_0 : Option Addr) (c0_0 : Nat) (l0_0 : List (S104)) (A0_1 : Option Addr) (c0_1 : Nat) (l0_1 : List (S62)) (A0_2 : Option Addr) (c0_2 : Nat) (l0_2 : List (S39)) (a1 : Int) (r : List (List Int)) (w : World) (hr0_0 : Kd.C k104 w A0_0 l0_0.length l0_0) (hc0_0 : l0_0.length ≤ c0_0) (hr0_1 : Kd.C k62 w A0_1 l0_1.length l0_1) (hc0_1 : l0_1.length ≤ c0_1) (hr0_2 : Kd.C k39 w A0_2 l0_2.length l0_2) (hc0_2 : l0_2.length ≤ c0_2) (h : spec_l09Cue.f k l0_0 l0_1 l0_2 a1 = some r) :
  Calls Try.prog 76 #[.agg #[.slice A0_0 l0_0.length c0_0, .slice A0_1 l0_1.length c0_1, .slice A0_2 l0_2.length c0_2], .int .i64 a1] w fun e w' => ∃ v0_ : Value, e = .returned (v0_) ∧ Kd.S (Kd.slice 2 (Kd.int .i64)) 33 w' w.heap.size (fun _ => True) v0_ r ∧ Below w.heap.size w w' := by
 have hu28 := Try.underlying28; have hu39 := Try.underlying39; have hu62 := Try.underlying62; have HR0_0 := am_ hr0_0; have HC0_0 := am_ hc0_0; clear hr0_0 hc0_0; have HR0_1 := am_ hr0_1; have HC0_1 := am_ hc0_1; clear hr0_1 hc0_1; have HR0_2 := am_ hr0_2; have HC0_2 := am_ hc0_2; clear hr0_2 hc0_2; have HB := am_ (Below.refl w.heap.size w); have H : (if 0 ≤ a1 then (if a1 < (l0_2.length : Int) then ((spec_l03Find.f k l0_1 ((rd_T39 l0_2 a1).f2)).bind fun t1055 => (if 0 ≤ t1055 then (if t1055 < (l0_1.length : Int) then (spec_l09Cue.l0 k a1 (([] : List (List Int))) 0 l0_0 l0_1 l0_2 ((rd_T39 l0_2 a1).f0) ((rd_T39 l0_2 a1).f1) ((rd_T39 l0_2 a1).f2) ((rd_T39 l0_2 a1).f3) ((rd_T62 l0_1 t1055).f0) ((rd_T62 l0_1 t1055).f1) ((rd_T62 l0_1 t1055).f2) ((rd_T62 l0_1 t1055).f3) ((rd_T62 l0_1 t1055).f4) ((rd_T62 l0_1 t1055).f5) ((rd_T62 l0_1 t1055).f6) ((rd_T62 l0_1 t1055).f7) ((rd_T62 l0_1 t1055).f8)) else (none)) else (none))) else (none)) else (none)) = some r := h; clear h
 by_cases c3 : 0 ≤ a1
 ·rw [if_pos c3] at H
  have c3b0 := decide_eq_true c3; clear c3
  by_cases c4 : a1 < (l0_2.length : Int)
  ·rw [if_pos c4] at H
   have c4b0 := decide_eq_true c4; clear c4; replace H := Option.bind_eq_some_iff.mp H; obtain ⟨t1055, A50, H⟩ := H; have A5 := am_ A50; clear A50
   by_cases c6 : 0 ≤ t1055
   ·rw [if_pos c6] at H
    have c6b0 := decide_eq_true c6; clear c6
    by_cases c7 : t1055 < (l0_1.length : Int)
    ·rw [if_pos c7] at H
     have c7b0 := decide_eq_true c7; clear c7; obtain ⟨y1058, hy1058⟩ : ∃ y_ : List (List Int), y_ = (([] : List (List Int))) := ⟨_, rfl⟩
     replace H : (spec_l09Cue.l0 k a1 y1058 0 l0_0 l0_1 l0_2 ((rd_T39 l0_2 a1).f0) ((rd_T39 l0_2 a1).f1) ((rd_T39 l0_2 a1).f2) ((rd_T39 l0_2 a1).f3) ((rd_T62 l0_1 t1055).f0) ((rd_T62 l0_1 t1055).f1) ((rd_T62 l0_1 t1055).f2) ((rd_T62 l0_1 t1055).f3) ((rd_T62 l0_1 t1055).f4) ((rd_T62 l0_1 t1055).f5) ((rd_T62 l0_1 t1055).f6) ((rd_T62 l0_1 t1055).f7) ((rd_T62 l0_1 t1055).f8)) = some r := by (try rw [hy1058]); first | with_reducible exact H | with_reducible exact (Option.bind_some _ _).symm.trans H | exact H
     have Ny1058 := am_ hy1058; clear hy1058; have H' := am_ H; clear H
     go_enter Try.func76, Try.ntmps76
     try go_wp2_with (first | ((with_reducible refine gate_dst (N := 2) rfl ?_); refine boxZ 2 #[.slice A0_0 l0_0.length c0_0, .slice A0_1 l0_1.length c0_1, .slice A0_2 l0_2.length c0_2] 28 ?_; intro gb1052 hg w8 hbox hb; replace BK1052 := am_ (hbox); replace GW1052 := am_ ((Zp : w.heap.size ≤ gb1052)); replace GE1052 := GW1052; replace HB := (bsZ Zc hb); clear hb hbox hg; refine ci3 BK1052 ?_; intros; have p1053 : 0 ≤ (a1 : Int) := of_decide_eq_true Zg; have q1053 : a1 < (l0_2.length : Int) := of_decide_eq_true Zg; obtain ⟨ad1053, e1053, hx1053_0, hx1053_1, hx1053_2, hx1053_3⟩ := at_T39 HR0_2.out a1 p1053 q1053; cases e1053; replace hx1053_0 := cbH HB hx1053_0; replace hx1053_1 := cbH HB hx1053_1; replace hx1053_2 := cbH HB hx1053_2; replace hx1053_3 := cbH HB hx1053_3; replace p1053 := eq_true p1053; replace q1053 := eq_true q1053) | ((with_reducible refine gate_dst (N := 5) rfl ?_); refine boxZ 5 #[.int .i64 0, .int .i64 0, .string (⟨#[]⟩ : ByteArray), .int .i64 0] 39 ?_; intro gb1054 hg w10 hbox hb; replace BK1054 := am_ (hbox); replace GW1054 := am_ (((Zr GE1052) : w.heap.size ≤ gb1054)); replace GE1054 := GW1054; replace HB := (bsZ (Ze GE1052) hb); replace NB1052_1054 := am_ ((by rw [hg]; exact Nat.ne_of_lt (blk_lt (g := gb1052) (b0Z BK1052)) : gb1052 ≠ gb1054)); replace NB1054_1052 := am_ ((by rw [hg]; exact Nat.ne_of_gt (blk_lt (g := gb1052) (b0Z BK1052)) : gb1054 ≠ gb1052)); replace BK1052 := (bkZ BK1052 hb); clear hb hbox hg; have hnb11 := NB1054_1052.out; have hnc11 := NB1052_1054.out; refine ci4 BK1054 ?_; intros))
     have n0_ : Aside0 (((((w10.setCell ⟨gb1054, 0, none⟩ (.int .i64 ((rd_T39 l0_2 a1).f0))).setCell ⟨gb1054, 1, none⟩ (.int .i64 ((rd_T39 l0_2 a1).f1))).setCell ⟨gb1054, 2, none⟩ (.string ((rd_T39 l0_2 a1).f2))).setCell ⟨gb1054, 3, none⟩ (.int .i64 ((rd_T39 l0_2 a1).f3))).heap[gb1052]? = some (.cells #[.slice A0_0 l0_0.length c0_0, .slice A0_1 l0_1.length c0_1, .slice (some ad1053) l0_2.length c0_2] 28 (0, 0))) := ⟨by refine blk_far ?_ NB1052_1054.out _; refine blk_far ?_ NB1052_1054.out _; refine blk_far ?_ NB1052_1054.out _; refine blk_far ?_ NB1052_1054.out _; exact BK1052.out⟩; have n1_ : Aside0 (((((w10.setCell ⟨gb1054, 0, none⟩ (.int .i64 ((rd_T39 l0_2 a1).f0))).setCell ⟨gb1054, 1, none⟩ (.int .i64 ((rd_T39 l0_2 a1).f1))).setCell ⟨gb1054, 2, none⟩ (.string ((rd_T39 l0_2 a1).f2))).setCell ⟨gb1054, 3, none⟩ (.int .i64 ((rd_T39 l0_2 a1).f3))).heap[gb1054]? = some (.cells #[.int .i64 ((rd_T39 l0_2 a1).f0), .int .i64 ((rd_T39 l0_2 a1).f1), .string ((rd_T39 l0_2 a1).f2), .int .i64 ((rd_T39 l0_2 a1).f3)] 39 (0, 0))) := ⟨by refine blk_put (cs := #[.int .i64 ((rd_T39 l0_2 a1).f0), .int .i64 ((rd_T39 l0_2 a1).f1), .string ((rd_T39 l0_2 a1).f2), .int .i64 0]) ?_ 3 _ rfl; refine blk_put (cs := #[.int .i64 ((rd_T39 l0_2 a1).f0), .int .i64 ((rd_T39 l0_2 a1).f1), .string (⟨#[]⟩ : ByteArray), .int .i64 0]) ?_ 2 _ rfl; refine blk_put (cs := #[.int .i64 ((rd_T39 l0_2 a1).f0), .int .i64 0, .string (⟨#[]⟩ : ByteArray), .int .i64 0]) ?_ 1 _ rfl; refine blk_put (cs := #[.int .i64 0, .int .i64 0, .string (⟨#[]⟩ : ByteArray), .int .i64 0]) ?_ 0 _ rfl; exact BK1054.out⟩; have n2_ : Aside0 (Below w.heap.size w ((((w10.setCell ⟨gb1054, 0, none⟩ (.int .i64 ((rd_T39 l0_2 a1).f0))).setCell ⟨gb1054, 1, none⟩ (.int .i64 ((rd_T39 l0_2 a1).f1))).setCell ⟨gb1054, 2, none⟩ (.string ((rd_T39 l0_2 a1).f2))).setCell ⟨gb1054, 3, none⟩ (.int .i64 ((rd_T39 l0_2 a1).f3)))) := ⟨(Zu GE1052 GE1054)⟩
     (try clear BK1052)
     (try clear BK1054)
     (try clear HB)
     generalize ((((w10.setCell ⟨gb1054, 0, none⟩ (.int .i64 ((rd_T39 l0_2 a1).f0))).setCell ⟨gb1054, 1, none⟩ (.int .i64 ((rd_T39 l0_2 a1).f1))).setCell ⟨gb1054, 2, none⟩ (.string ((rd_T39 l0_2 a1).f2))).setCell ⟨gb1054, 3, none⟩ (.int .i64 ((rd_T39 l0_2 a1).f3))) = w13 at n0_ n1_ n2_ ⊢; have BK1052 := n0_; have BK1054 := n1_; have HB := n2_; clear n0_ n1_ n2_; replace BK1052 := am_ (blk_drew BK1052.out); replace BK1054 := am_ (blk_drew BK1054.out); replace HB := am_ (below_drew1 HB.out); have p1056 : 0 ≤ (t1055 : Int) := of_decide_eq_true Zg; have q1056 : t1055 < (l0_1.length : Int) := of_decide_eq_true Zg; obtain ⟨ad1056, e1056, hx1056_0, hx1056_1, hx1056_2, hx1056_3, hx1056_4, hx1056_5, hx1056_6, hx1056_7, hx1056_8⟩ := at_T62 HR0_1.out t1055 p1056 q1056; have hw1056_8 := hx1056_8; have hw1056_7 := hx1056_7; have hw1056_6 := hx1056_6; have hw1056_5 := hx1056_5; have hw1056_4 := hx1056_4; have hw1056_3 := hx1056_3; have hw1056_2 := hx1056_2; have hw1056_1 := hx1056_1; have hw1056_0 := hx1056_0
     cases e1056
     replace hx1056_0 := cbH HB hx1056_0; replace hx1056_1 := cbH HB hx1056_1; replace hx1056_2 := cbH HB hx1056_2; replace hx1056_3 := cbH HB hx1056_3; replace hx1056_4 := cbH HB hx1056_4; replace hx1056_5 := cbH HB hx1056_5; replace hx1056_6 := cbH HB hx1056_6; replace hx1056_7 := cbH HB hx1056_7; replace hx1056_8 := cbH HB hx1056_8; replace p1056 := eq_true p1056; replace q1056 := eq_true q1056; refine start_ (n := 11) (S := fun w' => w'.cell? ⟨gb1052, 0, none⟩ = some (.slice A0_0 l0_0.length c0_0) ∧ w'.cell? ⟨gb1052, 1, none⟩ = some (.slice (some ad1056) l0_1.length c0_1) ∧ w'.cell? ⟨gb1052, 2, none⟩ = some (.slice (some ad1053) l0_2.length c0_2) ∧ w'.cell? ⟨gb1054, 0, none⟩ = some (.int .i64 ((rd_T39 l0_2 a1).f0)) ∧ w'.cell? ⟨gb1054, 1, none⟩ = some (.int .i64 ((rd_T39 l0_2 a1).f1)) ∧ w'.cell? ⟨gb1054, 2, none⟩ = some (.string ((rd_T39 l0_2 a1).f2)) ∧ w'.cell? ⟨gb1054, 3, none⟩ = some (.int .i64 ((rd_T39 l0_2 a1).f3)) ∧ w'.cell? (ad1056.add ((t1055).toNat * 9)) = some (.string ((rd_T62 l0_1 t1055).f0)) ∧ w'.cell? ⟨(ad1056.add ((t1055).toNat * 9)).block, (ad1056.add ((t1055).toNat * 9)).off + 1, none⟩ = some (.int .i64 ((rd_T62 l0_1 t1055).f1)) ∧ w'.cell? ⟨(ad1056.add ((t1055).toNat * 9)).block, (ad1056.add ((t1055).toNat * 9)).off + 2, none⟩ = some (.int .i64 ((rd_T62 l0_1 t1055).f2)) ∧ w'.cell? ⟨(ad1056.add ((t1055).toNat * 9)).block, (ad1056.add ((t1055).toNat * 9)).off + 3, none⟩ = some (.int .i64 ((rd_T62 l0_1 t1055).f3)) ∧ w'.cell? ⟨(ad1056.add ((t1055).toNat * 9)).block, (ad1056.add ((t1055).toNat * 9)).off + 4, none⟩ = some (.int .i64 ((rd_T62 l0_1 t1055).f4)) ∧ w'.cell? ⟨(ad1056.add ((t1055).toNat * 9)).block, (ad1056.add ((t1055).toNat * 9)).off + 5, none⟩ = some (.int .i64 ((rd_T62 l0_1 t1055).f5)) ∧ w'.cell? ⟨(ad1056.add ((t1055).toNat * 9)).block, (ad1056.add ((t1055).toNat * 9)).off + 6, none⟩ = some (.int .i64 ((rd_T62 l0_1 t1055).f6)) ∧ w'.cell? ⟨(ad1056.add ((t1055).toNat * 9)).block, (ad1056.add ((t1055).toNat * 9)).off + 7, none⟩ = some (.int .i64 ((rd_T62 l0_1 t1055).f7)) ∧ w'.cell? ⟨(ad1056.add ((t1055).toNat * 9)).block, (ad1056.add ((t1055).toNat * 9)).off + 8, none⟩ = some (.int .i64 ((rd_T62 l0_1 t1055).f8))) (ds := []) (bT 11 0) Zh rfl rfl ⟨(blk_cell BK1052.out 0).trans rfl, (blk_cell BK1052.out 1).trans rfl, (blk_cell BK1052.out 2).trans rfl, (blk_cell BK1054.out 0).trans rfl, (blk_cell BK1054.out 1).trans rfl, (blk_cell BK1054.out 2).trans rfl, (blk_cell BK1054.out 3).trans rfl, (cbH HB hw1056_0 :), (cbH HB hw1056_1 :), (cbH HB hw1056_2 :), (cbH HB hw1056_3 :), (cbH HB hw1056_4 :), (cbH HB hw1056_5 :), (cbH HB hw1056_6 :), (cbH HB hw1056_7 :), (cbH HB hw1056_8 :)⟩ (fun hHeld => ?_); refine with_tabW spec_l09Cue.tab2 spec_l09Cue.bits2 (fun HT_ HW_ => ?_); generalize w13.drew = w14 at BK1052 BK1054 HB hx1056_0 hx1056_1 hx1056_2 hx1056_3 hx1056_4 hx1056_5 hx1056_6 hx1056_7 hx1056_8 hHeld ⊢; refine pureZ HT_ 0 (some 15) (bT 11 1) ?_; refine pureZ HT_ 2 (some 17) (bB 11 5) ?_; refine pureZ HT_ 4 (some 19) (bB 11 21) ?_; refine takeZ16 HT_ HW_ 1 (some 16) (bB 11 23) hHeld ?_
     refine takeZ16 HT_ HW_ 3 (some 18) (bT 11 5) hHeld ?_; refine takeZ16 HT_ HW_ 5 (some 20) (bT 11 6) hHeld ?_; refine join_ (σ := Nat) 1 (bT 11 10) (fun s_ => [(21, .int .i64 t1055), (6, .pointer (some ⟨s_, 0, none⟩)), (22, .pointer (some (ad1056.add ((t1055).toNat * 9)))), (23, .agg #[.string ((rd_T62 l0_1 t1055).f0), .int .i64 ((rd_T62 l0_1 t1055).f1), .int .i64 ((rd_T62 l0_1 t1055).f2), .int .i64 ((rd_T62 l0_1 t1055).f3), .int .i64 ((rd_T62 l0_1 t1055).f4), .int .i64 ((rd_T62 l0_1 t1055).f5), .int .i64 ((rd_T62 l0_1 t1055).f6), .int .i64 ((rd_T62 l0_1 t1055).f7), .int .i64 ((rd_T62 l0_1 t1055).f8)])]) (fun s_ w' => (w'.cell? ⟨gb1052, 0, none⟩ = some (.slice A0_0 l0_0.length c0_0) ∧ w'.cell? ⟨gb1052, 1, none⟩ = some (.slice (some ad1056) l0_1.length c0_1) ∧ w'.cell? ⟨gb1052, 2, none⟩ = some (.slice (some ad1053) l0_2.length c0_2) ∧ w'.cell? ⟨gb1054, 0, none⟩ = some (.int .i64 ((rd_T39 l0_2 a1).f0)) ∧ w'.cell? ⟨gb1054, 1, none⟩ = some (.int .i64 ((rd_T39 l0_2 a1).f1)) ∧ w'.cell? ⟨gb1054, 2, none⟩ = some (.string ((rd_T39 l0_2 a1).f2)) ∧ w'.cell? ⟨gb1054, 3, none⟩ = some (.int .i64 ((rd_T39 l0_2 a1).f3)) ∧ w'.cell? (ad1056.add ((t1055).toNat * 9)) = some (.string ((rd_T62 l0_1 t1055).f0)) ∧ w'.cell? ⟨(ad1056.add ((t1055).toNat * 9)).block, (ad1056.add ((t1055).toNat * 9)).off + 1, none⟩ = some (.int .i64 ((rd_T62 l0_1 t1055).f1)) ∧ w'.cell? ⟨(ad1056.add ((t1055).toNat * 9)).block, (ad1056.add ((t1055).toNat * 9)).off + 2, none⟩ = some (.int .i64 ((rd_T62 l0_1 t1055).f2)) ∧ w'.cell? ⟨(ad1056.add ((t1055).toNat * 9)).block, (ad1056.add ((t1055).toNat * 9)).off + 3, none⟩ = some (.int .i64 ((rd_T62 l0_1 t1055).f3)) ∧ w'.cell? ⟨(ad1056.add ((t1055).toNat * 9)).block, (ad1056.add ((t1055).toNat * 9)).off + 4, none⟩ = some (.int .i64 ((rd_T62 l0_1 t1055).f4)) ∧ w'.cell? ⟨(ad1056.add ((t1055).toNat * 9)).block, (ad1056.add ((t1055).toNat * 9)).off + 5, none⟩ = some (.int .i64 ((rd_T62 l0_1 t1055).f5)) ∧ w'.cell? ⟨(ad1056.add ((t1055).toNat * 9)).block, (ad1056.add ((t1055).toNat * 9)).off + 6, none⟩ = some (.int .i64 ((rd_T62 l0_1 t1055).f6)) ∧ w'.cell? ⟨(ad1056.add ((t1055).toNat * 9)).block, (ad1056.add ((t1055).toNat * 9)).off + 7, none⟩ = some (.int .i64 ((rd_T62 l0_1 t1055).f7)) ∧ w'.cell? ⟨(ad1056.add ((t1055).toNat * 9)).block, (ad1056.add ((t1055).toNat * 9)).off + 8, none⟩ = some (.int .i64 ((rd_T62 l0_1 t1055).f8))) ∧ (w'.heap[gb1052]? = some (.cells #[.slice A0_0 l0_0.length c0_0, .slice (some ad1056) l0_1.length c0_1, .slice (some ad1053) l0_2.length c0_2] 28 (0, 0))) ∧ (w'.heap[gb1054]? = some (.cells #[.int .i64 ((rd_T39 l0_2 a1).f0), .int .i64 ((rd_T39 l0_2 a1).f1), .string ((rd_T39 l0_2 a1).f2), .int .i64 ((rd_T39 l0_2 a1).f3)] 39 (0, 0))) ∧ (w'.heap[s_]? = some (.cells #[.string (⟨#[]⟩ : ByteArray), .int .i64 0, .int .i64 0, .int .i64 0, .int .i64 0, .int .i64 0, .int .i64 0, .int .i64 0, .int .i64 0] 62 (0, 0))) ∧ (w.heap.size ≤ s_) ∧ (w.heap.size ≤ s_) ∧ (gb1052 ≠ s_) ∧ (s_ ≠ gb1052) ∧ (gb1054 ≠ s_) ∧ (s_ ≠ gb1054) ∧ (Below w.heap.size w w')) ?_ ?_
     rotate_left
     ·intro hCont
      refine two_ (i := 6) (j := 9) (Ni := some 21) (Nj := some 6) (bT 11 7) (bB 11 575) rfl rfl rfl rfl (two_of HT_.out Zh) (by decide) (by decide) (fun K hK => ?_) (fun K hK => ?_)
      ·skip
       refine goes_ Try.func64 Zh rfl #[.slice (some ad1056) l0_1.length c0_1, .string ((rd_T39 l0_2 a1).f2)] (by rfl) rfl rfl Zq ?_
       with_reducible refine (spec_l03Find.calls k _ _ l0_1 ((rd_T39 l0_2 a1).f2) t1055 _ ?side1 ?side2 A5.out).mono ?_
       (case side1 => exact (Zs HR0_1))
       (case side2 => exact HC0_1.out)
       rintro e w' ⟨rfl, ⟨nd, rfl⟩⟩; refine ⟨_, rfl, ?_⟩; refine hK.out _ _ (Zcn BK1052 BK1054 hw1056_0 hw1056_1 hw1056_2 hw1056_3 hw1056_4 hw1056_5 hw1056_6 hw1056_7 hw1056_8) (fun hHeld => ?_); clear hK K; refine normZ 21 ?_; refine pureZ HT_ 7 (some 22) (bT 11 8) ?_; refine takeZ16 HT_ HW_ 8 (some 23) (bT 11 9) hHeld ?_; refine one_ (i := 9) (N := some 6) (bT 11 10) rfl rfl (one_of HT_.out Zh) (by decide) (fun K hK => ?_); refine box_step ?hg (N := 6) ?hd (cs := #[.string (⟨#[]⟩ : ByteArray), .int .i64 0, .int .i64 0, .int .i64 0, .int .i64 0, .int .i64 0, .int .i64 0, .int .i64 0, .int .i64 0]) (t := 62) ?hr ?_; (case hd => rfl); (case hg => rfl); (case hr => first | (go_simp; done) | (go_simp; rfl)); intro gb1057 hg w15 hbox hb; replace BK1057 := am_ (hbox); replace GW1057 := am_ (((Zac GE1052 GE1054) : w.heap.size ≤ gb1057)); replace GE1057 := GW1057; replace HB := (bsZ (Zu GE1052 GE1054) hb); replace NB1052_1057 := am_ ((by rw [hg]; exact Nat.ne_of_lt (blk_lt (g := gb1052) (b0Z BK1052)) : gb1052 ≠ gb1057)); replace NB1057_1052 := am_ ((by rw [hg]; exact Nat.ne_of_gt (blk_lt (g := gb1052) (b0Z BK1052)) : gb1057 ≠ gb1052)); replace BK1052 := (bkZ BK1052 hb); replace NB1054_1057 := am_ ((by rw [hg]; exact Nat.ne_of_lt (blk_lt (g := gb1054) (b0Z BK1054)) : gb1054 ≠ gb1057)); replace NB1057_1054 := am_ ((by rw [hg]; exact Nat.ne_of_gt (blk_lt (g := gb1054) (b0Z BK1054)) : gb1057 ≠ gb1054)); replace BK1054 := (bkZ BK1054 hb); clear hb hbox hg; refine hK.out _ _ (Zcn BK1052 BK1054 hw1056_0 hw1056_1 hw1056_2 hw1056_3 hw1056_4 hw1056_5 hw1056_6 hw1056_7 hw1056_8) (fun hHeld => ?_); clear hK K; refine normZ 6 ?_; exact norm_ Zbr (hCont (gb1057) _ ⟨hHeld, (b0Z BK1052), (b0Z BK1054), (b0Z BK1057), GW1057.out, GE1057.out, NB1052_1057.out, NB1057_1052.out, NB1054_1057.out, NB1057_1054.out, (Zaf GE1052 GE1054 GE1057)⟩)
      ·skip
       refine box_step ?hg (N := 6) ?hd (cs := #[.string (⟨#[]⟩ : ByteArray), .int .i64 0, .int .i64 0, .int .i64 0, .int .i64 0, .int .i64 0, .int .i64 0, .int .i64 0, .int .i64 0]) (t := 62) ?hr ?_; (case hd => rfl); (case hg => rfl); (case hr => first | (go_simp; done) | (go_simp; rfl)); intro gb1057 hg w15 hbox hb; replace BK1057 := am_ (hbox); replace GW1057 := am_ (((Zac GE1052 GE1054) : w.heap.size ≤ gb1057)); replace GE1057 := GW1057; replace HB := (bsZ (Zu GE1052 GE1054) hb); replace NB1052_1057 := am_ ((by rw [hg]; exact Nat.ne_of_lt (blk_lt (g := gb1052) (b0Z BK1052)) : gb1052 ≠ gb1057)); replace NB1057_1052 := am_ ((by rw [hg]; exact Nat.ne_of_gt (blk_lt (g := gb1052) (b0Z BK1052)) : gb1057 ≠ gb1052)); replace BK1052 := (bkZ BK1052 hb); replace NB1054_1057 := am_ ((by rw [hg]; exact Nat.ne_of_lt (blk_lt (g := gb1054) (b0Z BK1054)) : gb1054 ≠ gb1057)); replace NB1057_1054 := am_ ((by rw [hg]; exact Nat.ne_of_gt (blk_lt (g := gb1054) (b0Z BK1054)) : gb1057 ≠ gb1054)); replace BK1054 := (bkZ BK1054 hb); clear hb hbox hg; refine hK.out _ _ (Zcn BK1052 BK1054 hw1056_0 hw1056_1 hw1056_2 hw1056_3 hw1056_4 hw1056_5 hw1056_6 hw1056_7 hw1056_8) (fun hHeld => ?_); clear hK K; refine normZ 6 ?_; refine one_ (i := 6) (N := some 21) (bB 11 639) rfl rfl (one_of HT_.out Zh) (by decide) (fun K hK => ?_); refine goes_ Try.func64 Zh rfl #[.slice (some ad1056) l0_1.length c0_1, .string ((rd_T39 l0_2 a1).f2)] (by rfl) rfl rfl Zq ?_
       with_reducible refine (spec_l03Find.calls k _ _ l0_1 ((rd_T39 l0_2 a1).f2) t1055 _ ?side1 ?side2 A5.out).mono ?_
       (case side1 => exact (Zs HR0_1))
       (case side2 => exact HC0_1.out)
       rintro e w' ⟨rfl, ⟨nd, rfl⟩⟩; refine ⟨_, rfl, ?_⟩; refine hK.out _ _ (Zcn BK1052 BK1054 hw1056_0 hw1056_1 hw1056_2 hw1056_3 hw1056_4 hw1056_5 hw1056_6 hw1056_7 hw1056_8) (fun hHeld => ?_); clear hK K; refine normZ 21 ?_; refine pureZ HT_ 7 (some 22) (bB 11 767) ?_; refine takeZ16 HT_ HW_ 8 (some 23) (bT 11 10) hHeld ?_; exact norm_ Zbr (hCont (gb1057) _ ⟨hHeld, (b0Z BK1052), (b0Z BK1054), (b0Z BK1057), GW1057.out, GE1057.out, NB1052_1057.out, NB1057_1052.out, NB1054_1057.out, NB1057_1054.out, (Zaf GE1052 GE1054 GE1057)⟩)
     rintro gb1057 w16 ⟨hS_, h0_, h1_, h2_, h3_, h4_, h5_, h6_, h7_, h8_, h9_⟩
     (try dsimp only at hS_ h0_ h1_ h2_ h3_ h4_ h5_ h6_ h7_ h8_ h9_)
     replace BK1052 := am_ h0_; replace BK1054 := am_ h1_; replace BK1057 := am_ h2_; replace GW1057 := am_ h3_; replace GE1057 := am_ h4_; replace NB1052_1057 := am_ h5_; replace NB1057_1052 := am_ h6_; replace NB1054_1057 := am_ h7_; replace NB1057_1054 := am_ h8_; replace HB := am_ h9_; clear h0_ h1_ h2_ h3_ h4_ h5_ h6_ h7_ h8_ h9_; have hHeld := hS_; refine normP ?_; refine one_ (i := 10) (N := none) (bT 11 11) rfl rfl (one_of HT_.out Zh) (by decide) (fun K hK => ?_); have hs17 : w16.cell? ⟨gb1057, 0, none⟩ = some (.string (⟨#[]⟩ : ByteArray)) := (blk_cell BK1057.out 0).trans rfl; have hfs17 := blk_frozen BK1057.out 0; have hns17_0 := NB1052_1057.out; have hns17_1 := NB1054_1057.out; have hms17_0 := NB1057_1052.out; have hms17_1 := NB1057_1054.out; have hs18 : w16.cell? ⟨gb1057, 1, none⟩ = some (.int .i64 0) := (blk_cell BK1057.out 1).trans rfl; have hfs18 := blk_frozen BK1057.out 1; have hns18_0 := NB1052_1057.out; have hns18_1 := NB1054_1057.out; have hms18_0 := NB1057_1052.out; have hms18_1 := NB1057_1054.out; have hs19 : w16.cell? ⟨gb1057, 2, none⟩ = some (.int .i64 0) := (blk_cell BK1057.out 2).trans rfl; have hfs19 := blk_frozen BK1057.out 2; have hns19_0 := NB1052_1057.out; have hns19_1 := NB1054_1057.out; have hms19_0 := NB1057_1052.out; have hms19_1 := NB1057_1054.out; have hs20 : w16.cell? ⟨gb1057, 3, none⟩ = some (.int .i64 0) := (blk_cell BK1057.out 3).trans rfl; have hfs20 := blk_frozen BK1057.out 3; have hns20_0 := NB1052_1057.out; have hns20_1 := NB1054_1057.out; have hms20_0 := NB1057_1052.out; have hms20_1 := NB1057_1054.out; have hs21 : w16.cell? ⟨gb1057, 4, none⟩ = some (.int .i64 0) := (blk_cell BK1057.out 4).trans rfl; have hfs21 := blk_frozen BK1057.out 4; have hns21_0 := NB1052_1057.out; have hns21_1 := NB1054_1057.out; have hms21_0 := NB1057_1052.out; have hms21_1 := NB1057_1054.out; have hs22 : w16.cell? ⟨gb1057, 5, none⟩ = some (.int .i64 0) := (blk_cell BK1057.out 5).trans rfl; have hfs22 := blk_frozen BK1057.out 5; have hns22_0 := NB1052_1057.out; have hns22_1 := NB1054_1057.out; have hms22_0 := NB1057_1052.out; have hms22_1 := NB1057_1054.out; have hs23 : w16.cell? ⟨gb1057, 6, none⟩ = some (.int .i64 0) := (blk_cell BK1057.out 6).trans rfl; have hfs23 := blk_frozen BK1057.out 6; have hns23_0 := NB1052_1057.out; have hns23_1 := NB1054_1057.out; have hms23_0 := NB1057_1052.out; have hms23_1 := NB1057_1054.out; have hs24 : w16.cell? ⟨gb1057, 7, none⟩ = some (.int .i64 0) := (blk_cell BK1057.out 7).trans rfl; have hfs24 := blk_frozen BK1057.out 7; have hns24_0 := NB1052_1057.out; have hns24_1 := NB1054_1057.out; have hms24_0 := NB1057_1052.out; have hms24_1 := NB1057_1054.out; have hs25 : w16.cell? ⟨gb1057, 8, none⟩ = some (.int .i64 0) := (blk_cell BK1057.out 8).trans rfl; have hfs25 := blk_frozen BK1057.out 8; have hns25_0 := NB1052_1057.out; have hns25_1 := NB1054_1057.out; have hms25_0 := NB1057_1052.out; have hms25_1 := NB1057_1054.out; refine skip_ (w1 := ?_) (by rfl) rfl ?_ ?_
     rotate_left
     ·go_simp
      rfl
     refine hK.out _ _ ⟨(cg1 (hHeld.1) NB1052_1057), (cg1 (hHeld.2.1) NB1052_1057), (cg1 (hHeld.2.2.1) NB1052_1057), (cg1 (hHeld.2.2.2.1) NB1054_1057), (cg1 (hHeld.2.2.2.2.1) NB1054_1057), (cg1 (hHeld.2.2.2.2.2.1) NB1054_1057), (cg1 (hHeld.2.2.2.2.2.2.1) NB1054_1057), (cfZ gb1057 (hHeld.2.2.2.2.2.2.2.1) (Zco hw1056_0 GW1057)), (cfZ gb1057 (hHeld.2.2.2.2.2.2.2.2.1) (Zco hw1056_1 GW1057)), (cfZ gb1057 (hHeld.2.2.2.2.2.2.2.2.2.1) (Zco hw1056_2 GW1057)), (cfZ gb1057 (hHeld.2.2.2.2.2.2.2.2.2.2.1) (Zco hw1056_3 GW1057)), (cfZ gb1057 (hHeld.2.2.2.2.2.2.2.2.2.2.2.1) (Zco hw1056_4 GW1057)), (cfZ gb1057 (hHeld.2.2.2.2.2.2.2.2.2.2.2.2.1) (Zco hw1056_5 GW1057)), (cfZ gb1057 (hHeld.2.2.2.2.2.2.2.2.2.2.2.2.2.1) (Zco hw1056_6 GW1057)), (cfZ gb1057 (hHeld.2.2.2.2.2.2.2.2.2.2.2.2.2.2.1) (Zco hw1056_7 GW1057)), (cfZ gb1057 (hHeld.2.2.2.2.2.2.2.2.2.2.2.2.2.2.2) (Zco hw1056_8 GW1057))⟩ (fun hHeld => ?_); clear hK K; refine done_ (done_of HT_.out Zh) ?_
     try go_wp2_with (first | ((with_reducible refine gate_dst (N := 24) rfl ?_); refine Kd.S_lit (Kd.slice 2 (Kd.int .i64)) _ 33 ?hg (N := 24) ?hd (xs := ([] : List (List Int))) (inner := []) (ok := fun _ => True) (okp := fun _ => True) ?hr ?hp (fun _ hk => hk) trivial (Below.refl _ _) (Nat.le_refl _) (by simp) ?_; (case hd => rfl); (case hg => rfl); (case hr => first | (go_simp; done) | (go_simp; rfl)); (case hp => exact (Reps.none _ _)); intro v1059 w26 ho27 hb hg_ hnew_; clear hg_ hnew_; (first | rw [← Ny1058.out] at ho27 | (simp only [Int.reduceToNat] at ho27; rw [← Ny1058.out] at ho27)); replace HO1060 := am_ (Kd.S_lower ho27 (below_size (Zaf GE1052 GE1054 GE1057))); replace BK1052 := am_ (blk_below (g := gb1052) (bfZ BK1052 NB1052_1057) hb); replace BK1054 := am_ (blk_below (g := gb1054) (bfZ BK1054 NB1054_1057) hb); replace BK1057 := am_ (blk_below (g := gb1057) (o := .cells #[.string ((rd_T62 l0_1 t1055).f0), .int .i64 ((rd_T62 l0_1 t1055).f1), .int .i64 ((rd_T62 l0_1 t1055).f2), .int .i64 ((rd_T62 l0_1 t1055).f3), .int .i64 ((rd_T62 l0_1 t1055).f4), .int .i64 ((rd_T62 l0_1 t1055).f5), .int .i64 ((rd_T62 l0_1 t1055).f6), .int .i64 ((rd_T62 l0_1 t1055).f7), .int .i64 ((rd_T62 l0_1 t1055).f8)] 62 (0, 0)) (bpZ BK1057) hb); replace HB := (bsZ (Zaf GE1052 GE1054 GE1057) hb); clear hb ho27))
     go_loopg [7, 8] k (fun kq v7 v8 w' => ∃ (x7_1 : List (List Int)) (x8_1 : Int), v8 = .int .i64 x8_1 ∧ Aside0 (spec_l09Cue.l0 kq a1 x7_1 x8_1 l0_0 l0_1 l0_2 ((rd_T39 l0_2 a1).f0) ((rd_T39 l0_2 a1).f1) ((rd_T39 l0_2 a1).f2) ((rd_T39 l0_2 a1).f3) ((rd_T62 l0_1 t1055).f0) ((rd_T62 l0_1 t1055).f1) ((rd_T62 l0_1 t1055).f2) ((rd_T62 l0_1 t1055).f3) ((rd_T62 l0_1 t1055).f4) ((rd_T62 l0_1 t1055).f5) ((rd_T62 l0_1 t1055).f6) ((rd_T62 l0_1 t1055).f7) ((rd_T62 l0_1 t1055).f8) = some r) ∧ Aside0 (kq ≤ k) ∧ Aside0 (Kd.S (Kd.slice 2 (Kd.int .i64)) 33 w' w.heap.size (fun _ => True) v7 x7_1) ∧ Aside0 (w'.heap[gb1052]? = some (.cells #[(.slice A0_0 l0_0.length c0_0), (.slice (some ad1056) l0_1.length c0_1), (.slice (some ad1053) l0_2.length c0_2)] 28 (0, 0))) ∧ Aside0 (w'.heap[gb1054]? = some (.cells #[.int .i64 ((rd_T39 l0_2 a1).f0), .int .i64 ((rd_T39 l0_2 a1).f1), .string ((rd_T39 l0_2 a1).f2), .int .i64 ((rd_T39 l0_2 a1).f3)] 39 (0, 0))) ∧ Aside0 (w'.heap[gb1057]? = some (.cells #[.string ((rd_T62 l0_1 t1055).f0), .int .i64 ((rd_T62 l0_1 t1055).f1), .int .i64 ((rd_T62 l0_1 t1055).f2), .int .i64 ((rd_T62 l0_1 t1055).f3), .int .i64 ((rd_T62 l0_1 t1055).f4), .int .i64 ((rd_T62 l0_1 t1055).f5), .int .i64 ((rd_T62 l0_1 t1055).f6), .int .i64 ((rd_T62 l0_1 t1055).f7), .int .i64 ((rd_T62 l0_1 t1055).f8)] 62 (0, 0))) ∧ Aside0 (Below w.heap.size w w'))
     case atStart => exact ⟨(y1058), (0), Za, H', ⟨Nat.le_refl _⟩, ⟨(Zcq HO1060)⟩, ⟨(Zd BK1052)⟩, ⟨(Zd BK1054)⟩, ⟨(Zd BK1057)⟩, ⟨(Zaf GE1052 GE1054 GE1057)⟩⟩
     case round =>
      clear H'
      try clear c1
      try clear p1
      try clear q1
      try clear hx1
      try clear p2
      try clear c3
      try clear c3b0
      try clear c4
      try clear c4b0
      try clear c6
      try clear c6b0
      try clear c7
      try clear c7b0
      try clear p10
      try clear q10
      try clear hx10
      try clear c11
      try clear hx1053_0
      try clear hx1053_1
      try clear hx1053_2
      try clear hx1053_3
      try clear hx1056_0
      try clear hx1056_1
      try clear hx1056_2
      try clear hx1056_3
      try clear hx1056_4
      try clear hx1056_5
      try clear hx1056_6
      try clear hx1056_7
      try clear hx1056_8
      try clear p1053
      try clear p1056
      try clear q1053
      try clear q1056
      obtain ⟨x7_1, x8_1, rfl, HA, HK1, HO_7, BK1052, BK1054, BK1057, HB⟩ := hrel
      cases gk with
      | zero => exact absurd HA.out (by simp [spec_l09Cue.l0])
      | succ k1 =>
       have H := HA.out; clear HA; simp only [spec_l09Cue.l0] at H
       by_cases c28 : x8_1 < ((rd_T62 l0_1 t1055).f5)
       ·rw [if_pos c28] at H
        have c28b0 := decide_eq_true c28; clear c28; replace H := Option.bind_eq_some_iff.mp H; obtain ⟨t1061, A290, H⟩ := H; have A29 := am_ A290; clear A290; replace H := Option.bind_eq_some_iff.mp H; obtain ⟨t1062, A300, H⟩ := H; have A30 := am_ A300; clear A300
        by_cases c31 : 0 < (t1062.length : Int)
        ·rw [if_pos c31] at H
         have c31b0 := decide_eq_true c31; have c31b1 : decide (0 < t1062.length) = true := decide_eq_true (by omega); clear c31
         by_cases c32 : 1 < (t1062.length : Int)
         ·rw [if_pos c32] at H
          have c32b0 := decide_eq_true c32; have c32b1 : decide (1 < t1062.length) = true := decide_eq_true (by omega); clear c32; obtain ⟨y1067, hy1067⟩ : ∃ y_ : List Int, y_ = (([rd t1062 0, rd t1062 1, a1] : List Int)) := ⟨_, rfl⟩
          (first | (rw [← hy1067] at H; with_reducible replace H := bindZ H) | rw [← hy1067] at H)
          have Ny1067 := am_ hy1067; clear hy1067
          by_cases c33 : x7_1.length < 5864062014805
          ·rw [if_pos c33] at H
           have LMc33 := am_ c33; clear c33; obtain ⟨y1070, hy1070⟩ : ∃ y_ : List (List Int), y_ = (x7_1 ++ [y1067]) := ⟨_, rfl⟩
           (first | (rw [← hy1070] at H; with_reducible replace H := bindZ H) | rw [← hy1070] at H)
           have Ny1070 := am_ hy1070; clear hy1070; have H' := am_ H; clear H; have hnb34 := NB1057_1052.out; have hnc34 := NB1052_1057.out; have hnb35 := NB1057_1054.out; have hnc35 := NB1054_1057.out; refine ci9 BK1057 ?_; intros
           try go_wp2
           replace HO_7 := am_ (Kd.S_drew HO_7.out); replace BK1052 := am_ (blk_drew BK1052.out); replace BK1054 := am_ (blk_drew BK1054.out); replace BK1057 := am_ (blk_drew BK1057.out); replace HB := am_ (below_drew1 HB.out); refine start_ (n := 7) (S := fun w' => w'.cell? ⟨gb1057, 0, none⟩ = some (.string ((rd_T62 l0_1 t1055).f0)) ∧ w'.cell? ⟨gb1057, 1, none⟩ = some (.int .i64 ((rd_T62 l0_1 t1055).f1)) ∧ w'.cell? ⟨gb1057, 2, none⟩ = some (.int .i64 ((rd_T62 l0_1 t1055).f2)) ∧ w'.cell? ⟨gb1057, 3, none⟩ = some (.int .i64 ((rd_T62 l0_1 t1055).f3)) ∧ w'.cell? ⟨gb1057, 4, none⟩ = some (.int .i64 ((rd_T62 l0_1 t1055).f4)) ∧ w'.cell? ⟨gb1057, 5, none⟩ = some (.int .i64 ((rd_T62 l0_1 t1055).f5)) ∧ w'.cell? ⟨gb1057, 6, none⟩ = some (.int .i64 ((rd_T62 l0_1 t1055).f6)) ∧ w'.cell? ⟨gb1057, 7, none⟩ = some (.int .i64 ((rd_T62 l0_1 t1055).f7)) ∧ w'.cell? ⟨gb1057, 8, none⟩ = some (.int .i64 ((rd_T62 l0_1 t1055).f8)) ∧ w'.cell? ⟨gb1052, 0, none⟩ = some (.slice A0_0 l0_0.length c0_0) ∧ w'.cell? ⟨gb1052, 1, none⟩ = some (.slice (some ad1056) l0_1.length c0_1) ∧ w'.cell? ⟨gb1052, 2, none⟩ = some (.slice (some ad1053) l0_2.length c0_2) ∧ w'.cell? ⟨gb1054, 0, none⟩ = some (.int .i64 ((rd_T39 l0_2 a1).f0)) ∧ w'.cell? ⟨gb1054, 1, none⟩ = some (.int .i64 ((rd_T39 l0_2 a1).f1)) ∧ w'.cell? ⟨gb1054, 2, none⟩ = some (.string ((rd_T39 l0_2 a1).f2)) ∧ w'.cell? ⟨gb1054, 3, none⟩ = some (.int .i64 ((rd_T39 l0_2 a1).f3))) (ds := []) (bT 7 0) Zh rfl rfl ⟨(blk_cell BK1057.out 0).trans rfl, (blk_cell BK1057.out 1).trans rfl, (blk_cell BK1057.out 2).trans rfl, (blk_cell BK1057.out 3).trans rfl, (blk_cell BK1057.out 4).trans rfl, (blk_cell BK1057.out 5).trans rfl, (blk_cell BK1057.out 6).trans rfl, (blk_cell BK1057.out 7).trans rfl, (blk_cell BK1057.out 8).trans rfl, (blk_cell BK1052.out 0).trans rfl, (blk_cell BK1052.out 1).trans rfl, (blk_cell BK1052.out 2).trans rfl, (blk_cell BK1054.out 0).trans rfl, (blk_cell BK1054.out 1).trans rfl, (blk_cell BK1054.out 2).trans rfl, (blk_cell BK1054.out 3).trans rfl⟩ (fun hHeld => ?_); generalize wr.drew = w37 at HO_7 BK1052 BK1054 BK1057 HB hHeld ⊢; refine pure_ (i := 4) (N := some 35) (v := ?_) (a' := ?_) (bB 7 16) rfl rfl Zh (fun _ _ _ h => h) (Or.inl ⟨by rfl, ?_⟩) ?_ ?_; rotate_left
           ·intro w'
            go_simp
            with_reducible rfl
           rotate_left
           ·exact Zput
           refine take_ (i := 0) (N := some 31) (v := ?_) (a' := ?_) (bB 7 17) rfl rfl Zh (fun _ _ _ h => h) (Or.inl ⟨by rfl, ?_⟩) hHeld ?_ ?_; rotate_left
           ·rintro w' ⟨s0, s1, s2, s3, s4, s5, s6, s7, s8, s9, s10, s11, s12, s13, s14, s15⟩
            go_simp
            with_reducible rfl
           rotate_left
           ·exact Zput
           refine take_ (i := 1) (N := some 32) (v := ?_) (a' := ?_) (bB 7 19) rfl rfl Zh (fun _ _ _ h => h) (Or.inl ⟨by rfl, ?_⟩) hHeld ?_ ?_; rotate_left
           ·rintro w' ⟨s0, s1, s2, s3, s4, s5, s6, s7, s8, s9, s10, s11, s12, s13, s14, s15⟩
            go_simp
            with_reducible rfl
           rotate_left
           ·exact Zput
           refine take_ (i := 2) (N := some 33) (v := ?_) (a' := ?_) (bB 7 23) rfl rfl Zh (fun _ _ _ h => h) (Or.inl ⟨by rfl, ?_⟩) hHeld ?_ ?_; rotate_left
           ·rintro w' ⟨s0, s1, s2, s3, s4, s5, s6, s7, s8, s9, s10, s11, s12, s13, s14, s15⟩
            go_simp
            with_reducible rfl
           rotate_left
           ·exact Zput
           refine one_ (i := 3) (N := some 34) (bT 7 5) rfl rfl Zh (by decide) (fun K hK => ?_); refine goes_ Try.func90 Zh rfl #[.agg #[.slice A0_0 l0_0.length c0_0, .slice (some ad1056) l0_1.length c0_1, .slice (some ad1053) l0_2.length c0_2], .agg #[.int .i64 ((rd_T39 l0_2 a1).f0), .int .i64 ((rd_T39 l0_2 a1).f1), .string ((rd_T39 l0_2 a1).f2), .int .i64 ((rd_T39 l0_2 a1).f3)]] (by rfl) rfl rfl Zq ?_
           with_reducible refine (spec_l08Time.calls k1 _ _ l0_0 _ _ l0_1 _ _ l0_2 ((rd_T39 l0_2 a1).f0) ((rd_T39 l0_2 a1).f1) ((rd_T39 l0_2 a1).f2) ((rd_T39 l0_2 a1).f3) t1061 _ ?side1 ?side2 ?side3 ?side4 ?side5 ?side6 A29.out).mono ?_
           (case side1 => exact (Zs HR0_0))
           (case side2 => exact HC0_0.out)
           (case side3 => exact (Zs HR0_1))
           (case side4 => exact HC0_1.out)
           (case side5 => exact (Zs HR0_2))
           (case side6 => exact HC0_2.out)
           rintro e w38 ⟨rfl, hb⟩; refine ⟨_, rfl, ?_⟩; replace HO_7 := am_ (Kd.S_below (Zcq HO_7) hb); replace BK1052 := (bkZ BK1052 hb); replace BK1054 := (bkZ BK1054 hb); replace BK1057 := (bkZ BK1057 hb); replace HB := (bsZ (Zaf GE1052 GE1054 GE1057) hb)
           (try clear hb)
           (try clear hb2)
           (try clear hk)
           (try clear hi)
           refine hK.out _ _ (Zct BK1057 BK1052 BK1054) (fun hHeld => ?_); clear hK K; refine normZ 34 ?_; refine one_ (i := 5) (N := some 36) (bT 7 6) rfl rfl Zh (by decide) (fun K hK => ?_); refine goes_ Try.func93 Zh rfl #[.agg #[.string ((rd_T62 l0_1 t1055).f0), .int .i64 ((rd_T62 l0_1 t1055).f1), .int .i64 ((rd_T62 l0_1 t1055).f2), .int .i64 ((rd_T62 l0_1 t1055).f3), .int .i64 ((rd_T62 l0_1 t1055).f4), .int .i64 ((rd_T62 l0_1 t1055).f5), .int .i64 ((rd_T62 l0_1 t1055).f6), .int .i64 ((rd_T62 l0_1 t1055).f7), .int .i64 ((rd_T62 l0_1 t1055).f8)], .int .i64 t1061, .int .i64 x8_1] (by rfl) rfl rfl Zq ?_
           with_reducible refine (spec_l03Window.calls ((rd_T62 l0_1 t1055).f0) ((rd_T62 l0_1 t1055).f1) ((rd_T62 l0_1 t1055).f2) ((rd_T62 l0_1 t1055).f3) ((rd_T62 l0_1 t1055).f4) ((rd_T62 l0_1 t1055).f5) ((rd_T62 l0_1 t1055).f6) ((rd_T62 l0_1 t1055).f7) ((rd_T62 l0_1 t1055).f8) t1061 x8_1 t1062 _ A30.out).mono ?_
           rintro e w39 ⟨v1063, rfl, ho0, hb⟩; refine ⟨_, rfl, ?_⟩; replace HO_7 := am_ (Kd.S_elder' (Zcq HO_7) (Kd.R_base ho0) hb); replace HO1064 := am_ (Kd.R_lower ho0 (below_size (Zaf GE1052 GE1054 GE1057))); replace BK1052 := (bkZ BK1052 hb); replace BK1054 := (bkZ BK1054 hb); replace BK1057 := (bkZ BK1057 hb); replace HB := (bsZ (Zaf GE1052 GE1054 GE1057) hb)
           (try clear hb)
           (try clear hb2)
           (try clear hk)
           (try clear hi)
           (try clear ho0)
           refine hK.out _ _ (Zct BK1057 BK1052 BK1054) (fun hHeld => ?_); clear hK K; refine normZ 36 ?_; refine pure_ (i := 6) (N := some 9) (v := ?_) (a' := ?_) (bT 7 7) rfl rfl Zh (fun _ _ _ h => h) (Or.inl ⟨by rfl, ?_⟩) ?_ ?_; rotate_left
           ·intro w'
            go_simp
            with_reducible rfl
           rotate_left
           ·exact Zput
           refine done_ Zh ?_
           try go_wp2
           replace HO_7 := am_ (Kd.S_drew HO_7.out); replace HO1064 := am_ (Kd.R_drew HO1064.out); replace BK1052 := am_ (blk_drew BK1052.out); replace BK1054 := am_ (blk_drew BK1054.out); replace BK1057 := am_ (blk_drew BK1057.out); replace HB := am_ (below_drew1 HB.out); obtain ⟨Ao41, co41, eo41⟩ := Kd.R_slice HO1064.out
           (first | subst eo41 | (injection eo41 with f1_ f2_ f3_; have f4_ := f1_.symm; have f5_ := f3_.symm; clear f1_ f2_ f3_; subst f4_; subst f5_))
           have p1065 : 0 ≤ (0 : Int) := (by omega); have q1065 : 0 < (t1062.length : Int) := of_decide_eq_true Zg; obtain ⟨ad1065, e1065, hx1065_0⟩ := Kd.at_int (Kd.R_reads' HO1064.out).2.2 0 p1065 q1065
           cases e1065
           have qi1065 : (0 < t1062.length) = True := eq_true (by omega)
           (try rw [show ((0 : Int)).toNat = 0 from rfl] at hx1065_0)
           (try rw [Addr.add_zero'] at hx1065_0)
           replace p1065 := eq_true p1065; replace q1065 := eq_true q1065; have p1066 : 0 ≤ (1 : Int) := (by omega); have q1066 : 1 < (t1062.length : Int) := of_decide_eq_true Zg; obtain ⟨ad1066, e1066, hx1066_0⟩ := Kd.at_int (Kd.R_reads' HO1064.out).2.2 1 p1066 q1066; obtain rfl : ad1065 = ad1066 := (by injection e1066)
           (try simp only [show (1 : Int).toNat = 1 from rfl, Nat.reduceMul, Nat.reduceEqDiff, Go.Addr.add, ↓reduceIte] at hx1066_0)
           have qi1066 : (1 < t1062.length) = True := eq_true (by omega)
           (try rw [show ((1 : Int)).toNat = 1 from rfl] at hx1066_0)
           replace p1066 := eq_true p1066; replace q1066 := eq_true q1066; refine start_ (n := 12) (S := fun w' => w'.cell? ad1065 = some (.int .i64 (rd t1062 0)) ∧ w'.cell? ⟨ad1065.block, ad1065.off + 1, none⟩ = some (.int .i64 (rd t1062 1))) (ds := [9, 10]) (bT 12 0) Zh rfl rfl ⟨hx1065_0, hx1066_0⟩ (fun hHeld => ?_); refine with_tabW spec_l09Cue.tab8 spec_l09Cue.bits8 (fun HT_ HW_ => ?_); generalize w39.drew = w40 at HO_7 HO1064 BK1052 BK1054 BK1057 HB hx1065_0 hx1066_0 hHeld ⊢; refine pureZ HT_ 0 (some 37) (bT 12 1) ?_; refine pureZ HT_ 1 (some 38) (bT 12 2) ?_; refine pureZ HT_ 2 (some 39) (bT 12 3) ?_; refine pureZ HT_ 4 (some 41) (bB 12 23) ?_; refine pureZ HT_ 5 (some 42) (bB 12 55) ?_; refine pureZ HT_ 7 (some 44) (bB 12 183) ?_; refine takeZ2 HT_ HW_ 3 (some 40) (bB 12 191) hHeld ?_; refine takeZ2 HT_ HW_ 6 (some 43) (bT 12 8) hHeld ?_; refine one_ (i := 8) (N := some 45) (bT 12 9) rfl rfl (one_of HT_.out Zh) (by decide) (fun K hK => ?_); refine Kd.R_lit_step (Kd.int .i64) _ 2 ?hg (N := 45) ?hd (xs := ([rd t1062 0, rd t1062 1, a1] : List Int)) (inner := [.int .i64 (rd t1062 0), .int .i64 (rd t1062 1), .int .i64 a1]) (ok := fun _ => True) (okp := fun _ => True) ?hr ?hp (fun _ hk => hk) trivial (Below.refl _ _) (Nat.le_refl _) (by simp) ?_; (case hd => rfl); (case hg => rfl); (case hr => first | (go_simp; done) | (go_simp; rfl)); (case hp => exact (Reps.one (show Kd.M (Kd.int .i64) _ _ _ (rd t1062 0) [.int .i64 (rd t1062 0)] from rfl) (Reps.one (show Kd.M (Kd.int .i64) _ _ _ (rd t1062 1) [.int .i64 (rd t1062 1)] from rfl) (Reps.one (show Kd.M (Kd.int .i64) _ _ _ a1 [.int .i64 a1] from rfl) (Reps.none _ _))))); intro v1068 w42 ho43 hb hg_ hnew_; have HS0_ := (hb.cell (World.block_lt_of_cell? _ _ (hHeld.1))).trans (hHeld.1); have HS1_ := (hb.cell (World.block_lt_of_cell? _ _ (hHeld.2))).trans (hHeld.2); clear hg_ hnew_
           (first | rw [← Ny1067.out] at ho43 | (simp only [Int.reduceToNat] at ho43; rw [← Ny1067.out] at ho43))
           replace HO_7 := am_ (Kd.S_elder' (Zcq HO_7) (Kd.R_base ho43) hb); replace HO1069 := am_ (Kd.R_lower (Kd.R_new' ho43 (Kd.R_lt (Zy HO1064))) (below_size (Zaf GE1052 GE1054 GE1057))); replace HO1064 := am_ (Kd.R_elder' (Zy HO1064) (Kd.R_base ho43) hb); replace BK1052 := (bkZ BK1052 hb); replace BK1054 := (bkZ BK1054 hb); replace BK1057 := (bkZ BK1057 hb); replace HB := (bsZ (Zaf GE1052 GE1054 GE1057) hb); clear hb ho43; obtain ⟨Ao45, co45, eo45⟩ := Kd.R_slice HO1069.out
           (first | subst eo45 | (injection eo45 with f1_ f2_ f3_; have f4_ := f1_.symm; have f5_ := f3_.symm; clear f1_ f2_ f3_; subst f4_; subst f5_))
           refine hK.out _ _ ⟨HS0_, HS1_⟩ (fun hHeld => ?_); clear hK K; refine normZ 45 ?_; refine last_ (i := 9) (N := some 46) (bT 12 10) rfl rfl (one_of HT_.out Zh) (by decide) (fun K hK => ?_); refine value_ (w1 := ?_) (v := ?_) (by rfl) rfl ?_ ?_; rotate_left 2
           ·go_simp
            constructor
            ·rfl
            ·rfl
           refine hK.out _ _ ?_; clear hK K; refine normZ 46 ?_; refine last_ (i := 10) (N := some 47) (bT 12 11) rfl rfl (one_of HT_.out Zh) (by decide) (fun K hK => ?_); refine Kd.S_append_step (Kd.slice 2 (Kd.int .i64)) (w0 := w) w.heap.size (by rfl) (.tmp 37) (.tmp 46) 51 33 (.slice none 0 0) 24 rfl Try.underlying51 info33 rfl (by decide) (by omega) u7 x7_1 y1067 [.slice Ao45 y1067.length co45] (fun k_ => some k_ ≠ (.slice (some ad1065) t1062.length co41 : Value).ownBlock) (fun k_ => some k_ = (.slice Ao45 y1067.length co45 : Value).ownBlock) rfl rfl ?aP (fun k_ hk_ => ((Kd.R_mono (ok' := fun k_ => ((fun k_ => some k_ ≠ (.slice (some ad1065) t1062.length co41 : Value).ownBlock)) k_ ∧ some k_ ≠ (u7 : Value).ownBlock) (Kd.R_apart' (HO1069.out) (Kd.S_typed HO_7.out) (by decide)) (fun k_ hk => ⟨hk.1.2, hk.2⟩))).1 k_ hk_.symm) ?aF ?aO ?aB ?aS ?aL ?_
           (case aP => exact Kd.M_row (Kd.R_mono (Kd.R_tight rfl (Kd.R_mono (ok' := fun k_ => ((fun k_ => some k_ ≠ (.slice (some ad1065) t1062.length co41 : Value).ownBlock)) k_ ∧ some k_ ≠ (u7 : Value).ownBlock) (Kd.R_apart' (HO1069.out) (Kd.S_typed HO_7.out) (by decide)) (fun k_ hk => ⟨hk.1.2, hk.2⟩))) (fun _ h_ => h_)))
           (case aB => exact (Zaf GE1052 GE1054 GE1057))
           (case aF => exact (fun k_ hk => Kd.fresh' (Kd.R_lt (Zy HO1064)) k_ hk))
           (case aO => exact (by (with_reducible repeat (first | apply Kd.S_alloc | apply Kd.S_drewN | apply Kd.S_drew)); exact Kd.S_mono HO_7.out (fun k_ hk => ⟨hk.1.2, fun e_ => hk.2 e_⟩)))
           (case aS => exact (below_size (Zaf GE1052 GE1054 GE1057)))
           (case aL => have := LMc33.out; omega)
           intro v1071 w44 ho hb hg hat; rw [← Ny1070.out] at ho; replace BK1052 := am_ (blk_grown (g := gb1052) (b0Z BK1052) hg (Kd.S_ne HO_7.out BK1052.out (by decide))); replace BK1054 := am_ (blk_grown (g := gb1054) (b0Z BK1054) hg (Kd.S_ne HO_7.out BK1054.out (by decide))); replace BK1057 := am_ (blk_grown (g := gb1057) (b0Z BK1057) hg (Kd.S_ne HO_7.out BK1057.out (by decide))); replace HO1064 := am_ (Kd.R_over' (Zy HO1064) (Kd.S_typed (Zcq HO_7)) (by decide) hg); replace HB := am_ (hb); replace HO1072 := am_ (ho); clear HO_7 HO1069; clear ho hb hg hat; refine hK.out _ _ ?_; clear hK K; refine normZ 47 ?_; refine pureZ HT_ 11 (some 7) (bT 12 12) ?_; refine done_ (done_of HT_.out Zh) ?_
           try go_wp2
           go_roundg k1
           case measure => have := HK1.out; omega
           case rel => exact ⟨(y1070), (wrap64 (x8_1 + 1)), Za, H', ⟨Zi⟩, ⟨(Zcu HO1072)⟩, ⟨(Zd BK1052)⟩, ⟨(Zd BK1054)⟩, ⟨(Zd BK1057)⟩, ⟨(Zaf GE1052 GE1054 GE1057)⟩⟩
          ·rw [if_neg c33] at H
           exact absurd H (by simp)
         ·rw [if_neg c32] at H
          exact absurd H (by simp)
        ·rw [if_neg c31] at H
         exact absurd H (by simp)
       ·rw [if_neg c28] at H
        have c28b0 := decide_eq_false c28; clear c28; obtain rfl := Option.some.inj H; have hnb46 := NB1057_1052.out; have hnc46 := NB1052_1057.out; have hnb47 := NB1057_1054.out; have hnc47 := NB1054_1057.out; refine ci9 BK1057 ?_; intros
        go_wp2
        go_ret
        exact ⟨_, Zj, (Zcq HO_7), (Zaf GE1052 GE1054 GE1057)⟩
    ·rw [if_neg c7] at H
     exact absurd H (by simp)
   ·rw [if_neg c6] at H
    exact absurd H (by simp)
  ·rw [if_neg c4] at H
   exact absurd H (by simp)
 ·rw [if_neg c3] at H
  exact absurd H (by simp)
def spec_l09Before.f (k : Nat) (l0_0 : List (S104)) (l0_1 : List (S62)) (l0_2 : List (S39)) (a1 : Int) (a2 : Int) : Option (Bool) := (spec_l09Cue.f k l0_0 l0_1 l0_2 a1).bind fun t1074 => ((spec_l09Cue.f k l0_0 l0_1 l0_2 a2).bind fun t1077 => (if 0 ≤ (wrap64 ((t1074.length : Int) - 1)) then (if (wrap64 ((t1074.length : Int) - 1)) < (t1074.length : Int) then (if 1 < ((rd_L6 t1074 (wrap64 ((t1074.length : Int) - 1))).length : Int) then (if 0 < (t1077.length : Int) then (if 0 < ((rd_L6 t1077 0).length : Int) then (some (decide ((rd (rd_L6 t1074 (wrap64 ((t1074.length : Int) - 1))) 1) < (rd (rd_L6 t1077 0) 0)))) else (none)) else (none)) else (none)) else (none)) else (none)))
def spec_l09Before.T1 : Bool × List (List Nat × List Nat) := (true, [([], []), ([], []), ([0, 1], [0, 1]), ([], []), ([], []), ([3, 4, 2], [3, 4]), ([2, 5, 0, 1, 2], [2]), ([5, 6, 0, 1, 2, 3, 4, 5, 6], [5])])
def spec_l09Before.B1 : List Nat := [0, 0, 3, 0, 0, 31, 63, 127]
theorem spec_l09Before.tab1 : rtab .any (opsOf Try.f74 1) = spec_l09Before.T1 := by kernel_rfl
theorem spec_l09Before.bits1 : waitsOk spec_l09Before.T1.2 spec_l09Before.B1 = true := by kernel_rfl
def spec_l09Before.T2 : Bool × List (List Nat × List Nat) := (true, [([], []), ([], []), ([1], [1]), ([2], [2]), ([0, 3], [0, 3]), ([4], [4]), ([5], [5]), ([6], [6]), ([], []), ([8], [8]), ([9], [9]), ([10], [10]), ([11], [11]), ([7, 12], [7, 12]), ([13, 0, 1, 2, 3, 4, 5, 6, 7, 8, 9, 10, 11, 12, 13], [13])])
def spec_l09Before.B2 : List Nat := [0, 0, 2, 6, 15, 31, 63, 127, 0, 256, 768, 1792, 3840, 8191, 16383]
theorem spec_l09Before.tab2 : rtab .any (opsOf Try.f74 2) = spec_l09Before.T2 := by kernel_rfl
theorem spec_l09Before.bits2 : waitsOk spec_l09Before.T2.2 spec_l09Before.B2 = true := by kernel_rfl
set_option maxHeartbeats 8000000 in
set_option maxRecDepth 100000 in
theorem spec_l09Before.calls (k : Nat) (A0_0 : Option Addr) (c0_0 : Nat) (l0_0 : List (S104)) (A0_1 : Option Addr) (c0_1 : Nat) (l0_1 : List (S62)) (A0_2 : Option Addr) (c0_2 : Nat) (l0_2 : List (S39)) (a1 : Int) (a2 : Int) (r : Bool) (w : World) (hr0_0 : Kd.C k104 w A0_0 l0_0.length l0_0) (hc0_0 : l0_0.length ≤ c0_0) (hr0_1 : Kd.C k62 w A0_1 l0_1.length l0_1) (hc0_1 : l0_1.length ≤ c0_1) (hr0_2 : Kd.C k39 w A0_2 l0_2.length l0_2) (hc0_2 : l0_2.length ≤ c0_2) (h : spec_l09Before.f k l0_0 l0_1 l0_2 a1 a2 = some r) :
  Calls Try.prog 74 #[.agg #[.slice A0_0 l0_0.length c0_0, .slice A0_1 l0_1.length c0_1, .slice A0_2 l0_2.length c0_2], .int .i64 a1, .int .i64 a2] w fun e w' => e = .returned (.bool r) ∧ Below w.heap.size w w' := by
 have hu28 := Try.underlying28; have HR0_0 := am_ hr0_0; have HC0_0 := am_ hc0_0; clear hr0_0 hc0_0; have HR0_1 := am_ hr0_1; have HC0_1 := am_ hc0_1; clear hr0_1 hc0_1; have HR0_2 := am_ hr0_2; have HC0_2 := am_ hc0_2; clear hr0_2 hc0_2; have HB := am_ (Below.refl w.heap.size w); have H : ((spec_l09Cue.f k l0_0 l0_1 l0_2 a1).bind fun t1074 => ((spec_l09Cue.f k l0_0 l0_1 l0_2 a2).bind fun t1077 => (if 0 ≤ (wrap64 ((t1074.length : Int) - 1)) then (if (wrap64 ((t1074.length : Int) - 1)) < (t1074.length : Int) then (if 1 < ((rd_L6 t1074 (wrap64 ((t1074.length : Int) - 1))).length : Int) then (if 0 < (t1077.length : Int) then (if 0 < ((rd_L6 t1077 0).length : Int) then (some (decide ((rd (rd_L6 t1074 (wrap64 ((t1074.length : Int) - 1))) 1) < (rd (rd_L6 t1077 0) 0)))) else (none)) else (none)) else (none)) else (none)) else (none)))) = some r := h; clear h; replace H := Option.bind_eq_some_iff.mp H; obtain ⟨t1074, A40, H⟩ := H; have A4 := am_ A40; clear A40; replace H := Option.bind_eq_some_iff.mp H; obtain ⟨t1077, A50, H⟩ := H; have A5 := am_ A50; clear A50; obtain ⟨ji6, hji6⟩ : ∃ j_ : Int, (wrap64 ((t1074.length : Int) - 1)) = j_ := ⟨_, rfl⟩
 replace H : (if 0 ≤ (ji6) then (if (ji6) < (t1074.length : Int) then (if 1 < ((rd_L6 t1074 (ji6)).length : Int) then (if 0 < (t1077.length : Int) then (if 0 < ((rd_L6 t1077 0).length : Int) then (some (decide ((rd (rd_L6 t1074 (ji6)) 1) < (rd (rd_L6 t1077 0) 0)))) else (none)) else (none)) else (none)) else (none)) else (none)) = some r := by first | (rw [hji6] at H; exact H) | (simp only [hji6] at H ⊢; exact H)
 (try rw [hji6] at A4)
 (try rw [hji6] at A5)
 have hji6w : (IntKind.i64.wrap ((t1074.length : Int) - 1)) = ji6 := (i64_w _).trans hji6
 by_cases c7 : 0 ≤ (ji6)
 ·rw [if_pos c7] at H
  have c7b0 := decide_eq_true c7; clear c7
  by_cases c8 : (ji6) < (t1074.length : Int)
  ·rw [if_pos c8] at H
   have c8b0 := decide_eq_true c8; clear c8
   by_cases c9 : 1 < ((rd_L6 t1074 (ji6)).length : Int)
   ·rw [if_pos c9] at H
    have c9b0 := decide_eq_true c9; have c9b1 : decide (1 < (rd_L6 t1074 (ji6)).length) = true := decide_eq_true (by omega); clear c9
    by_cases c10 : 0 < (t1077.length : Int)
    ·rw [if_pos c10] at H
     have c10b0 := decide_eq_true c10; have c10b1 : decide (0 < t1077.length) = true := decide_eq_true (by omega); clear c10
     by_cases c11 : 0 < ((rd_L6 t1077 0).length : Int)
     ·rw [if_pos c11] at H
      have c11b0 := decide_eq_true c11; have c11b1 : decide (0 < (rd_L6 t1077 0).length) = true := decide_eq_true (by omega); clear c11; obtain rfl := Option.some.inj H
      go_enter Try.func74, Try.ntmps74
      try go_wp2_with (first | ((with_reducible refine gate_dst (N := 3) rfl ?_); refine boxZ 3 #[.slice A0_0 l0_0.length c0_0, .slice A0_1 l0_1.length c0_1, .slice A0_2 l0_2.length c0_2] 28 ?_; intro gb1073 hg w12 hbox hb; replace BK1073 := am_ (hbox); replace GW1073 := am_ ((Zp : w.heap.size ≤ gb1073)); replace GE1073 := GW1073; replace HB := (bsZ Zc hb); clear hb hbox hg))
      replace BK1073 := am_ (blk_drew BK1073.out); replace HB := am_ (below_drew1 HB.out); refine start_ (n := 8) (S := fun w' => w'.cell? ⟨gb1073, 0, none⟩ = some (.slice A0_0 l0_0.length c0_0) ∧ w'.cell? ⟨gb1073, 1, none⟩ = some (.slice A0_1 l0_1.length c0_1) ∧ w'.cell? ⟨gb1073, 2, none⟩ = some (.slice A0_2 l0_2.length c0_2)) (ds := []) (bT 8 0) Zh rfl rfl ⟨(blk_cell BK1073.out 0).trans rfl, (blk_cell BK1073.out 1).trans rfl, (blk_cell BK1073.out 2).trans rfl⟩ (fun hHeld => ?_); refine with_tabW spec_l09Before.tab1 spec_l09Before.bits1 (fun HT_ HW_ => ?_); generalize w12.drew = w13 at BK1073 HB hHeld ⊢; refine pureZ HT_ 1 (some 10) (bB 8 2) ?_; refine pureZ HT_ 4 (some 13) (bB 8 18) ?_; refine takeZ3 HT_ HW_ 0 (some 9) (bB 8 19) hHeld ?_; refine takeZ3 HT_ HW_ 3 (some 12) (bB 8 27) hHeld ?_; refine one_ (i := 2) (N := some 11) (bT 8 5) rfl rfl (one_of HT_.out Zh) (by decide) (fun K hK => ?_); refine goes_ Try.func76 Zh rfl #[.agg #[.slice A0_0 l0_0.length c0_0, .slice A0_1 l0_1.length c0_1, .slice A0_2 l0_2.length c0_2], .int .i64 a1] (by rfl) rfl rfl Zq ?_
      with_reducible refine (spec_l09Cue.calls k _ _ l0_0 _ _ l0_1 _ _ l0_2 a1 t1074 _ ?side1 ?side2 ?side3 ?side4 ?side5 ?side6 A4.out).mono ?_
      (case side1 => exact (Zs HR0_0))
      (case side2 => exact HC0_0.out)
      (case side3 => exact (Zs HR0_1))
      (case side4 => exact HC0_1.out)
      (case side5 => exact (Zs HR0_2))
      (case side6 => exact HC0_2.out)
      rintro e w14 ⟨v1075, rfl, ho0, hb⟩; refine ⟨_, rfl, ?_⟩; replace HO1076 := am_ (Kd.S_lower ho0 (below_size (Ze GE1073))); replace BK1073 := (bkZ BK1073 hb); replace HB := (bsZ (Ze GE1073) hb)
      (try clear hb)
      (try clear hb2)
      (try clear hk)
      (try clear hi)
      (try clear ho0)
      refine hK.out _ _ (Zw BK1073) (fun hHeld => ?_); clear hK K; refine normZ 11 ?_; refine one_ (i := 5) (N := some 14) (bT 8 6) rfl rfl (one_of HT_.out Zh) (by decide) (fun K hK => ?_); refine goes_ Try.func76 Zh rfl #[.agg #[.slice A0_0 l0_0.length c0_0, .slice A0_1 l0_1.length c0_1, .slice A0_2 l0_2.length c0_2], .int .i64 a2] (by rfl) rfl rfl Zq ?_
      with_reducible refine (spec_l09Cue.calls k _ _ l0_0 _ _ l0_1 _ _ l0_2 a2 t1077 _ ?side1 ?side2 ?side3 ?side4 ?side5 ?side6 A5.out).mono ?_
      (case side1 => exact (Zs HR0_0))
      (case side2 => exact HC0_0.out)
      (case side3 => exact (Zs HR0_1))
      (case side4 => exact HC0_1.out)
      (case side5 => exact (Zs HR0_2))
      (case side6 => exact HC0_2.out)
      rintro e w15 ⟨v1078, rfl, ho0, hb⟩; refine ⟨_, rfl, ?_⟩; replace HO1079 := am_ (Kd.S_lower (Kd.S_new' ho0 (Kd.S_lt (Zcq HO1076))) (below_size (Ze GE1073))); replace HO1076 := am_ (Kd.S_elder' (Zcq HO1076) (Kd.S_base ho0) hb); replace BK1073 := (bkZ BK1073 hb); replace HB := (bsZ (Ze GE1073) hb)
      (try clear hb)
      (try clear hb2)
      (try clear hk)
      (try clear hi)
      (try clear ho0)
      refine hK.out _ _ (Zw BK1073) (fun hHeld => ?_); clear hK K; refine normZ 14 ?_; refine pureZ HT_ 6 (some 7) (bT 8 7) ?_; refine pureZ HT_ 7 (some 8) (bT 8 8) ?_; refine done_ (done_of HT_.out Zh) ?_
      try go_wp2
      replace HO1076 := am_ (Kd.S_drew HO1076.out); replace HO1079 := am_ (Kd.S_drew HO1079.out); replace BK1073 := am_ (blk_drew BK1073.out); replace HB := am_ (below_drew1 HB.out); obtain ⟨Ao17, co17, eo17⟩ := Kd.S_slice HO1076.out
      (first | subst eo17 | (injection eo17 with f1_ f2_ f3_; have f4_ := f1_.symm; have f5_ := f3_.symm; clear f1_ f2_ f3_; subst f4_; subst f5_))
      have p1080 : 0 ≤ ((ji6) : Int) := of_decide_eq_true Zg; have q1080 : (ji6) < (t1074.length : Int) := of_decide_eq_true Zg; obtain ⟨ad1080, A1080_0, c1080_0, e1080, hx1080_0, hl1080_0, hi1080_0⟩ := at_L6 (Kd.S_reads' HO1076.out).2.2 (ji6) p1080 q1080
      cases e1080
      obtain ⟨ce1080, hce1080, hMe1080, hcc1080⟩ := Kd.S_get HO1076.out [] (ji6) p1080 (by first | exact q1080 | exact of_decide_eq_true Zg | (have e_ := (Kd.S_reads' HO1076.out).1; omega)); obtain ⟨ve1080_0, rfl, ge1080_0⟩ := hMe1080; have hv1080_0 := hcc1080 0 _ rfl; rw [Nat.add_zero, show ((Kd.slice 2 (Kd.int .i64))).sz = 1 from rfl, Nat.mul_one] at hv1080_0; replace hv1080_0 := Option.some.inj (hv1080_0.symm.trans hx1080_0); rw [hv1080_0] at ge1080_0; have HL1080_0 := am_ (show Kd.R (Kd.int .i64) 2 _ _ _ _ (rd_L6 t1074 (ji6)) from ge1080_0); clear hv1080_0 ge1080_0; clear hcc1080 hce1080; have HR1080_0 := am_ hi1080_0; have HC1080_0 := am_ hl1080_0; clear hi1080_0 hl1080_0; replace p1080 := eq_true p1080; replace q1080 := eq_true q1080; have p1081 : 0 ≤ (1 : Int) := (by omega); have q1081 : 1 < ((rd_L6 t1074 (ji6)).length : Int) := of_decide_eq_true Zg; obtain ⟨ad1081, e1081, hx1081_0⟩ := Kd.at_int (Zcs HR1080_0) 1 p1081 q1081
      cases e1081
      (try simp only [show (1 : Int).toNat = 1 from rfl, Nat.reduceMul, Nat.reduceEqDiff, Go.Addr.add, ↓reduceIte] at hx1081_0)
      have qi1081 : (1 < (rd_L6 t1074 (ji6)).length) = True := eq_true (by omega)
      (try rw [show ((1 : Int)).toNat = 1 from rfl] at hx1081_0)
      replace p1081 := eq_true p1081; replace q1081 := eq_true q1081; obtain ⟨Ao18, co18, eo18⟩ := Kd.S_slice HO1079.out
      (first | subst eo18 | (injection eo18 with f1_ f2_ f3_; have f4_ := f1_.symm; have f5_ := f3_.symm; clear f1_ f2_ f3_; subst f4_; subst f5_))
      have p1082 : 0 ≤ (0 : Int) := (by omega); have q1082 : 0 < (t1077.length : Int) := of_decide_eq_true Zg; obtain ⟨ad1082, A1082_0, c1082_0, e1082, hx1082_0, hl1082_0, hi1082_0⟩ := at_L6 (Kd.S_reads' HO1079.out).2.2 0 p1082 q1082
      cases e1082
      obtain ⟨ce1082, hce1082, hMe1082, hcc1082⟩ := Kd.S_get HO1079.out [] 0 p1082 (by first | exact q1082 | exact of_decide_eq_true Zg | (have e_ := (Kd.S_reads' HO1079.out).1; omega)); obtain ⟨ve1082_0, rfl, ge1082_0⟩ := hMe1082; have hv1082_0 := hcc1082 0 _ rfl; rw [Nat.add_zero, show ((Kd.slice 2 (Kd.int .i64))).sz = 1 from rfl, Nat.mul_one] at hv1082_0; replace hv1082_0 := Option.some.inj (hv1082_0.symm.trans hx1082_0); rw [hv1082_0] at ge1082_0; have HL1082_0 := am_ (show Kd.R (Kd.int .i64) 2 _ _ _ _ (rd_L6 t1077 0) from ge1082_0); clear hv1082_0 ge1082_0; clear hcc1082 hce1082; have qi1082 : (0 < t1077.length) = True := eq_true (by omega)
      (try rw [show ((0 : Int)).toNat = 0 from rfl] at hx1082_0)
      (try rw [Addr.add_zero'] at hx1082_0)
      have HR1082_0 := am_ hi1082_0; have HC1082_0 := am_ hl1082_0; clear hi1082_0 hl1082_0; replace p1082 := eq_true p1082; replace q1082 := eq_true q1082; have p1083 : 0 ≤ (0 : Int) := (by omega); have q1083 : 0 < ((rd_L6 t1077 0).length : Int) := of_decide_eq_true Zg; obtain ⟨ad1083, e1083, hx1083_0⟩ := Kd.at_int (Zcs HR1082_0) 0 p1083 q1083
      cases e1083
      have qi1083 : (0 < (rd_L6 t1077 0).length) = True := eq_true (by omega)
      (try rw [show ((0 : Int)).toNat = 0 from rfl] at hx1083_0)
      (try rw [Addr.add_zero'] at hx1083_0)
      replace p1083 := eq_true p1083; replace q1083 := eq_true q1083; refine start_ (n := 15) (S := fun w' => w'.cell? (ad1080.add ((ji6)).toNat) = some (.slice (some ad1081) (rd_L6 t1074 (ji6)).length c1080_0) ∧ w'.cell? ⟨ad1081.block, ad1081.off + 1, none⟩ = some (.int .i64 (rd (rd_L6 t1074 (ji6)) 1)) ∧ w'.cell? ad1082 = some (.slice (some ad1083) (rd_L6 t1077 0).length c1082_0) ∧ w'.cell? ad1083 = some (.int .i64 (rd (rd_L6 t1077 0) 0))) (ds := []) (bT 15 0) Zh rfl rfl ⟨hx1080_0, hx1081_0, hx1082_0, hx1083_0⟩ (fun hHeld => ?_); refine with_tabW spec_l09Before.tab2 spec_l09Before.bits2 (fun HT_ HW_ => ?_); generalize w15.drew = w16 at HO1076 HO1079 BK1073 HB HL1080_0 HL1082_0 HR1080_0 HR1082_0 hx1080_0 hx1081_0 hx1082_0 hx1083_0 hHeld ⊢; refine pureZ HT_ 0 (some 15) (bT 15 1) ?_; refine pureZ HT_ 1 (some 16) (bT 15 2) ?_; refine pureZ HT_ 2 (some 17) (bT 15 3) ?_; refine pureZ HT_ 3 (some 18) (bT 15 4) ?_; refine pureZ HT_ 4 (some 19) (bT 15 5) ?_; refine pureZ HT_ 8 (some 23) (bB 15 287) ?_; refine pureZ HT_ 9 (some 24) (bB 15 799) ?_; refine takeZ4 HT_ HW_ 5 (some 20) (bB 15 831) hHeld ?_; refine pureZ HT_ 6 (some 21) (bB 15 895) ?_; refine takeZ4 HT_ HW_ 7 (some 22) (bT 15 10) hHeld ?_; refine takeZ4 HT_ HW_ 10 (some 25) (bT 15 11) hHeld ?_; refine pureZ HT_ 11 (some 26) (bT 15 12) ?_; refine takeZ4 HT_ HW_ 12 (some 27) (bT 15 13) hHeld ?_; refine pureZ HT_ 13 (some 28) (bT 15 14) ?_; refine pureZ HT_ 14 (some 6) (bT 15 15) ?_; refine done_ (done_of HT_.out Zh) ?_
      try go_wp2
      go_ret
      exact ⟨by first | rfl | (simp [errW_none, errW_some] <;> rfl) | (simp only [← hji6]; first | rfl | (simp [errW_none, errW_some] <;> rfl)) | (simp [*, errW_none, errW_some] <;> rfl), (Ze GE1073)⟩
     ·rw [if_neg c11] at H
      exact absurd H (by simp)
    ·rw [if_neg c10] at H
     exact absurd H (by simp)
   ·rw [if_neg c9] at H
    exact absurd H (by simp)
  ·rw [if_neg c8] at H
   exact absurd H (by simp)
 ·rw [if_neg c7] at H
  exact absurd H (by simp)
def spec_SurelyBefore.f (k : Nat) (l0_0 : List (S104)) (l0_1 : List (S62)) (l0_2 : List (S39)) (a1 : Int) (a2 : Int) : Option (Bool × Int) := (spec_l09Code.f k l0_0 l0_1 l0_2 a1 a2).bind fun t1085 => (if t1085 = 0 then ((spec_l09Before.f k l0_0 l0_1 l0_2 a1 a2).bind fun t1086 => (some (t1086, 0))) else (some (false, t1085)))
set_option maxHeartbeats 8000000 in
set_option maxRecDepth 100000 in
theorem spec_SurelyBefore.calls (k : Nat) (A0_0 : Option Addr) (c0_0 : Nat) (l0_0 : List (S104)) (A0_1 : Option Addr) (c0_1 : Nat) (l0_1 : List (S62)) (A0_2 : Option Addr) (c0_2 : Nat) (l0_2 : List (S39)) (a1 : Int) (a2 : Int) (r1 : Bool) (r2 : Int) (w : World) (hr0_0 : Kd.C k104 w A0_0 l0_0.length l0_0) (hc0_0 : l0_0.length ≤ c0_0) (hr0_1 : Kd.C k62 w A0_1 l0_1.length l0_1) (hc0_1 : l0_1.length ≤ c0_1) (hr0_2 : Kd.C k39 w A0_2 l0_2.length l0_2) (hc0_2 : l0_2.length ≤ c0_2) (h : spec_SurelyBefore.f k l0_0 l0_1 l0_2 a1 a2 = some (r1, r2)) :
  Calls Try.prog 29 #[.agg #[.slice A0_0 l0_0.length c0_0, .slice A0_1 l0_1.length c0_1, .slice A0_2 l0_2.length c0_2], .int .i64 a1, .int .i64 a2] w fun e w' => e = .returned (.tuple #[.bool r1, .int .i64 r2]) ∧ Below w.heap.size w w' := by
 have hu28 := Try.underlying28; have HR0_0 := am_ hr0_0; have HC0_0 := am_ hc0_0; clear hr0_0 hc0_0; have HR0_1 := am_ hr0_1; have HC0_1 := am_ hc0_1; clear hr0_1 hc0_1; have HR0_2 := am_ hr0_2; have HC0_2 := am_ hc0_2; clear hr0_2 hc0_2; have HB := am_ (Below.refl w.heap.size w); have H : ((spec_l09Code.f k l0_0 l0_1 l0_2 a1 a2).bind fun t1085 => (if t1085 = 0 then ((spec_l09Before.f k l0_0 l0_1 l0_2 a1 a2).bind fun t1086 => (some (t1086, 0))) else (some (false, t1085)))) = some (r1, r2) := h; clear h; replace H := Option.bind_eq_some_iff.mp H; obtain ⟨t1085, A40, H⟩ := H; have A4 := am_ A40; clear A40; have HS_ := am_ H; clear H
 go_enter Try.func29, Try.ntmps29
 go_wp2_with (first | ((with_reducible refine gate_dst (N := 3) rfl ?_); refine boxZ 3 #[.slice A0_0 l0_0.length c0_0, .slice A0_1 l0_1.length c0_1, .slice A0_2 l0_2.length c0_2] 28 ?_; intro gb1084 hg w7 hbox hb; replace BK1084 := am_ (hbox); replace GW1084 := am_ ((Zp : w.heap.size ≤ gb1084)); replace GE1084 := GW1084; replace HB := (bsZ Zc hb); clear hb hbox hg; refine ci3 BK1084 ?_; intros) | ((with_reducible refine gate_callee (f := 73) rfl ?_); refine gZ 12 Try.func73 #[.agg #[.slice A0_0 l0_0.length c0_0, .slice A0_1 l0_1.length c0_1, .slice A0_2 l0_2.length c0_2], .int .i64 a1, .int .i64 a2] ?_; (with_reducible refine (spec_l09Code.calls k _ _ l0_0 _ _ l0_1 _ _ l0_2 a1 a2 t1085 _ ?_ ?_ ?_ ?_ ?_ ?_ A4.out).mono ?_); exact (Zs HR0_0); exact HC0_0.out; exact (Zs HR0_1); exact HC0_1.out; exact (Zs HR0_2); exact HC0_2.out; rintro e w9 ⟨rfl, hb⟩; refine ⟨_, rfl, ?_⟩; replace BK1084 := (bkZ BK1084 hb); replace HB := (bsZ (Ze GE1084) hb); clear hb; refine ?roundEnd))
 case roundEnd =>
  by_cases c5 : t1085 = 0
  ·have H := HS_.out
   clear HS_; rw [if_pos c5] at H; have c5b0 := beq_iff_eq.mpr c5; have c5b1 := bne_eq_false_iff_eq.mpr c5; clear c5; replace H := Option.bind_eq_some_iff.mp H; obtain ⟨t1086, A60, H⟩ := H; have A6 := am_ A60; clear A60; simp only [Option.some.injEq, Prod.mk.injEq] at H; obtain ⟨rfl, rfl⟩ := H; refine ci3 BK1084 ?_; intros
   go_wp2_with (first | ((with_reducible refine gate_callee (f := 74) rfl ?_); refine gZ 19 Try.func74 #[.agg #[.slice A0_0 l0_0.length c0_0, .slice A0_1 l0_1.length c0_1, .slice A0_2 l0_2.length c0_2], .int .i64 a1, .int .i64 a2] ?_; (with_reducible refine (spec_l09Before.calls k _ _ l0_0 _ _ l0_1 _ _ l0_2 a1 a2 t1086 _ ?_ ?_ ?_ ?_ ?_ ?_ A6.out).mono ?_); exact (Zs HR0_0); exact HC0_0.out; exact (Zs HR0_1); exact HC0_1.out; exact (Zs HR0_2); exact HC0_2.out; rintro e w11 ⟨rfl, hb⟩; refine ⟨_, rfl, ?_⟩; replace BK1084 := (bkZ BK1084 hb); replace HB := (bsZ (Ze GE1084) hb); clear hb))
   go_ret2
   exact ⟨Zj, (Ze GE1084)⟩
  ·have H := HS_.out
   clear HS_; rw [if_neg c5] at H; have c5b0 := beq_eq_false_iff_ne.mpr c5; have c5b1 := bne_iff_ne.mpr c5; simp only [Option.some.injEq, Prod.mk.injEq] at H; obtain ⟨rfl, rfl⟩ := H
   go_wp2_with (first | fail)
   go_ret2
   exact ⟨Zj, (Ze GE1084)⟩
mutual
def impl_MayMeet.l0 : Nat → Int → List (List Int) → Int → Int → List (S104) → List (S62) → List (S39) → Option (Bool × Int)
 | 0, _, _, _, _, _, _, _ => none
 | k + 1, x2, x26, x27, x28, x1088000, x1088001, x1088002 => if x28 < x27 then (if 0 ≤ x28 then (if x28 < (x26.length : Int) then (if 0 ≤ x2 then (if x2 < (x1088002.length : Int) then ((impl_windowsOfCue.f k x1088000 x1088001 x1088002 ((rd_T39 x1088002 x2).f0) ((rd_T39 x1088002 x2).f1) ((rd_T39 x1088002 x2).f2) ((rd_T39 x1088002 x2).f3)).bind fun t1095 => (impl_MayMeet.l1 k x2 (rd_L6 x26 x28) x26 x27 x28 t1095 (t1095.length : Int) 0 x1088000 x1088001 x1088002)) else (none)) else (none)) else (none)) else (none)) else (some (false, 0))
def impl_MayMeet.l1 : Nat → Int → List Int → List (List Int) → Int → Int → List (List Int) → Int → Int → List (S104) → List (S62) → List (S39) → Option (Bool × Int)
 | 0, _, _, _, _, _, _, _, _, _, _, _ => none
 | k + 1, x2, x10, x26, x27, x28, x38, x39, x40, x1088000, x1088001, x1088002 => if x40 < x39 then (if 0 ≤ x40 then (if x40 < (x38.length : Int) then (if 0 < (x10.length : Int) then (if 1 < ((rd_L6 x38 x40).length : Int) then (if (rd x10 0) ≤ (rd (rd_L6 x38 x40) 1) then (if 0 < ((rd_L6 x38 x40).length : Int) then (if 1 < (x10.length : Int) then (if (rd (rd_L6 x38 x40) 0) ≤ (rd x10 1) then (some (true, 0)) else (impl_MayMeet.l1 k x2 x10 x26 x27 x28 x38 x39 (wrap64 (x40 + 1)) x1088000 x1088001 x1088002)) else (none)) else (none)) else (impl_MayMeet.l1 k x2 x10 x26 x27 x28 x38 x39 (wrap64 (x40 + 1)) x1088000 x1088001 x1088002)) else (none)) else (none)) else (none)) else (none)) else (impl_MayMeet.l0 k x2 x26 x27 (wrap64 (x28 + 1)) x1088000 x1088001 x1088002)
end
def impl_MayMeet.f (k : Nat) (l0_0 : List (S104)) (l0_1 : List (S62)) (l0_2 : List (S39)) (a1 : Int) (a2 : Int) : Option (Bool × Int) := (impl_twoCues.f k l0_0 l0_1 l0_2 a1 a2).bind fun t1088 => (if t1088 = 0 then (if 0 ≤ a1 then (if a1 < (l0_2.length : Int) then ((impl_windowsOfCue.f k l0_0 l0_1 l0_2 ((rd_T39 l0_2 a1).f0) ((rd_T39 l0_2 a1).f1) ((rd_T39 l0_2 a1).f2) ((rd_T39 l0_2 a1).f3)).bind fun t1090 => (impl_MayMeet.l0 k a2 t1090 (t1090.length : Int) 0 l0_0 l0_1 l0_2)) else (none)) else (none)) else (some (false, t1088)))
def impl_MayMeet.T4 : Bool × List (List Nat × List Nat) := (true, [([], []), ([], []), ([1], [1]), ([], []), ([2, 3], [2, 3]), ([4], [4]), ([0, 5], [0, 5]), ([6], [6]), ([], [])])
def impl_MayMeet.B4 : List Nat := [0, 0, 2, 0, 14, 30, 63, 127, 0]
theorem impl_MayMeet.tab4 : rtab .any (opsOf Try.f30 4) = impl_MayMeet.T4 := by kernel_rfl
theorem impl_MayMeet.bits4 : waitsOk impl_MayMeet.T4.2 impl_MayMeet.B4 = true := by kernel_rfl
def impl_MayMeet.T7 : Bool × List (List Nat × List Nat) := (true, [([], []), ([], []), ([1], [1]), ([], []), ([2, 3], [2, 3]), ([4], [4]), ([0, 5], [0, 5]), ([6], [6]), ([], [])])
def impl_MayMeet.B7 : List Nat := [0, 0, 2, 0, 14, 30, 63, 127, 0]
theorem impl_MayMeet.tab7 : rtab .any (opsOf Try.f30 7) = impl_MayMeet.T7 := by kernel_rfl
theorem impl_MayMeet.bits7 : waitsOk impl_MayMeet.T7.2 impl_MayMeet.B7 = true := by kernel_rfl
def impl_MayMeet.T10 : Bool × List (List Nat × List Nat) := (true, [([], []), ([0], [0]), ([1], [1]), ([], []), ([3], [3]), ([4], [4]), ([2, 5], [2, 5]), ([6], [6]), ([7], [7]), ([8, 7], [7, 8]), ([9, 7], [7, 9]), ([7], [7]), ([11, 7], [7, 11]), ([12, 7], [7, 12]), ([10, 13, 7], [7, 10, 13]), ([7, 14], [7, 14])])
def impl_MayMeet.B10 : List Nat := [0, 1, 3, 0, 8, 24, 63, 127, 255, 511, 1023, 255, 2303, 6399, 16383, 32767]
theorem impl_MayMeet.tab10 : rtab .any (opsOf Try.f30 10) = impl_MayMeet.T10 := by kernel_rfl
theorem impl_MayMeet.bits10 : waitsOk impl_MayMeet.T10.2 impl_MayMeet.B10 = true := by kernel_rfl
set_option maxHeartbeats 8000000 in
set_option maxRecDepth 100000 in
theorem impl_MayMeet.calls (k : Nat) (A0_0 : Option Addr) (c0_0 : Nat) (l0_0 : List (S104)) (A0_1 : Option Addr) (c0_1 : Nat) (l0_1 : List (S62)) (A0_2 : Option Addr) (c0_2 : Nat) (l0_2 : List (S39)) (a1 : Int) (a2 : Int) (r1 : Bool) (r2 : Int) (w : World) (hr0_0 : Kd.C k104 w A0_0 l0_0.length l0_0) (hc0_0 : l0_0.length ≤ c0_0) (hr0_1 : Kd.C k62 w A0_1 l0_1.length l0_1) (hc0_1 : l0_1.length ≤ c0_1) (hr0_2 : Kd.C k39 w A0_2 l0_2.length l0_2) (hc0_2 : l0_2.length ≤ c0_2) (h : impl_MayMeet.f k l0_0 l0_1 l0_2 a1 a2 = some (r1, r2)) :
  Calls Try.prog 30 #[.agg #[.slice A0_0 l0_0.length c0_0, .slice A0_1 l0_1.length c0_1, .slice A0_2 l0_2.length c0_2], .int .i64 a1, .int .i64 a2] w fun e w' => e = .returned (.tuple #[.bool r1, .int .i64 r2]) ∧ Below w.heap.size w w' := by
 have hu28 := Try.underlying28; have hu39 := Try.underlying39; have HR0_0 := am_ hr0_0; have HC0_0 := am_ hc0_0; clear hr0_0 hc0_0; have HR0_1 := am_ hr0_1; have HC0_1 := am_ hc0_1; clear hr0_1 hc0_1; have HR0_2 := am_ hr0_2; have HC0_2 := am_ hc0_2; clear hr0_2 hc0_2; have HB := am_ (Below.refl w.heap.size w); have H : ((impl_twoCues.f k l0_0 l0_1 l0_2 a1 a2).bind fun t1088 => (if t1088 = 0 then (if 0 ≤ a1 then (if a1 < (l0_2.length : Int) then ((impl_windowsOfCue.f k l0_0 l0_1 l0_2 ((rd_T39 l0_2 a1).f0) ((rd_T39 l0_2 a1).f1) ((rd_T39 l0_2 a1).f2) ((rd_T39 l0_2 a1).f3)).bind fun t1090 => (impl_MayMeet.l0 k a2 t1090 (t1090.length : Int) 0 l0_0 l0_1 l0_2)) else (none)) else (none)) else (some (false, t1088)))) = some (r1, r2) := h; clear h; replace H := Option.bind_eq_some_iff.mp H; obtain ⟨t1088, A40, H⟩ := H; have A4 := am_ A40; clear A40; have HS_ := am_ H; clear H
 go_enter Try.func30, Try.ntmps30
 try go_wp2_with (first | ((with_reducible refine gate_dst (N := 3) rfl ?_); refine boxZ 3 #[.slice A0_0 l0_0.length c0_0, .slice A0_1 l0_1.length c0_1, .slice A0_2 l0_2.length c0_2] 28 ?_; intro gb1087 hg w9 hbox hb; replace BK1087 := am_ (hbox); replace GW1087 := am_ ((Zp : w.heap.size ≤ gb1087)); replace GE1087 := GW1087; replace HB := (bsZ Zc hb); clear hb hbox hg; refine ci3 BK1087 ?_; intros) | ((with_reducible refine gate_callee (f := 71) rfl ?_); refine gZ 16 Try.func71 #[.agg #[.slice A0_0 l0_0.length c0_0, .slice A0_1 l0_1.length c0_1, .slice A0_2 l0_2.length c0_2], .int .i64 a1, .int .i64 a2] ?_; (with_reducible refine (impl_twoCues.calls k _ _ l0_0 _ _ l0_1 _ _ l0_2 a1 a2 t1088 _ ?_ ?_ ?_ ?_ ?_ ?_ A4.out).mono ?_); exact (Zs HR0_0); exact HC0_0.out; exact (Zs HR0_1); exact HC0_1.out; exact (Zs HR0_2); exact HC0_2.out; rintro e w11 ⟨rfl, hb⟩; refine ⟨_, rfl, ?_⟩; replace BK1087 := (bkZ BK1087 hb); replace HB := (bsZ (Ze GE1087) hb); clear hb; refine ?roundEnd))
 case roundEnd =>
  by_cases c5 : t1088 = 0
  ·have H := HS_.out
   clear HS_; rw [if_pos c5] at H; have c5b0 := beq_iff_eq.mpr c5; have c5b1 := bne_eq_false_iff_eq.mpr c5; clear c5
   by_cases c6 : 0 ≤ a1
   ·rw [if_pos c6] at H
    have c6b0 := decide_eq_true c6; clear c6
    by_cases c7 : a1 < (l0_2.length : Int)
    ·rw [if_pos c7] at H
     have c7b0 := decide_eq_true c7; clear c7; replace H := Option.bind_eq_some_iff.mp H; obtain ⟨t1090, A80, H⟩ := H; have A8 := am_ A80; clear A80; have H' := am_ H; clear H
     try go_wp2_with (first | fail)
     replace BK1087 := am_ (blk_drew BK1087.out); replace HB := am_ (below_drew1 HB.out); have p1089 : 0 ≤ (a1 : Int) := of_decide_eq_true Zg; have q1089 : a1 < (l0_2.length : Int) := of_decide_eq_true Zg; obtain ⟨ad1089, e1089, hx1089_0, hx1089_1, hx1089_2, hx1089_3⟩ := at_T39 HR0_2.out a1 p1089 q1089; have hw1089_3 := hx1089_3; have hw1089_2 := hx1089_2; have hw1089_1 := hx1089_1; have hw1089_0 := hx1089_0
     cases e1089
     (try replace hx1089_0 := cbH HB hx1089_0)
     (try replace hx1089_1 := cbH HB hx1089_1)
     (try replace hx1089_2 := cbH HB hx1089_2)
     (try replace hx1089_3 := cbH HB hx1089_3)
     replace p1089 := eq_true p1089; replace q1089 := eq_true q1089; refine start_ (n := 9) (S := fun w' => w'.cell? ⟨gb1087, 0, none⟩ = some (.slice A0_0 l0_0.length c0_0) ∧ w'.cell? ⟨gb1087, 1, none⟩ = some (.slice A0_1 l0_1.length c0_1) ∧ w'.cell? ⟨gb1087, 2, none⟩ = some (.slice (some ad1089) l0_2.length c0_2) ∧ w'.cell? (ad1089.add ((a1).toNat * 4)) = some (.int .i64 ((rd_T39 l0_2 a1).f0)) ∧ w'.cell? ⟨(ad1089.add ((a1).toNat * 4)).block, (ad1089.add ((a1).toNat * 4)).off + 1, none⟩ = some (.int .i64 ((rd_T39 l0_2 a1).f1)) ∧ w'.cell? ⟨(ad1089.add ((a1).toNat * 4)).block, (ad1089.add ((a1).toNat * 4)).off + 2, none⟩ = some (.string ((rd_T39 l0_2 a1).f2)) ∧ w'.cell? ⟨(ad1089.add ((a1).toNat * 4)).block, (ad1089.add ((a1).toNat * 4)).off + 3, none⟩ = some (.int .i64 ((rd_T39 l0_2 a1).f3))) (ds := []) (bT 9 0) Zh rfl rfl ⟨(blk_cell BK1087.out 0).trans rfl, (blk_cell BK1087.out 1).trans rfl, (blk_cell BK1087.out 2).trans rfl, (Zcv hw1089_0), (Zcv hw1089_1), (Zcv hw1089_2), (Zcv hw1089_3)⟩ (fun hHeld => ?_); refine with_tabW impl_MayMeet.tab4 impl_MayMeet.bits4 (fun HT_ HW_ => ?_); generalize w11.drew = w12 at BK1087 HB hx1089_0 hx1089_1 hx1089_2 hx1089_3 hHeld ⊢; refine pureZ HT_ 1 (some 21) (bB 9 2) ?_; refine pureZ HT_ 3 (some 23) (bB 9 10) ?_; refine pureZ HT_ 8 (some 28) (bB 9 266) ?_; refine takeZ7 HT_ HW_ 0 (some 20) (bB 9 267) hHeld ?_; refine takeZ7 HT_ HW_ 2 (some 22) (bB 9 271) hHeld ?_; refine pureZ HT_ 4 (some 24) (bB 9 287) ?_; refine takeZ7 HT_ HW_ 5 (some 25) (bB 9 319) hHeld ?_; refine one_ (i := 6) (N := some 26) (bB 9 383) rfl rfl (one_of HT_.out Zh) (by decide) (fun K hK => ?_); refine goes_ Try.func75 Zh rfl #[.agg #[.slice A0_0 l0_0.length c0_0, .slice A0_1 l0_1.length c0_1, .slice (some ad1089) l0_2.length c0_2], .agg #[.int .i64 ((rd_T39 l0_2 a1).f0), .int .i64 ((rd_T39 l0_2 a1).f1), .string ((rd_T39 l0_2 a1).f2), .int .i64 ((rd_T39 l0_2 a1).f3)]] (by rfl) rfl rfl Zq ?_
     with_reducible refine (impl_windowsOfCue.calls k _ _ l0_0 _ _ l0_1 _ _ l0_2 ((rd_T39 l0_2 a1).f0) ((rd_T39 l0_2 a1).f1) ((rd_T39 l0_2 a1).f2) ((rd_T39 l0_2 a1).f3) t1090 _ ?side1 ?side2 ?side3 ?side4 ?side5 ?side6 A8.out).mono ?_
     (case side1 => exact (Zs HR0_0))
     (case side2 => exact HC0_0.out)
     (case side3 => exact (Zs HR0_1))
     (case side4 => exact HC0_1.out)
     (case side5 => exact (Zs HR0_2))
     (case side6 => exact HC0_2.out)
     rintro e w13 ⟨v1091, rfl, ho0, hb⟩; refine ⟨_, rfl, ?_⟩; replace HO1092 := am_ (Kd.S_lower ho0 (below_size (Ze GE1087))); replace BK1087 := (bkZ BK1087 hb); replace HB := (bsZ (Ze GE1087) hb)
     (try clear hb)
     (try clear hb2)
     (try clear hk)
     (try clear hi)
     (try clear ho0)
     obtain ⟨Ao14, co14, eo14⟩ := Kd.S_slice HO1092.out
     (first | subst eo14 | (injection eo14 with f1_ f2_ f3_; have f4_ := f1_.symm; have f5_ := f3_.symm; clear f1_ f2_ f3_; subst f4_; subst f5_))
     refine hK.out _ _ (Zcw BK1087 hw1089_0 hw1089_1 hw1089_2 hw1089_3) (fun hHeld => ?_); clear hK K; refine normZ 26 ?_; refine pureZ HT_ 7 (some 27) (bT 9 9) ?_; refine done_ (done_of HT_.out Zh) ?_
     try go_wp2
     go_loopg [28] k (fun kq v28 w' => ∃ (x28_1 : Int), v28 = .int .i64 x28_1 ∧ Aside0 (impl_MayMeet.l0 kq a2 t1090 (t1090.length : Int) x28_1 l0_0 l0_1 l0_2 = some (r1, r2)) ∧ Aside0 (kq ≤ k) ∧ Aside0 (Kd.S (Kd.slice 2 (Kd.int .i64)) 33 w' w.heap.size (fun _ => True) (.slice Ao14 t1090.length co14) t1090) ∧ Aside0 (w'.heap[gb1087]? = some (.cells #[(.slice A0_0 l0_0.length c0_0), (.slice A0_1 l0_1.length c0_1), (.slice (some ad1089) l0_2.length c0_2)] 28 (0, 0))) ∧ Aside0 (Below w.heap.size w w'))
     case atStart => exact ⟨(0), Za, H', ⟨Nat.le_refl _⟩, ⟨(Zcq HO1092)⟩, ⟨(Zd BK1087)⟩, ⟨(Ze GE1087)⟩⟩
     case round =>
      clear H'
      try clear p1
      try clear q1
      try clear hx1
      try clear p2
      try clear c3
      try clear c5
      try clear c5b0
      try clear c5b1
      try clear c6
      try clear c6b0
      try clear c7
      try clear c7b0
      try clear p10
      try clear q10
      try clear hx10
      try clear hx1089_0
      try clear hx1089_1
      try clear hx1089_2
      try clear hx1089_3
      try clear p1089
      try clear q1089
      obtain ⟨x28_1, rfl, HA, HK1, HO_26, BK1087, HB⟩ := hrel
      cases gk with
      | zero => exact absurd HA.out (by simp [impl_MayMeet.l0])
      | succ k1 =>
       have H := HA.out; clear HA; simp only [impl_MayMeet.l0] at H
       by_cases c15 : x28_1 < (t1090.length : Int)
       ·rw [if_pos c15] at H
        have c15b0 := decide_eq_true c15; clear c15
        by_cases c16 : 0 ≤ x28_1
        ·rw [if_pos c16] at H
         have c16b0 := decide_eq_true c16; clear c16
         by_cases c17 : x28_1 < (t1090.length : Int)
         ·rw [if_pos c17] at H
          have c17b0 := decide_eq_true c17; clear c17
          by_cases c18 : 0 ≤ a2
          ·rw [if_pos c18] at H
           have c18b0 := decide_eq_true c18; clear c18
           by_cases c19 : a2 < (l0_2.length : Int)
           ·rw [if_pos c19] at H
            have c19b0 := decide_eq_true c19; clear c19; replace H := Option.bind_eq_some_iff.mp H; obtain ⟨t1095, A200, H⟩ := H; have A20 := am_ A200; clear A200; have H' := am_ H; clear H; have p1093 : 0 ≤ (x28_1 : Int) := of_decide_eq_true Zg; have q1093 : x28_1 < (t1090.length : Int) := of_decide_eq_true Zg; obtain ⟨ad1093, A1093_0, c1093_0, e1093, hx1093_0, hl1093_0, hi1093_0⟩ := at_L6 (Kd.S_reads' HO_26.out).2.2 x28_1 p1093 q1093
            cases e1093
            obtain ⟨ce1093, hce1093, hMe1093, hcc1093⟩ := Kd.S_get HO_26.out [] x28_1 p1093 (by first | exact q1093 | exact of_decide_eq_true Zg | (have e_ := (Kd.S_reads' HO_26.out).1; omega)); obtain ⟨ve1093_0, rfl, ge1093_0⟩ := hMe1093; have hv1093_0 := hcc1093 0 _ rfl; rw [Nat.add_zero, show ((Kd.slice 2 (Kd.int .i64))).sz = 1 from rfl, Nat.mul_one] at hv1093_0; replace hv1093_0 := Option.some.inj (hv1093_0.symm.trans hx1093_0); rw [hv1093_0] at ge1093_0; have HL1093_0 := am_ (show Kd.R (Kd.int .i64) 2 _ _ _ _ (rd_L6 t1090 x28_1) from ge1093_0); clear hv1093_0 ge1093_0; clear hcc1093 hce1093; have HR1093_0 := am_ hi1093_0; have HC1093_0 := am_ hl1093_0; clear hi1093_0 hl1093_0; replace p1093 := eq_true p1093; replace q1093 := eq_true q1093
            try go_wp2
            replace HO_26 := am_ (Kd.S_drew HO_26.out); replace HL1093_0 := am_ (Kd.R_drew HL1093_0.out); replace BK1087 := am_ (blk_drew BK1087.out); replace HR1093_0 := am_ (Kd.C_drew HR1093_0.out); replace HB := am_ (below_drew1 HB.out); have p1094 : 0 ≤ (a2 : Int) := of_decide_eq_true Zg; have q1094 : a2 < (l0_2.length : Int) := of_decide_eq_true Zg; obtain ⟨ad1094, e1094, hx1094_0, hx1094_1, hx1094_2, hx1094_3⟩ := at_T39 HR0_2.out a2 p1094 q1094; have hw1094_3 := hx1094_3; have hw1094_2 := hx1094_2; have hw1094_1 := hx1094_1; have hw1094_0 := hx1094_0; obtain rfl : ad1089 = ad1094 := (by injection e1094)
            (try replace hx1094_0 := cbH HB hx1094_0)
            (try replace hx1094_1 := cbH HB hx1094_1)
            (try replace hx1094_2 := cbH HB hx1094_2)
            (try replace hx1094_3 := cbH HB hx1094_3)
            replace p1094 := eq_true p1094; replace q1094 := eq_true q1094; refine start_ (n := 9) (S := fun w' => w'.cell? ⟨gb1087, 0, none⟩ = some (.slice A0_0 l0_0.length c0_0) ∧ w'.cell? ⟨gb1087, 1, none⟩ = some (.slice A0_1 l0_1.length c0_1) ∧ w'.cell? ⟨gb1087, 2, none⟩ = some (.slice (some ad1089) l0_2.length c0_2) ∧ w'.cell? (ad1089.add ((a2).toNat * 4)) = some (.int .i64 ((rd_T39 l0_2 a2).f0)) ∧ w'.cell? ⟨(ad1089.add ((a2).toNat * 4)).block, (ad1089.add ((a2).toNat * 4)).off + 1, none⟩ = some (.int .i64 ((rd_T39 l0_2 a2).f1)) ∧ w'.cell? ⟨(ad1089.add ((a2).toNat * 4)).block, (ad1089.add ((a2).toNat * 4)).off + 2, none⟩ = some (.string ((rd_T39 l0_2 a2).f2)) ∧ w'.cell? ⟨(ad1089.add ((a2).toNat * 4)).block, (ad1089.add ((a2).toNat * 4)).off + 3, none⟩ = some (.int .i64 ((rd_T39 l0_2 a2).f3))) (ds := []) (bT 9 0) Zh rfl rfl ⟨(blk_cell BK1087.out 0).trans rfl, (blk_cell BK1087.out 1).trans rfl, (blk_cell BK1087.out 2).trans rfl, (Zcv hw1094_0), (Zcv hw1094_1), (Zcv hw1094_2), (Zcv hw1094_3)⟩ (fun hHeld => ?_); refine with_tabW impl_MayMeet.tab7 impl_MayMeet.bits7 (fun HT_ HW_ => ?_); generalize wr.drew = w21 at HO_26 HL1093_0 BK1087 HR1093_0 HB hx1094_0 hx1094_1 hx1094_2 hx1094_3 hHeld ⊢; refine pureZ HT_ 1 (some 33) (bB 9 2) ?_; refine pureZ HT_ 3 (some 35) (bB 9 10) ?_; refine pureZ HT_ 8 (some 40) (bB 9 266) ?_; refine takeZ7 HT_ HW_ 0 (some 32) (bB 9 267) hHeld ?_; refine takeZ7 HT_ HW_ 2 (some 34) (bB 9 271) hHeld ?_; refine pureZ HT_ 4 (some 36) (bB 9 287) ?_; refine takeZ7 HT_ HW_ 5 (some 37) (bB 9 319) hHeld ?_; refine one_ (i := 6) (N := some 38) (bB 9 383) rfl rfl (one_of HT_.out Zh) (by decide) (fun K hK => ?_); refine goes_ Try.func75 Zh rfl #[.agg #[.slice A0_0 l0_0.length c0_0, .slice A0_1 l0_1.length c0_1, .slice (some ad1089) l0_2.length c0_2], .agg #[.int .i64 ((rd_T39 l0_2 a2).f0), .int .i64 ((rd_T39 l0_2 a2).f1), .string ((rd_T39 l0_2 a2).f2), .int .i64 ((rd_T39 l0_2 a2).f3)]] (by rfl) rfl rfl Zq ?_
            with_reducible refine (impl_windowsOfCue.calls k1 _ _ l0_0 _ _ l0_1 _ _ l0_2 ((rd_T39 l0_2 a2).f0) ((rd_T39 l0_2 a2).f1) ((rd_T39 l0_2 a2).f2) ((rd_T39 l0_2 a2).f3) t1095 _ ?side1 ?side2 ?side3 ?side4 ?side5 ?side6 A20.out).mono ?_
            (case side1 => exact (Zs HR0_0))
            (case side2 => exact HC0_0.out)
            (case side3 => exact (Zs HR0_1))
            (case side4 => exact HC0_1.out)
            (case side5 => exact (Zs HR0_2))
            (case side6 => exact HC0_2.out)
            rintro e w22 ⟨v1096, rfl, ho0, hb⟩; refine ⟨_, rfl, ?_⟩; replace HO1097 := am_ (Kd.S_lower (Kd.S_new' (Kd.S_new' ho0 (Kd.S_lt (Zcq HO_26))) (Kd.R_lt (Zy HL1093_0))) (below_size (Ze GE1087))); replace HO_26 := am_ (Kd.S_elder' (Zcq HO_26) (Kd.S_base ho0) hb); replace HL1093_0 := am_ (Kd.R_below (Zy HL1093_0) hb); replace BK1087 := (bkZ BK1087 hb); replace HR1093_0 := am_ (Kd.C_below (Zcs HR1093_0) hb); replace HB := (bsZ (Ze GE1087) hb)
            (try clear hb)
            (try clear hb2)
            (try clear hk)
            (try clear hi)
            (try clear ho0)
            obtain ⟨Ao23, co23, eo23⟩ := Kd.S_slice HO1097.out
            (first | subst eo23 | (injection eo23 with f1_ f2_ f3_; have f4_ := f1_.symm; have f5_ := f3_.symm; clear f1_ f2_ f3_; subst f4_; subst f5_))
            refine hK.out _ _ (Zcw BK1087 hw1094_0 hw1094_1 hw1094_2 hw1094_3) (fun hHeld => ?_); clear hK K; refine normZ 38 ?_; refine pureZ HT_ 7 (some 39) (bT 9 9) ?_; refine done_ (done_of HT_.out Zh) ?_
            try go_wp2
            go_loopg [40] k1 (fun kq v40 w' => ∃ (x40_2 : Int), v40 = .int .i64 x40_2 ∧ Aside0 (impl_MayMeet.l1 kq a2 (rd_L6 t1090 x28_1) t1090 (t1090.length : Int) x28_1 t1095 (t1095.length : Int) x40_2 l0_0 l0_1 l0_2 = some (r1, r2)) ∧ Aside0 (kq ≤ k1) ∧ Aside0 (Kd.S (Kd.slice 2 (Kd.int .i64)) 33 w' w.heap.size (fun k_ => some k_ ≠ ((.slice Ao23 t1095.length co23) : Value).ownBlock) (.slice (some ad1093) t1090.length co14) t1090) ∧ Aside0 (Kd.S (Kd.slice 2 (Kd.int .i64)) 33 w' w.heap.size (fun k_ => some k_ ≠ ((.slice (some ad1093) t1090.length co14) : Value).ownBlock) (.slice Ao23 t1095.length co23) t1095) ∧ Aside0 (w'.heap[gb1087]? = some (.cells #[(.slice A0_0 l0_0.length c0_0), (.slice A0_1 l0_1.length c0_1), (.slice (some ad1089) l0_2.length c0_2)] 28 (0, 0))) ∧ Aside0 (Kd.C (Kd.int .i64) w' A1093_0 (rd_L6 t1090 x28_1).length (rd_L6 t1090 x28_1)) ∧ Aside0 (Below w.heap.size w w'))
            case atStart => exact ⟨(0), Za, H', ⟨Nat.le_refl _⟩, ⟨(Zcx HO_26)⟩, ⟨by (with_reducible repeat (first | apply Kd.S_alloc | apply Kd.S_drewN | apply Kd.S_drew)); exact Kd.S_mono HO1097.out (fun _ hk => hk.1.2)⟩, ⟨(Zd BK1087)⟩, ⟨(Zcs HR1093_0)⟩, ⟨(Ze GE1087)⟩⟩
            case round =>
             clear H'
             try clear c1
             try clear p1
             try clear q1
             try clear hx1
             try clear p2
             try clear c3
             try clear c5
             try clear c5b0
             try clear c5b1
             try clear c6
             try clear c6b0
             try clear c7
             try clear c7b0
             try clear c10
             try clear p10
             try clear q10
             try clear hx10
             try clear c15
             try clear c15b0
             try clear c16
             try clear c16b0
             try clear c17
             try clear c17b0
             try clear c18
             try clear c18b0
             try clear c19
             try clear c19b0
             try clear hx1089_0
             try clear hx1089_1
             try clear hx1089_2
             try clear hx1089_3
             try clear hx1093_0
             try clear hx1094_0
             try clear hx1094_1
             try clear hx1094_2
             try clear hx1094_3
             try clear p1
             try clear p10
             try clear p1089
             try clear p1093
             try clear p1094
             try clear p2
             try clear q1
             try clear q10
             try clear q1089
             try clear q1093
             try clear q1094
             obtain ⟨x40_2, rfl, HA, HK2, HO_26, HO_38, BK1087, HR1093_0, HB⟩ := hrel
             cases gk with
             | zero => exact absurd HA.out (by simp [impl_MayMeet.l1])
             | succ k2 =>
              have H := HA.out; clear HA; simp only [impl_MayMeet.l1] at H
              by_cases c24 : x40_2 < (t1095.length : Int)
              ·rw [if_pos c24] at H
               have c24b0 := decide_eq_true c24; clear c24
               by_cases c25 : 0 ≤ x40_2
               ·rw [if_pos c25] at H
                have c25b0 := decide_eq_true c25; clear c25
                by_cases c26 : x40_2 < (t1095.length : Int)
                ·rw [if_pos c26] at H
                 have c26b0 := decide_eq_true c26; clear c26
                 by_cases c27 : 0 < ((rd_L6 t1090 x28_1).length : Int)
                 ·rw [if_pos c27] at H
                  have c27b0 := decide_eq_true c27; have c27b1 : decide (0 < (rd_L6 t1090 x28_1).length) = true := decide_eq_true (by omega); clear c27
                  by_cases c28 : 1 < ((rd_L6 t1095 x40_2).length : Int)
                  ·rw [if_pos c28] at H
                   have c28b0 := decide_eq_true c28; have c28b1 : decide (1 < (rd_L6 t1095 x40_2).length) = true := decide_eq_true (by omega); clear c28
                   by_cases c29 : (rd (rd_L6 t1090 x28_1) 0) ≤ (rd (rd_L6 t1095 x40_2) 1)
                   ·rw [if_pos c29] at H
                    have c29b0 := decide_eq_true c29; clear c29
                    by_cases c30 : 0 < ((rd_L6 t1095 x40_2).length : Int)
                    ·rw [if_pos c30] at H
                     have c30b0 := decide_eq_true c30; have c30b1 : decide (0 < (rd_L6 t1095 x40_2).length) = true := decide_eq_true (by omega); clear c30
                     by_cases c31 : 1 < ((rd_L6 t1090 x28_1).length : Int)
                     ·rw [if_pos c31] at H
                      have c31b0 := decide_eq_true c31; have c31b1 : decide (1 < (rd_L6 t1090 x28_1).length) = true := decide_eq_true (by omega); clear c31
                      by_cases c32 : (rd (rd_L6 t1095 x40_2) 0) ≤ (rd (rd_L6 t1090 x28_1) 1)
                      ·rw [if_pos c32] at H
                       have c32b0 := decide_eq_true c32; clear c32; simp only [Option.some.injEq, Prod.mk.injEq] at H; obtain ⟨rfl, rfl⟩ := H; have p1098 : 0 ≤ (x40_2 : Int) := of_decide_eq_true Zg; have q1098 : x40_2 < (t1095.length : Int) := of_decide_eq_true Zg; obtain ⟨ad1098, A1098_0, c1098_0, e1098, hx1098_0, hl1098_0, hi1098_0⟩ := at_L6 (Kd.S_reads' HO_38.out).2.2 x40_2 p1098 q1098
                       cases e1098
                       obtain ⟨ce1098, hce1098, hMe1098, hcc1098⟩ := Kd.S_get HO_38.out [] x40_2 p1098 (Zcy HO_38); obtain ⟨ve1098_0, rfl, ge1098_0⟩ := hMe1098; have hv1098_0 := hcc1098 0 _ rfl; rw [Nat.add_zero, show ((Kd.slice 2 (Kd.int .i64))).sz = 1 from rfl, Nat.mul_one] at hv1098_0; replace hv1098_0 := Option.some.inj (hv1098_0.symm.trans hx1098_0); rw [hv1098_0] at ge1098_0; have HL1098_0 := am_ (show Kd.R (Kd.int .i64) 2 _ _ _ _ (rd_L6 t1095 x40_2) from ge1098_0); clear hv1098_0 ge1098_0; clear hcc1098 hce1098; have HR1098_0 := am_ hi1098_0; have HC1098_0 := am_ hl1098_0; clear hi1098_0 hl1098_0; replace p1098 := eq_true p1098; replace q1098 := eq_true q1098
                       try go_wp2
                       replace HO_26 := am_ (Kd.S_drew HO_26.out); replace HO_38 := am_ (Kd.S_drew HO_38.out); replace HL1098_0 := am_ (Kd.R_drew HL1098_0.out); replace BK1087 := am_ (blk_drew BK1087.out); replace HR1093_0 := am_ (Kd.C_drew HR1093_0.out); replace HR1098_0 := am_ (Kd.C_drew HR1098_0.out); replace HB := am_ (below_drew1 HB.out); have p1099 : 0 ≤ (0 : Int) := (by omega); have q1099 : 0 < ((rd_L6 t1090 x28_1).length : Int) := of_decide_eq_true Zg; obtain ⟨ad1099, e1099, hx1099_0⟩ := Kd.at_int HR1093_0.out 0 p1099 q1099; have hw1099_0 := hx1099_0
                       (try rw [show ((0 : Int)).toNat = 0 from rfl] at hw1099_0)
                       (try rw [show 0 * 1 = 0 from rfl] at hw1099_0)
                       (try rw [Addr.add_zero'] at hw1099_0)
                       cases e1099
                       have qi1099 : (0 < (rd_L6 t1090 x28_1).length) = True := eq_true (by omega)
                       (try rw [show ((0 : Int)).toNat = 0 from rfl] at hx1099_0)
                       (try rw [Addr.add_zero'] at hx1099_0)
                       (try replace hx1099_0 := cbH HB hx1099_0)
                       replace p1099 := eq_true p1099; replace q1099 := eq_true q1099; have p1100 : 0 ≤ (1 : Int) := (by omega); have q1100 : 1 < ((rd_L6 t1095 x40_2).length : Int) := of_decide_eq_true Zg; obtain ⟨ad1100, e1100, hx1100_0⟩ := Kd.at_int (Zcs HR1098_0) 1 p1100 q1100
                       cases e1100
                       (try simp only [show (1 : Int).toNat = 1 from rfl, Nat.reduceMul, Nat.reduceEqDiff, Go.Addr.add, ↓reduceIte] at hx1100_0)
                       have qi1100 : (1 < (rd_L6 t1095 x40_2).length) = True := eq_true (by omega)
                       (try rw [show ((1 : Int)).toNat = 1 from rfl] at hx1100_0)
                       replace p1100 := eq_true p1100; replace q1100 := eq_true q1100; have p1101 : 0 ≤ (0 : Int) := (by omega); have q1101 : 0 < ((rd_L6 t1095 x40_2).length : Int) := of_decide_eq_true Zg; obtain ⟨ad1101, e1101, hx1101_0⟩ := Kd.at_int (Zcs HR1098_0) 0 p1101 q1101; obtain rfl : ad1100 = ad1101 := (by injection e1101); have qi1101 : (0 < (rd_L6 t1095 x40_2).length) = True := eq_true (by omega)
                       (try rw [show ((0 : Int)).toNat = 0 from rfl] at hx1101_0)
                       (try rw [Addr.add_zero'] at hx1101_0)
                       replace p1101 := eq_true p1101; replace q1101 := eq_true q1101; have p1102 : 0 ≤ (1 : Int) := (by omega); have q1102 : 1 < ((rd_L6 t1090 x28_1).length : Int) := of_decide_eq_true Zg; obtain ⟨ad1102, e1102, hx1102_0⟩ := Kd.at_int HR1093_0.out 1 p1102 q1102; have hw1102_0 := hx1102_0
                       (try rw [show ((1 : Int)).toNat = 1 from rfl] at hw1102_0)
                       (try rw [show 1 * 1 = 1 from rfl] at hw1102_0)
                       (try simp only [Nat.reduceMul, Nat.reduceEqDiff, Go.Addr.add, ↓reduceIte] at hw1102_0)
                       obtain rfl : ad1099 = ad1102 := (by injection e1102)
                       (try simp only [show (1 : Int).toNat = 1 from rfl, Nat.reduceMul, Nat.reduceEqDiff, Go.Addr.add, ↓reduceIte] at hx1102_0)
                       have qi1102 : (1 < (rd_L6 t1090 x28_1).length) = True := eq_true (by omega)
                       (try rw [show ((1 : Int)).toNat = 1 from rfl] at hx1102_0)
                       (try replace hx1102_0 := cbH HB hx1102_0)
                       replace p1102 := eq_true p1102; replace q1102 := eq_true q1102; refine start_ (n := 16) (S := fun w' => w'.cell? ad1099 = some (.int .i64 (rd (rd_L6 t1090 x28_1) 0)) ∧ w'.cell? ⟨ad1100.block, ad1100.off + 1, none⟩ = some (.int .i64 (rd (rd_L6 t1095 x40_2) 1)) ∧ w'.cell? ad1100 = some (.int .i64 (rd (rd_L6 t1095 x40_2) 0)) ∧ w'.cell? ⟨ad1099.block, ad1099.off + 1, none⟩ = some (.int .i64 (rd (rd_L6 t1090 x28_1) 1))) (ds := []) (bT 16 0) Zh rfl rfl ⟨(Zcv hw1099_0), hx1100_0, hx1101_0, (Zcv hw1102_0)⟩ (fun hHeld => ?_); refine with_tabW impl_MayMeet.tab10 impl_MayMeet.bits10 (fun HT_ HW_ => ?_); generalize wr.drew = w33 at HO_26 HO_38 HL1098_0 BK1087 HR1093_0 HR1098_0 HB hx1099_0 hx1100_0 hx1101_0 hx1102_0 hHeld ⊢; refine pureZ HT_ 0 (some 44) (bT 16 1) ?_; refine pureZ HT_ 1 (some 45) (bT 16 2) ?_; refine pureZ HT_ 3 (some 47) (bB 16 11) ?_; refine pureZ HT_ 4 (some 48) (bB 16 27) ?_; refine takeZ4 HT_ HW_ 2 (some 46) (bT 16 5) hHeld ?_; refine takeZ4 HT_ HW_ 5 (some 49) (bT 16 6) hHeld ?_; refine pureZ HT_ 6 (some 50) (bT 16 7) ?_; refine pureZ HT_ 7 (some 51) (bT 16 8) ?_; refine pureZ HT_ 8 (some 52) (bT 16 9) ?_; refine pureZ HT_ 9 (some 53) (bT 16 10) ?_; refine pureZ HT_ 11 (some 55) (bB 16 3071) ?_; refine pureZ HT_ 12 (some 56) (bB 16 7167) ?_; refine takeZ4 HT_ HW_ 10 (some 54) (bT 16 13) hHeld ?_; refine takeZ4 HT_ HW_ 13 (some 57) (bT 16 14) hHeld ?_; refine pureZ HT_ 14 (some 58) (bT 16 15) ?_; refine pureZ HT_ 15 (some 59) (bT 16 16) ?_; refine done_ (done_of HT_.out Zh) ?_
                       try go_wp2
                       go_ret2
                       exact ⟨Zj, (Ze GE1087)⟩
                      ·rw [if_neg c32] at H
                       have c32b0 := decide_eq_false c32; clear c32; have H' := am_ H; clear H; have p1098 : 0 ≤ (x40_2 : Int) := of_decide_eq_true Zg; have q1098 : x40_2 < (t1095.length : Int) := of_decide_eq_true Zg; obtain ⟨ad1098, A1098_0, c1098_0, e1098, hx1098_0, hl1098_0, hi1098_0⟩ := at_L6 (Kd.S_reads' HO_38.out).2.2 x40_2 p1098 q1098
                       cases e1098
                       obtain ⟨ce1098, hce1098, hMe1098, hcc1098⟩ := Kd.S_get HO_38.out [] x40_2 p1098 (Zcy HO_38); obtain ⟨ve1098_0, rfl, ge1098_0⟩ := hMe1098; have hv1098_0 := hcc1098 0 _ rfl; rw [Nat.add_zero, show ((Kd.slice 2 (Kd.int .i64))).sz = 1 from rfl, Nat.mul_one] at hv1098_0; replace hv1098_0 := Option.some.inj (hv1098_0.symm.trans hx1098_0); rw [hv1098_0] at ge1098_0; have HL1098_0 := am_ (show Kd.R (Kd.int .i64) 2 _ _ _ _ (rd_L6 t1095 x40_2) from ge1098_0); clear hv1098_0 ge1098_0; clear hcc1098 hce1098; have HR1098_0 := am_ hi1098_0; have HC1098_0 := am_ hl1098_0; clear hi1098_0 hl1098_0; replace p1098 := eq_true p1098; replace q1098 := eq_true q1098
                       try go_wp2
                       replace HO_26 := am_ (Kd.S_drew HO_26.out); replace HO_38 := am_ (Kd.S_drew HO_38.out); replace HL1098_0 := am_ (Kd.R_drew HL1098_0.out); replace BK1087 := am_ (blk_drew BK1087.out); replace HR1093_0 := am_ (Kd.C_drew HR1093_0.out); replace HR1098_0 := am_ (Kd.C_drew HR1098_0.out); replace HB := am_ (below_drew1 HB.out); have p1099 : 0 ≤ (0 : Int) := (by omega); have q1099 : 0 < ((rd_L6 t1090 x28_1).length : Int) := of_decide_eq_true Zg; obtain ⟨ad1099, e1099, hx1099_0⟩ := Kd.at_int HR1093_0.out 0 p1099 q1099; have hw1099_0 := hx1099_0
                       (try rw [show ((0 : Int)).toNat = 0 from rfl] at hw1099_0)
                       (try rw [show 0 * 1 = 0 from rfl] at hw1099_0)
                       (try rw [Addr.add_zero'] at hw1099_0)
                       cases e1099
                       have qi1099 : (0 < (rd_L6 t1090 x28_1).length) = True := eq_true (by omega)
                       (try rw [show ((0 : Int)).toNat = 0 from rfl] at hx1099_0)
                       (try rw [Addr.add_zero'] at hx1099_0)
                       (try replace hx1099_0 := cbH HB hx1099_0)
                       replace p1099 := eq_true p1099; replace q1099 := eq_true q1099; have p1100 : 0 ≤ (1 : Int) := (by omega); have q1100 : 1 < ((rd_L6 t1095 x40_2).length : Int) := of_decide_eq_true Zg; obtain ⟨ad1100, e1100, hx1100_0⟩ := Kd.at_int (Zcs HR1098_0) 1 p1100 q1100
                       cases e1100
                       (try simp only [show (1 : Int).toNat = 1 from rfl, Nat.reduceMul, Nat.reduceEqDiff, Go.Addr.add, ↓reduceIte] at hx1100_0)
                       have qi1100 : (1 < (rd_L6 t1095 x40_2).length) = True := eq_true (by omega)
                       (try rw [show ((1 : Int)).toNat = 1 from rfl] at hx1100_0)
                       replace p1100 := eq_true p1100; replace q1100 := eq_true q1100; have p1101 : 0 ≤ (0 : Int) := (by omega); have q1101 : 0 < ((rd_L6 t1095 x40_2).length : Int) := of_decide_eq_true Zg; obtain ⟨ad1101, e1101, hx1101_0⟩ := Kd.at_int (Zcs HR1098_0) 0 p1101 q1101; obtain rfl : ad1100 = ad1101 := (by injection e1101); have qi1101 : (0 < (rd_L6 t1095 x40_2).length) = True := eq_true (by omega)
                       (try rw [show ((0 : Int)).toNat = 0 from rfl] at hx1101_0)
                       (try rw [Addr.add_zero'] at hx1101_0)
                       replace p1101 := eq_true p1101; replace q1101 := eq_true q1101; have p1102 : 0 ≤ (1 : Int) := (by omega); have q1102 : 1 < ((rd_L6 t1090 x28_1).length : Int) := of_decide_eq_true Zg; obtain ⟨ad1102, e1102, hx1102_0⟩ := Kd.at_int HR1093_0.out 1 p1102 q1102; have hw1102_0 := hx1102_0
                       (try rw [show ((1 : Int)).toNat = 1 from rfl] at hw1102_0)
                       (try rw [show 1 * 1 = 1 from rfl] at hw1102_0)
                       (try simp only [Nat.reduceMul, Nat.reduceEqDiff, Go.Addr.add, ↓reduceIte] at hw1102_0)
                       obtain rfl : ad1099 = ad1102 := (by injection e1102)
                       (try simp only [show (1 : Int).toNat = 1 from rfl, Nat.reduceMul, Nat.reduceEqDiff, Go.Addr.add, ↓reduceIte] at hx1102_0)
                       have qi1102 : (1 < (rd_L6 t1090 x28_1).length) = True := eq_true (by omega)
                       (try rw [show ((1 : Int)).toNat = 1 from rfl] at hx1102_0)
                       (try replace hx1102_0 := cbH HB hx1102_0)
                       replace p1102 := eq_true p1102; replace q1102 := eq_true q1102; refine start_ (n := 16) (S := fun w' => w'.cell? ad1099 = some (.int .i64 (rd (rd_L6 t1090 x28_1) 0)) ∧ w'.cell? ⟨ad1100.block, ad1100.off + 1, none⟩ = some (.int .i64 (rd (rd_L6 t1095 x40_2) 1)) ∧ w'.cell? ad1100 = some (.int .i64 (rd (rd_L6 t1095 x40_2) 0)) ∧ w'.cell? ⟨ad1099.block, ad1099.off + 1, none⟩ = some (.int .i64 (rd (rd_L6 t1090 x28_1) 1))) (ds := []) (bT 16 0) Zh rfl rfl ⟨(Zcv hw1099_0), hx1100_0, hx1101_0, (Zcv hw1102_0)⟩ (fun hHeld => ?_); refine with_tabW impl_MayMeet.tab10 impl_MayMeet.bits10 (fun HT_ HW_ => ?_); generalize wr.drew = w34 at HO_26 HO_38 HL1098_0 BK1087 HR1093_0 HR1098_0 HB hx1099_0 hx1100_0 hx1101_0 hx1102_0 hHeld ⊢; refine pureZ HT_ 0 (some 44) (bT 16 1) ?_; refine pureZ HT_ 1 (some 45) (bT 16 2) ?_; refine pureZ HT_ 3 (some 47) (bB 16 11) ?_; refine pureZ HT_ 4 (some 48) (bB 16 27) ?_; refine takeZ4 HT_ HW_ 2 (some 46) (bT 16 5) hHeld ?_; refine takeZ4 HT_ HW_ 5 (some 49) (bT 16 6) hHeld ?_; refine pureZ HT_ 6 (some 50) (bT 16 7) ?_; refine pureZ HT_ 7 (some 51) (bT 16 8) ?_; refine pureZ HT_ 8 (some 52) (bT 16 9) ?_; refine pureZ HT_ 9 (some 53) (bT 16 10) ?_; refine pureZ HT_ 11 (some 55) (bB 16 3071) ?_; refine pureZ HT_ 12 (some 56) (bB 16 7167) ?_; refine takeZ4 HT_ HW_ 10 (some 54) (bT 16 13) hHeld ?_; refine takeZ4 HT_ HW_ 13 (some 57) (bT 16 14) hHeld ?_; refine pureZ HT_ 14 (some 58) (bT 16 15) ?_; refine pureZ HT_ 15 (some 59) (bT 16 16) ?_; refine done_ (done_of HT_.out Zh) ?_
                       try go_wp2
                       go_roundg k2
                       case measure => have := HK1.out; have := HK2.out; omega
                       case rel => exact ⟨(wrap64 (x40_2 + 1)), Za, H', ⟨Zcc⟩, ⟨(Zcq HO_26)⟩, ⟨(Zcq HO_38)⟩, ⟨(Zd BK1087)⟩, ⟨(Zcs HR1093_0)⟩, ⟨(Ze GE1087)⟩⟩
                     ·rw [if_neg c31] at H
                      exact absurd H (by simp)
                    ·rw [if_neg c30] at H
                     exact absurd H (by simp)
                   ·rw [if_neg c29] at H
                    have c29b0 := decide_eq_false c29; clear c29; have H' := am_ H; clear H; have p1098 : 0 ≤ (x40_2 : Int) := of_decide_eq_true Zg; have q1098 : x40_2 < (t1095.length : Int) := of_decide_eq_true Zg; obtain ⟨ad1098, A1098_0, c1098_0, e1098, hx1098_0, hl1098_0, hi1098_0⟩ := at_L6 (Kd.S_reads' HO_38.out).2.2 x40_2 p1098 q1098
                    cases e1098
                    obtain ⟨ce1098, hce1098, hMe1098, hcc1098⟩ := Kd.S_get HO_38.out [] x40_2 p1098 (Zcy HO_38); obtain ⟨ve1098_0, rfl, ge1098_0⟩ := hMe1098; have hv1098_0 := hcc1098 0 _ rfl; rw [Nat.add_zero, show ((Kd.slice 2 (Kd.int .i64))).sz = 1 from rfl, Nat.mul_one] at hv1098_0; replace hv1098_0 := Option.some.inj (hv1098_0.symm.trans hx1098_0); rw [hv1098_0] at ge1098_0; have HL1098_0 := am_ (show Kd.R (Kd.int .i64) 2 _ _ _ _ (rd_L6 t1095 x40_2) from ge1098_0); clear hv1098_0 ge1098_0; clear hcc1098 hce1098; have HR1098_0 := am_ hi1098_0; have HC1098_0 := am_ hl1098_0; clear hi1098_0 hl1098_0; replace p1098 := eq_true p1098; replace q1098 := eq_true q1098
                    try go_wp2
                    replace HO_26 := am_ (Kd.S_drew HO_26.out); replace HO_38 := am_ (Kd.S_drew HO_38.out); replace HL1098_0 := am_ (Kd.R_drew HL1098_0.out); replace BK1087 := am_ (blk_drew BK1087.out); replace HR1093_0 := am_ (Kd.C_drew HR1093_0.out); replace HR1098_0 := am_ (Kd.C_drew HR1098_0.out); replace HB := am_ (below_drew1 HB.out); have p1099 : 0 ≤ (0 : Int) := (by omega); have q1099 : 0 < ((rd_L6 t1090 x28_1).length : Int) := of_decide_eq_true Zg; obtain ⟨ad1099, e1099, hx1099_0⟩ := Kd.at_int HR1093_0.out 0 p1099 q1099; have hw1099_0 := hx1099_0
                    (try rw [show ((0 : Int)).toNat = 0 from rfl] at hw1099_0)
                    (try rw [show 0 * 1 = 0 from rfl] at hw1099_0)
                    (try rw [Addr.add_zero'] at hw1099_0)
                    cases e1099
                    have qi1099 : (0 < (rd_L6 t1090 x28_1).length) = True := eq_true (by omega)
                    (try rw [show ((0 : Int)).toNat = 0 from rfl] at hx1099_0)
                    (try rw [Addr.add_zero'] at hx1099_0)
                    (try replace hx1099_0 := cbH HB hx1099_0)
                    replace p1099 := eq_true p1099; replace q1099 := eq_true q1099; have p1100 : 0 ≤ (1 : Int) := (by omega); have q1100 : 1 < ((rd_L6 t1095 x40_2).length : Int) := of_decide_eq_true Zg; obtain ⟨ad1100, e1100, hx1100_0⟩ := Kd.at_int (Zcs HR1098_0) 1 p1100 q1100
                    cases e1100
                    (try simp only [show (1 : Int).toNat = 1 from rfl, Nat.reduceMul, Nat.reduceEqDiff, Go.Addr.add, ↓reduceIte] at hx1100_0)
                    have qi1100 : (1 < (rd_L6 t1095 x40_2).length) = True := eq_true (by omega)
                    (try rw [show ((1 : Int)).toNat = 1 from rfl] at hx1100_0)
                    replace p1100 := eq_true p1100; replace q1100 := eq_true q1100; refine start_ (n := 16) (S := fun w' => w'.cell? ad1099 = some (.int .i64 (rd (rd_L6 t1090 x28_1) 0)) ∧ w'.cell? ⟨ad1100.block, ad1100.off + 1, none⟩ = some (.int .i64 (rd (rd_L6 t1095 x40_2) 1))) (ds := []) (bT 16 0) Zh rfl rfl ⟨(Zcv hw1099_0), hx1100_0⟩ (fun hHeld => ?_); refine with_tabW impl_MayMeet.tab10 impl_MayMeet.bits10 (fun HT_ HW_ => ?_); generalize wr.drew = w35 at HO_26 HO_38 HL1098_0 BK1087 HR1093_0 HR1098_0 HB hx1099_0 hx1100_0 hHeld ⊢; refine pureZ HT_ 0 (some 44) (bT 16 1) ?_; refine pureZ HT_ 1 (some 45) (bT 16 2) ?_; refine pureZ HT_ 3 (some 47) (bB 16 11) ?_; refine pureZ HT_ 4 (some 48) (bB 16 27) ?_; refine takeZ2 HT_ HW_ 2 (some 46) (bT 16 5) hHeld ?_; refine takeZ2 HT_ HW_ 5 (some 49) (bT 16 6) hHeld ?_; refine pureZ HT_ 6 (some 50) (bT 16 7) ?_; refine pureZ HT_ 7 (some 51) (bT 16 8) ?_; refine pureU HT_ 8 (some 52) (bT 16 9) ?_; refine pureU HT_ 9 (some 53) (bT 16 10) ?_; refine pureU HT_ 10 (some 54) (bT 16 11) ?_; refine pureU HT_ 11 (some 55) (bT 16 12) ?_; refine pureU HT_ 12 (some 56) (bT 16 13) ?_; refine pureU HT_ 13 (some 57) (bT 16 14) ?_; refine pureU HT_ 14 (some 58) (bT 16 15) ?_; refine pureZ HT_ 15 (some 59) (bT 16 16) ?_; refine done_ (done_of HT_.out Zh) ?_
                    try go_wp2
                    go_roundg k2
                    case measure => have := HK1.out; have := HK2.out; omega
                    case rel => exact ⟨(wrap64 (x40_2 + 1)), Za, H', ⟨Zcc⟩, ⟨(Zcq HO_26)⟩, ⟨(Zcq HO_38)⟩, ⟨(Zd BK1087)⟩, ⟨(Zcs HR1093_0)⟩, ⟨(Ze GE1087)⟩⟩
                  ·rw [if_neg c28] at H
                   exact absurd H (by simp)
                 ·rw [if_neg c27] at H
                  exact absurd H (by simp)
                ·rw [if_neg c26] at H
                 exact absurd H (by simp)
               ·rw [if_neg c25] at H
                exact absurd H (by simp)
              ·rw [if_neg c24] at H
               have c24b0 := decide_eq_false c24; clear c24; have H' := am_ H; clear H
               go_wp2
               go_roundg k2
               case measure => have := HK1.out; have := HK2.out; omega
               case rel => exact ⟨(wrap64 (x28_1 + 1)), Za, H', ⟨Zcc⟩, ⟨(Zcu HO_26)⟩, ⟨(Zd BK1087)⟩, ⟨(Ze GE1087)⟩⟩
           ·rw [if_neg c19] at H
            exact absurd H (by simp)
          ·rw [if_neg c18] at H
           exact absurd H (by simp)
         ·rw [if_neg c17] at H
          exact absurd H (by simp)
        ·rw [if_neg c16] at H
         exact absurd H (by simp)
       ·rw [if_neg c15] at H
        have c15b0 := decide_eq_false c15; clear c15; simp only [Option.some.injEq, Prod.mk.injEq] at H; obtain ⟨rfl, rfl⟩ := H
        go_wp2
        go_ret2
        exact ⟨Zj, (Ze GE1087)⟩
    ·rw [if_neg c7] at H
     exact absurd H (by simp)
   ·rw [if_neg c6] at H
    exact absurd H (by simp)
  ·have H := HS_.out
   clear HS_; rw [if_neg c5] at H; have c5b0 := beq_eq_false_iff_ne.mpr c5; have c5b1 := bne_iff_ne.mpr c5; simp only [Option.some.injEq, Prod.mk.injEq] at H; obtain ⟨rfl, rfl⟩ := H
   go_wp2_with (first | fail)
   go_ret2
   exact ⟨Zj, (Ze GE1087)⟩
mutual
def spec_MayMeet.l0 : Nat → List (List Int) → List (List Int) → Int → Option (Bool × Int)
 | 0, _, _, _ => none
 | k + 1, x9, x10, x11 => if x11 < (x9.length : Int) then (spec_MayMeet.l1 k x9 x10 x11 0) else (some (false, 0))
def spec_MayMeet.l1 : Nat → List (List Int) → List (List Int) → Int → Int → Option (Bool × Int)
 | 0, _, _, _, _ => none
 | k + 1, x9, x10, x11, x12 => if x12 < (x10.length : Int) then (if 0 ≤ x11 then (if x11 < (x9.length : Int) then (if 0 < ((rd_L6 x9 x11).length : Int) then (if 0 ≤ x12 then (if 1 < ((rd_L6 x10 x12).length : Int) then (if (rd (rd_L6 x9 x11) 0) ≤ (rd (rd_L6 x10 x12) 1) then (if 0 < ((rd_L6 x10 x12).length : Int) then (if 1 < ((rd_L6 x9 x11).length : Int) then (if (rd (rd_L6 x10 x12) 0) ≤ (rd (rd_L6 x9 x11) 1) then (some (true, 0)) else (spec_MayMeet.l1 k x9 x10 x11 (wrap64 (x12 + 1)))) else (none)) else (none)) else (spec_MayMeet.l1 k x9 x10 x11 (wrap64 (x12 + 1)))) else (none)) else (none)) else (none)) else (none)) else (none)) else (spec_MayMeet.l0 k x9 x10 (wrap64 (x11 + 1)))
end
def spec_MayMeet.f (k : Nat) (l0_0 : List (S104)) (l0_1 : List (S62)) (l0_2 : List (S39)) (a1 : Int) (a2 : Int) : Option (Bool × Int) := (spec_l09Code.f k l0_0 l0_1 l0_2 a1 a2).bind fun t1104 => (if t1104 = 0 then ((spec_l09Cue.f k l0_0 l0_1 l0_2 a1).bind fun t1105 => ((spec_l09Cue.f k l0_0 l0_1 l0_2 a2).bind fun t1108 => (spec_MayMeet.l0 k t1105 t1108 0))) else (some (false, t1104)))
def spec_MayMeet.T4 : Bool × List (List Nat × List Nat) := (true, [([], []), ([], []), ([0, 1], [0, 1]), ([], []), ([], []), ([3, 4, 2], [3, 4]), ([2, 5, 0, 1, 2], [2]), ([5, 6, 0, 1, 2, 3, 4, 5, 6], [5])])
def spec_MayMeet.B4 : List Nat := [0, 0, 3, 0, 0, 31, 63, 127]
theorem spec_MayMeet.tab4 : rtab .any (opsOf Try.f31 4) = spec_MayMeet.T4 := by kernel_rfl
theorem spec_MayMeet.bits4 : waitsOk spec_MayMeet.T4.2 spec_MayMeet.B4 = true := by kernel_rfl
def spec_MayMeet.T11 : Bool × List (List Nat × List Nat) := (true, [([], []), ([], []), ([0, 1], [0, 1]), ([2], [2]), ([3], [3]), ([4], [4]), ([], []), ([], []), ([6, 7], [6, 7]), ([8], [8]), ([9], [9]), ([10], [10]), ([5, 11], [5, 11]), ([12], [12]), ([13], [13]), ([13], [13]), ([14, 15, 13], [13, 14, 15]), ([16, 13], [13, 16]), ([17, 13], [13, 17]), ([18, 13], [13, 18]), ([13], [13]), ([13], [13]), ([20, 21, 13], [13, 20, 21]), ([22, 13], [13, 22]), ([23, 13], [13, 23]), ([24, 13], [13, 24]), ([19, 25, 13], [13, 19, 25]), ([13, 26], [13, 26])])
def spec_MayMeet.B11 : List Nat := [0, 0, 3, 7, 15, 31, 0, 0, 192, 448, 960, 1984, 4095, 8191, 16383, 16383, 65535, 131071, 262143, 524287, 16383, 16383, 3162111, 7356415, 15745023, 32522239, 67108863, 134217727]
theorem spec_MayMeet.tab11 : rtab .any (opsOf Try.f31 11) = spec_MayMeet.T11 := by kernel_rfl
theorem spec_MayMeet.bits11 : waitsOk spec_MayMeet.T11.2 spec_MayMeet.B11 = true := by kernel_rfl
set_option maxHeartbeats 8000000 in
set_option maxRecDepth 100000 in
theorem spec_MayMeet.calls (k : Nat) (A0_0 : Option Addr) (c0_0 : Nat) (l0_0 : List (S104)) (A0_1 : Option Addr) (c0_1 : Nat) (l0_1 : List (S62)) (A0_2 : Option Addr) (c0_2 : Nat) (l0_2 : List (S39)) (a1 : Int) (a2 : Int) (r1 : Bool) (r2 : Int) (w : World) (hr0_0 : Kd.C k104 w A0_0 l0_0.length l0_0) (hc0_0 : l0_0.length ≤ c0_0) (hr0_1 : Kd.C k62 w A0_1 l0_1.length l0_1) (hc0_1 : l0_1.length ≤ c0_1) (hr0_2 : Kd.C k39 w A0_2 l0_2.length l0_2) (hc0_2 : l0_2.length ≤ c0_2) (h : spec_MayMeet.f k l0_0 l0_1 l0_2 a1 a2 = some (r1, r2)) :
  Calls Try.prog 31 #[.agg #[.slice A0_0 l0_0.length c0_0, .slice A0_1 l0_1.length c0_1, .slice A0_2 l0_2.length c0_2], .int .i64 a1, .int .i64 a2] w fun e w' => e = .returned (.tuple #[.bool r1, .int .i64 r2]) ∧ Below w.heap.size w w' := by
 have hu28 := Try.underlying28; have HR0_0 := am_ hr0_0; have HC0_0 := am_ hc0_0; clear hr0_0 hc0_0; have HR0_1 := am_ hr0_1; have HC0_1 := am_ hc0_1; clear hr0_1 hc0_1; have HR0_2 := am_ hr0_2; have HC0_2 := am_ hc0_2; clear hr0_2 hc0_2; have HB := am_ (Below.refl w.heap.size w); have H : ((spec_l09Code.f k l0_0 l0_1 l0_2 a1 a2).bind fun t1104 => (if t1104 = 0 then ((spec_l09Cue.f k l0_0 l0_1 l0_2 a1).bind fun t1105 => ((spec_l09Cue.f k l0_0 l0_1 l0_2 a2).bind fun t1108 => (spec_MayMeet.l0 k t1105 t1108 0))) else (some (false, t1104)))) = some (r1, r2) := h; clear h; replace H := Option.bind_eq_some_iff.mp H; obtain ⟨t1104, A40, H⟩ := H; have A4 := am_ A40; clear A40; have HS_ := am_ H; clear H
 go_enter Try.func31, Try.ntmps31
 try go_wp2_with (first | ((with_reducible refine gate_dst (N := 3) rfl ?_); refine boxZ 3 #[.slice A0_0 l0_0.length c0_0, .slice A0_1 l0_1.length c0_1, .slice A0_2 l0_2.length c0_2] 28 ?_; intro gb1103 hg w8 hbox hb; replace BK1103 := am_ (hbox); replace GW1103 := am_ ((Zp : w.heap.size ≤ gb1103)); replace GE1103 := GW1103; replace HB := (bsZ Zc hb); clear hb hbox hg; refine ci3 BK1103 ?_; intros) | ((with_reducible refine gate_callee (f := 73) rfl ?_); refine gZ 16 Try.func73 #[.agg #[.slice A0_0 l0_0.length c0_0, .slice A0_1 l0_1.length c0_1, .slice A0_2 l0_2.length c0_2], .int .i64 a1, .int .i64 a2] ?_; (with_reducible refine (spec_l09Code.calls k _ _ l0_0 _ _ l0_1 _ _ l0_2 a1 a2 t1104 _ ?_ ?_ ?_ ?_ ?_ ?_ A4.out).mono ?_); exact (Zs HR0_0); exact HC0_0.out; exact (Zs HR0_1); exact HC0_1.out; exact (Zs HR0_2); exact HC0_2.out; rintro e w10 ⟨rfl, hb⟩; refine ⟨_, rfl, ?_⟩; replace BK1103 := (bkZ BK1103 hb); replace HB := (bsZ (Ze GE1103) hb); clear hb; refine ?roundEnd))
 case roundEnd =>
  by_cases c5 : t1104 = 0
  ·have H := HS_.out
   clear HS_; rw [if_pos c5] at H; have c5b0 := beq_iff_eq.mpr c5; have c5b1 := bne_eq_false_iff_eq.mpr c5; clear c5; replace H := Option.bind_eq_some_iff.mp H; obtain ⟨t1105, A60, H⟩ := H; have A6 := am_ A60; clear A60; replace H := Option.bind_eq_some_iff.mp H; obtain ⟨t1108, A70, H⟩ := H; have A7 := am_ A70; clear A70; have H' := am_ H; clear H
   try go_wp2_with (first | fail)
   replace BK1103 := am_ (blk_drew BK1103.out); replace HB := am_ (below_drew1 HB.out); refine start_ (n := 8) (S := fun w' => w'.cell? ⟨gb1103, 0, none⟩ = some (.slice A0_0 l0_0.length c0_0) ∧ w'.cell? ⟨gb1103, 1, none⟩ = some (.slice A0_1 l0_1.length c0_1) ∧ w'.cell? ⟨gb1103, 2, none⟩ = some (.slice A0_2 l0_2.length c0_2)) (ds := []) (bT 8 0) Zh rfl rfl ⟨(blk_cell BK1103.out 0).trans rfl, (blk_cell BK1103.out 1).trans rfl, (blk_cell BK1103.out 2).trans rfl⟩ (fun hHeld => ?_); refine with_tabW spec_MayMeet.tab4 spec_MayMeet.bits4 (fun HT_ HW_ => ?_); generalize w10.drew = w11 at BK1103 HB hHeld ⊢; refine pureZ HT_ 1 (some 21) (bB 8 2) ?_; refine pureZ HT_ 4 (some 24) (bB 8 18) ?_; refine takeZ3 HT_ HW_ 0 (some 20) (bB 8 19) hHeld ?_; refine takeZ3 HT_ HW_ 3 (some 23) (bB 8 27) hHeld ?_; refine one_ (i := 2) (N := some 22) (bT 8 5) rfl rfl (one_of HT_.out Zh) (by decide) (fun K hK => ?_); refine goes_ Try.func76 Zh rfl #[.agg #[.slice A0_0 l0_0.length c0_0, .slice A0_1 l0_1.length c0_1, .slice A0_2 l0_2.length c0_2], .int .i64 a1] (by rfl) rfl rfl Zq ?_
   with_reducible refine (spec_l09Cue.calls k _ _ l0_0 _ _ l0_1 _ _ l0_2 a1 t1105 _ ?side1 ?side2 ?side3 ?side4 ?side5 ?side6 A6.out).mono ?_
   (case side1 => exact (Zs HR0_0))
   (case side2 => exact HC0_0.out)
   (case side3 => exact (Zs HR0_1))
   (case side4 => exact HC0_1.out)
   (case side5 => exact (Zs HR0_2))
   (case side6 => exact HC0_2.out)
   rintro e w12 ⟨v1106, rfl, ho0, hb⟩; refine ⟨_, rfl, ?_⟩; replace HO1107 := am_ (Kd.S_lower ho0 (below_size (Ze GE1103))); replace BK1103 := (bkZ BK1103 hb); replace HB := (bsZ (Ze GE1103) hb)
   (try clear hb)
   (try clear hb2)
   (try clear hk)
   (try clear hi)
   (try clear ho0)
   refine hK.out _ _ (Zw BK1103) (fun hHeld => ?_); clear hK K; refine normZ 22 ?_; refine one_ (i := 5) (N := some 25) (bT 8 6) rfl rfl (one_of HT_.out Zh) (by decide) (fun K hK => ?_); refine goes_ Try.func76 Zh rfl #[.agg #[.slice A0_0 l0_0.length c0_0, .slice A0_1 l0_1.length c0_1, .slice A0_2 l0_2.length c0_2], .int .i64 a2] (by rfl) rfl rfl Zq ?_
   with_reducible refine (spec_l09Cue.calls k _ _ l0_0 _ _ l0_1 _ _ l0_2 a2 t1108 _ ?side1 ?side2 ?side3 ?side4 ?side5 ?side6 A7.out).mono ?_
   (case side1 => exact (Zs HR0_0))
   (case side2 => exact HC0_0.out)
   (case side3 => exact (Zs HR0_1))
   (case side4 => exact HC0_1.out)
   (case side5 => exact (Zs HR0_2))
   (case side6 => exact HC0_2.out)
   rintro e w13 ⟨v1109, rfl, ho0, hb⟩; refine ⟨_, rfl, ?_⟩; replace HO1110 := am_ (Kd.S_lower (Kd.S_new' ho0 (Kd.S_lt (Zcq HO1107))) (below_size (Ze GE1103))); replace HO1107 := am_ (Kd.S_elder' (Zcq HO1107) (Kd.S_base ho0) hb); replace BK1103 := (bkZ BK1103 hb); replace HB := (bsZ (Ze GE1103) hb)
   (try clear hb)
   (try clear hb2)
   (try clear hk)
   (try clear hi)
   (try clear ho0)
   refine hK.out _ _ (Zw BK1103) (fun hHeld => ?_); clear hK K; refine normZ 25 ?_; refine pureZ HT_ 6 (some 9) (bT 8 7) ?_; refine pureZ HT_ 7 (some 10) (bT 8 8) ?_; refine done_ (done_of HT_.out Zh) ?_
   try go_wp2
   go_loopg [11] k (fun kq v11 w' => ∃ (x11_1 : Int), v11 = .int .i64 x11_1 ∧ Aside0 (spec_MayMeet.l0 kq t1105 t1108 x11_1 = some (r1, r2)) ∧ Aside0 (kq ≤ k) ∧ Aside0 (Kd.S (Kd.slice 2 (Kd.int .i64)) 33 w' w.heap.size (fun k_ => some k_ ≠ (v1109 : Value).ownBlock) v1106 t1105) ∧ Aside0 (Kd.S (Kd.slice 2 (Kd.int .i64)) 33 w' w.heap.size (fun k_ => some k_ ≠ (v1106 : Value).ownBlock) v1109 t1108) ∧ Aside0 (w'.heap[gb1103]? = some (.cells #[(.slice A0_0 l0_0.length c0_0), (.slice A0_1 l0_1.length c0_1), (.slice A0_2 l0_2.length c0_2)] 28 (0, 0))) ∧ Aside0 (Below w.heap.size w w'))
   case atStart => exact ⟨(0), Za, H', ⟨Nat.le_refl _⟩, ⟨(Zcx HO1107)⟩, ⟨(Zcx HO1110)⟩, ⟨(Zd BK1103)⟩, ⟨(Ze GE1103)⟩⟩
   case round =>
    clear H'
    try clear p2
    try clear c3
    try clear c5
    try clear c5b0
    try clear c5b1
    try clear c7
    obtain ⟨x11_1, rfl, HA, HK1, HO_9, HO_10, BK1103, HB⟩ := hrel
    cases gk with
    | zero => exact absurd HA.out (by simp [spec_MayMeet.l0])
    | succ k1 =>
     have H := HA.out; clear HA; simp only [spec_MayMeet.l0] at H
     by_cases c14 : x11_1 < (t1105.length : Int)
     ·rw [if_pos c14] at H
      have c14b0 := decide_eq_true c14; clear c14; have H' := am_ H; clear H; obtain ⟨Ao15, co15, eo15⟩ := Kd.S_slice HO_9.out; subst eo15
      go_wp2
      go_loopg [12] k1 (fun kq v12 w' => ∃ (x12_2 : Int), v12 = .int .i64 x12_2 ∧ Aside0 (spec_MayMeet.l1 kq t1105 t1108 x11_1 x12_2 = some (r1, r2)) ∧ Aside0 (kq ≤ k1) ∧ Aside0 (Kd.S (Kd.slice 2 (Kd.int .i64)) 33 w' w.heap.size (fun k_ => some k_ ≠ (v1109 : Value).ownBlock) (.slice Ao15 t1105.length co15) t1105) ∧ Aside0 (Kd.S (Kd.slice 2 (Kd.int .i64)) 33 w' w.heap.size (fun k_ => some k_ ≠ ((.slice Ao15 t1105.length co15) : Value).ownBlock) v1109 t1108) ∧ Aside0 (w'.heap[gb1103]? = some (.cells #[(.slice A0_0 l0_0.length c0_0), (.slice A0_1 l0_1.length c0_1), (.slice A0_2 l0_2.length c0_2)] 28 (0, 0))) ∧ Aside0 (Below w.heap.size w w'))
      case atStart => exact ⟨(0), Za, H', ⟨Nat.le_refl _⟩, ⟨(Zcq HO_9)⟩, ⟨(Zcq HO_10)⟩, ⟨(Zd BK1103)⟩, ⟨(Ze GE1103)⟩⟩
      case round =>
       clear H'
       try clear c1
       try clear p2
       try clear c3
       try clear c5
       try clear c5b0
       try clear c5b1
       try clear c7
       try clear c14
       try clear c14b0
       try clear p2
       obtain ⟨x12_2, rfl, HA, HK2, HO_9, HO_10, BK1103, HB⟩ := hrel
       cases gk with
       | zero => exact absurd HA.out (by simp [spec_MayMeet.l1])
       | succ k2 =>
        have H := HA.out; clear HA; simp only [spec_MayMeet.l1] at H
        by_cases c16 : x12_2 < (t1108.length : Int)
        ·rw [if_pos c16] at H
         have c16b0 := decide_eq_true c16; clear c16
         by_cases c17 : 0 ≤ x11_1
         ·rw [if_pos c17] at H
          have c17b0 := decide_eq_true c17; clear c17
          by_cases c18 : x11_1 < (t1105.length : Int)
          ·rw [if_pos c18] at H
           have c18b0 := decide_eq_true c18; clear c18
           by_cases c19 : 0 < ((rd_L6 t1105 x11_1).length : Int)
           ·rw [if_pos c19] at H
            have c19b0 := decide_eq_true c19; have c19b1 : decide (0 < (rd_L6 t1105 x11_1).length) = true := decide_eq_true (by omega); clear c19
            by_cases c20 : 0 ≤ x12_2
            ·rw [if_pos c20] at H
             have c20b0 := decide_eq_true c20; clear c20
             by_cases c21 : 1 < ((rd_L6 t1108 x12_2).length : Int)
             ·rw [if_pos c21] at H
              have c21b0 := decide_eq_true c21; have c21b1 : decide (1 < (rd_L6 t1108 x12_2).length) = true := decide_eq_true (by omega); clear c21
              by_cases c22 : (rd (rd_L6 t1105 x11_1) 0) ≤ (rd (rd_L6 t1108 x12_2) 1)
              ·rw [if_pos c22] at H
               have c22b0 := decide_eq_true c22; clear c22
               by_cases c23 : 0 < ((rd_L6 t1108 x12_2).length : Int)
               ·rw [if_pos c23] at H
                have c23b0 := decide_eq_true c23; have c23b1 : decide (0 < (rd_L6 t1108 x12_2).length) = true := decide_eq_true (by omega); clear c23
                by_cases c24 : 1 < ((rd_L6 t1105 x11_1).length : Int)
                ·rw [if_pos c24] at H
                 have c24b0 := decide_eq_true c24; have c24b1 : decide (1 < (rd_L6 t1105 x11_1).length) = true := decide_eq_true (by omega); clear c24
                 by_cases c25 : (rd (rd_L6 t1108 x12_2) 0) ≤ (rd (rd_L6 t1105 x11_1) 1)
                 ·rw [if_pos c25] at H
                  have c25b0 := decide_eq_true c25; clear c25; simp only [Option.some.injEq, Prod.mk.injEq] at H; obtain ⟨rfl, rfl⟩ := H; obtain ⟨Ao26, co26, eo26⟩ := Kd.S_slice HO_10.out; subst eo26
                  try go_wp2
                  replace HO_9 := am_ (Kd.S_drew HO_9.out); replace HO_10 := am_ (Kd.S_drew HO_10.out); replace BK1103 := am_ (blk_drew BK1103.out); replace HB := am_ (below_drew1 HB.out); have p1111 : 0 ≤ (x11_1 : Int) := of_decide_eq_true Zg; have q1111 : x11_1 < (t1105.length : Int) := of_decide_eq_true Zg; obtain ⟨ad1111, A1111_0, c1111_0, e1111, hx1111_0, hl1111_0, hi1111_0⟩ := at_L6 (Kd.S_reads' HO_9.out).2.2 x11_1 p1111 q1111
                  cases e1111
                  obtain ⟨ce1111, hce1111, hMe1111, hcc1111⟩ := Kd.S_get HO_9.out [] x11_1 p1111 (Zcz HO_9); obtain ⟨ve1111_0, rfl, ge1111_0⟩ := hMe1111; have hv1111_0 := hcc1111 0 _ rfl; rw [Nat.add_zero, show ((Kd.slice 2 (Kd.int .i64))).sz = 1 from rfl, Nat.mul_one] at hv1111_0; replace hv1111_0 := Option.some.inj (hv1111_0.symm.trans hx1111_0); rw [hv1111_0] at ge1111_0; have HL1111_0 := am_ (show Kd.R (Kd.int .i64) 2 _ _ _ _ (rd_L6 t1105 x11_1) from ge1111_0); clear hv1111_0 ge1111_0; clear hcc1111 hce1111; have HR1111_0 := am_ hi1111_0; have HC1111_0 := am_ hl1111_0; clear hi1111_0 hl1111_0; replace p1111 := eq_true p1111; replace q1111 := eq_true q1111; have p1112 : 0 ≤ (0 : Int) := (by omega); have q1112 : 0 < ((rd_L6 t1105 x11_1).length : Int) := of_decide_eq_true Zg; obtain ⟨ad1112, e1112, hx1112_0⟩ := Kd.at_int (Zcs HR1111_0) 0 p1112 q1112
                  cases e1112
                  have qi1112 : (0 < (rd_L6 t1105 x11_1).length) = True := eq_true (by omega)
                  (try rw [show ((0 : Int)).toNat = 0 from rfl] at hx1112_0)
                  (try rw [Addr.add_zero'] at hx1112_0)
                  replace p1112 := eq_true p1112; replace q1112 := eq_true q1112; have p1113 : 0 ≤ (x12_2 : Int) := of_decide_eq_true Zg; have q1113 : x12_2 < (t1108.length : Int) := of_decide_eq_true Zg; obtain ⟨ad1113, A1113_0, c1113_0, e1113, hx1113_0, hl1113_0, hi1113_0⟩ := at_L6 (Kd.S_reads' HO_10.out).2.2 x12_2 p1113 q1113
                  cases e1113
                  obtain ⟨ce1113, hce1113, hMe1113, hcc1113⟩ := Kd.S_get HO_10.out [] x12_2 p1113 (Zda HO_10); obtain ⟨ve1113_0, rfl, ge1113_0⟩ := hMe1113; have hv1113_0 := hcc1113 0 _ rfl; rw [Nat.add_zero, show ((Kd.slice 2 (Kd.int .i64))).sz = 1 from rfl, Nat.mul_one] at hv1113_0; replace hv1113_0 := Option.some.inj (hv1113_0.symm.trans hx1113_0); rw [hv1113_0] at ge1113_0; have HL1113_0 := am_ (show Kd.R (Kd.int .i64) 2 _ _ _ _ (rd_L6 t1108 x12_2) from ge1113_0); clear hv1113_0 ge1113_0; clear hcc1113 hce1113; have HR1113_0 := am_ hi1113_0; have HC1113_0 := am_ hl1113_0; clear hi1113_0 hl1113_0; replace p1113 := eq_true p1113; replace q1113 := eq_true q1113; have p1114 : 0 ≤ (1 : Int) := (by omega); have q1114 : 1 < ((rd_L6 t1108 x12_2).length : Int) := of_decide_eq_true Zg; obtain ⟨ad1114, e1114, hx1114_0⟩ := Kd.at_int (Zcs HR1113_0) 1 p1114 q1114
                  cases e1114
                  (try simp only [show (1 : Int).toNat = 1 from rfl, Nat.reduceMul, Nat.reduceEqDiff, Go.Addr.add, ↓reduceIte] at hx1114_0)
                  have qi1114 : (1 < (rd_L6 t1108 x12_2).length) = True := eq_true (by omega)
                  (try rw [show ((1 : Int)).toNat = 1 from rfl] at hx1114_0)
                  replace p1114 := eq_true p1114; replace q1114 := eq_true q1114; have p1115 : 0 ≤ (x12_2 : Int) := of_decide_eq_true Zg; have q1115 : x12_2 < (t1108.length : Int) := of_decide_eq_true Zg; obtain ⟨ad1115, A1115_0, c1115_0, e1115, hx1115_0, hl1115_0, hi1115_0⟩ := at_L6 (Kd.S_reads' HO_10.out).2.2 x12_2 p1115 q1115; obtain rfl : ad1113 = ad1115 := (by injection e1115); obtain ⟨ce1115, hce1115, hMe1115, hcc1115⟩ := Kd.S_get HO_10.out [] x12_2 p1115 (by first | exact q1115 | exact of_decide_eq_true Zg | (have e_ := (Kd.S_reads' HO_10.out).1; omega)); obtain ⟨ve1115_0, rfl, ge1115_0⟩ := hMe1115; have hv1115_0 := hcc1115 0 _ rfl; rw [Nat.add_zero, show ((Kd.slice 2 (Kd.int .i64))).sz = 1 from rfl, Nat.mul_one] at hv1115_0; replace hv1115_0 := Option.some.inj (hv1115_0.symm.trans hx1115_0); rw [hv1115_0] at ge1115_0; have HL1115_0 := am_ (show Kd.R (Kd.int .i64) 2 _ _ _ _ (rd_L6 t1108 x12_2) from ge1115_0); clear hv1115_0 ge1115_0; clear hcc1115 hce1115; have HR1115_0 := am_ hi1115_0; have HC1115_0 := am_ hl1115_0; clear hi1115_0 hl1115_0; replace p1115 := eq_true p1115; replace q1115 := eq_true q1115; have ea_ := Option.some.inj (hx1113_0.symm.trans hx1115_0); injection ea_ with ea_ en_ ec_; subst ea_; subst ec_; clear en_; have p1116 : 0 ≤ (0 : Int) := (by omega); have q1116 : 0 < ((rd_L6 t1108 x12_2).length : Int) := of_decide_eq_true Zg; obtain ⟨ad1116, e1116, hx1116_0⟩ := Kd.at_int (Zcs HR1115_0) 0 p1116 q1116
                  cases e1116
                  have qi1116 : (0 < (rd_L6 t1108 x12_2).length) = True := eq_true (by omega)
                  (try rw [show ((0 : Int)).toNat = 0 from rfl] at hx1116_0)
                  (try rw [Addr.add_zero'] at hx1116_0)
                  replace p1116 := eq_true p1116; replace q1116 := eq_true q1116; have p1117 : 0 ≤ (x11_1 : Int) := of_decide_eq_true Zg; have q1117 : x11_1 < (t1105.length : Int) := of_decide_eq_true Zg; obtain ⟨ad1117, A1117_0, c1117_0, e1117, hx1117_0, hl1117_0, hi1117_0⟩ := at_L6 (Kd.S_reads' HO_9.out).2.2 x11_1 p1117 q1117; obtain rfl : ad1111 = ad1117 := (by injection e1117); obtain ⟨ce1117, hce1117, hMe1117, hcc1117⟩ := Kd.S_get HO_9.out [] x11_1 p1117 (by first | exact q1117 | exact of_decide_eq_true Zg | (have e_ := (Kd.S_reads' HO_9.out).1; omega)); obtain ⟨ve1117_0, rfl, ge1117_0⟩ := hMe1117; have hv1117_0 := hcc1117 0 _ rfl; rw [Nat.add_zero, show ((Kd.slice 2 (Kd.int .i64))).sz = 1 from rfl, Nat.mul_one] at hv1117_0; replace hv1117_0 := Option.some.inj (hv1117_0.symm.trans hx1117_0); rw [hv1117_0] at ge1117_0; have HL1117_0 := am_ (show Kd.R (Kd.int .i64) 2 _ _ _ _ (rd_L6 t1105 x11_1) from ge1117_0); clear hv1117_0 ge1117_0; clear hcc1117 hce1117; have HR1117_0 := am_ hi1117_0; have HC1117_0 := am_ hl1117_0; clear hi1117_0 hl1117_0; replace p1117 := eq_true p1117; replace q1117 := eq_true q1117; have ea_ := Option.some.inj (hx1111_0.symm.trans hx1117_0); injection ea_ with ea_ en_ ec_; subst ea_; subst ec_; clear en_; have p1118 : 0 ≤ (1 : Int) := (by omega); have q1118 : 1 < ((rd_L6 t1105 x11_1).length : Int) := of_decide_eq_true Zg; obtain ⟨ad1118, e1118, hx1118_0⟩ := Kd.at_int (Zcs HR1117_0) 1 p1118 q1118
                  cases e1118
                  (try simp only [show (1 : Int).toNat = 1 from rfl, Nat.reduceMul, Nat.reduceEqDiff, Go.Addr.add, ↓reduceIte] at hx1118_0)
                  have qi1118 : (1 < (rd_L6 t1105 x11_1).length) = True := eq_true (by omega)
                  (try rw [show ((1 : Int)).toNat = 1 from rfl] at hx1118_0)
                  replace p1118 := eq_true p1118; replace q1118 := eq_true q1118; refine start_ (n := 28) (S := fun w' => w'.cell? (ad1111.add (x11_1).toNat) = some (.slice (some ad1112) (rd_L6 t1105 x11_1).length c1111_0) ∧ w'.cell? ad1112 = some (.int .i64 (rd (rd_L6 t1105 x11_1) 0)) ∧ w'.cell? (ad1113.add (x12_2).toNat) = some (.slice (some ad1114) (rd_L6 t1108 x12_2).length c1113_0) ∧ w'.cell? ⟨ad1114.block, ad1114.off + 1, none⟩ = some (.int .i64 (rd (rd_L6 t1108 x12_2) 1)) ∧ w'.cell? (ad1113.add (x12_2).toNat) = some (.slice (some ad1114) (rd_L6 t1108 x12_2).length c1113_0) ∧ w'.cell? ad1114 = some (.int .i64 (rd (rd_L6 t1108 x12_2) 0)) ∧ w'.cell? (ad1111.add (x11_1).toNat) = some (.slice (some ad1112) (rd_L6 t1105 x11_1).length c1111_0) ∧ w'.cell? ⟨ad1112.block, ad1112.off + 1, none⟩ = some (.int .i64 (rd (rd_L6 t1105 x11_1) 1))) (ds := []) (bT 28 0) Zh rfl rfl ⟨hx1111_0, hx1112_0, hx1113_0, hx1114_0, hx1115_0, hx1116_0, hx1117_0, hx1118_0⟩ (fun hHeld => ?_); refine with_tabW spec_MayMeet.tab11 spec_MayMeet.bits11 (fun HT_ HW_ => ?_); generalize wr.drew = w27 at HO_9 HO_10 BK1103 HB HL1111_0 HL1113_0 HL1115_0 HL1117_0 HR1111_0 HR1113_0 HR1115_0 HR1117_0 hx1111_0 hx1112_0 hx1113_0 hx1114_0 hx1115_0 hx1116_0 hx1117_0 hx1118_0 hHeld ⊢; refine pureZ HT_ 0 (some 38) (bT 28 1) ?_; refine pureZ HT_ 1 (some 39) (bT 28 2) ?_; refine pureZ HT_ 2 (some 40) (bT 28 3) ?_; refine pureZ HT_ 6 (some 44) (bB 28 71) ?_; refine pureZ HT_ 7 (some 45) (bB 28 199) ?_; refine pureZ HT_ 8 (some 46) (bB 28 455) ?_; refine takeZ8 HT_ HW_ 3 (some 41) (bB 28 463) hHeld ?_; refine pureZ HT_ 4 (some 42) (bB 28 479) ?_; refine takeZ8 HT_ HW_ 5 (some 43) (bT 28 9) hHeld ?_; refine takeZ8 HT_ HW_ 9 (some 47) (bT 28 10) hHeld ?_; refine pureZ HT_ 10 (some 48) (bT 28 11) ?_; refine takeZ8 HT_ HW_ 11 (some 49) (bT 28 12) hHeld ?_; refine pureZ HT_ 12 (some 50) (bT 28 13) ?_; refine pureZ HT_ 13 (some 51) (bT 28 14) ?_; refine pureZ HT_ 14 (some 52) (bT 28 15) ?_; refine pureZ HT_ 15 (some 53) (bT 28 16) ?_; refine pureZ HT_ 16 (some 54) (bT 28 17) ?_; refine pureZ HT_ 20 (some 58) (bB 28 1179647) ?_; refine pureZ HT_ 21 (some 59) (bB 28 3276799) ?_; refine pureZ HT_ 22 (some 60) (bB 28 7471103) ?_; refine takeZ8 HT_ HW_ 17 (some 55) (bB 28 7602175) hHeld ?_; refine pureZ HT_ 18 (some 56) (bB 28 7864319) ?_; refine takeZ8 HT_ HW_ 19 (some 57) (bT 28 23) hHeld ?_; refine takeZ8 HT_ HW_ 23 (some 61) (bT 28 24) hHeld ?_; refine pureZ HT_ 24 (some 62) (bT 28 25) ?_; refine takeZ8 HT_ HW_ 25 (some 63) (bT 28 26) hHeld ?_; refine pureZ HT_ 26 (some 64) (bT 28 27) ?_; refine pureZ HT_ 27 (some 65) (bT 28 28) ?_; refine done_ (done_of HT_.out Zh) ?_
                  try go_wp2
                  go_ret2
                  exact ⟨Zj, (Ze GE1103)⟩
                 ·rw [if_neg c25] at H
                  have c25b0 := decide_eq_false c25; clear c25; have H' := am_ H; clear H; obtain ⟨Ao28, co28, eo28⟩ := Kd.S_slice HO_10.out; subst eo28
                  try go_wp2
                  replace HO_9 := am_ (Kd.S_drew HO_9.out); replace HO_10 := am_ (Kd.S_drew HO_10.out); replace BK1103 := am_ (blk_drew BK1103.out); replace HB := am_ (below_drew1 HB.out); have p1111 : 0 ≤ (x11_1 : Int) := of_decide_eq_true Zg; have q1111 : x11_1 < (t1105.length : Int) := of_decide_eq_true Zg; obtain ⟨ad1111, A1111_0, c1111_0, e1111, hx1111_0, hl1111_0, hi1111_0⟩ := at_L6 (Kd.S_reads' HO_9.out).2.2 x11_1 p1111 q1111
                  cases e1111
                  obtain ⟨ce1111, hce1111, hMe1111, hcc1111⟩ := Kd.S_get HO_9.out [] x11_1 p1111 (Zcz HO_9); obtain ⟨ve1111_0, rfl, ge1111_0⟩ := hMe1111; have hv1111_0 := hcc1111 0 _ rfl; rw [Nat.add_zero, show ((Kd.slice 2 (Kd.int .i64))).sz = 1 from rfl, Nat.mul_one] at hv1111_0; replace hv1111_0 := Option.some.inj (hv1111_0.symm.trans hx1111_0); rw [hv1111_0] at ge1111_0; have HL1111_0 := am_ (show Kd.R (Kd.int .i64) 2 _ _ _ _ (rd_L6 t1105 x11_1) from ge1111_0); clear hv1111_0 ge1111_0; clear hcc1111 hce1111; have HR1111_0 := am_ hi1111_0; have HC1111_0 := am_ hl1111_0; clear hi1111_0 hl1111_0; replace p1111 := eq_true p1111; replace q1111 := eq_true q1111; have p1112 : 0 ≤ (0 : Int) := (by omega); have q1112 : 0 < ((rd_L6 t1105 x11_1).length : Int) := of_decide_eq_true Zg; obtain ⟨ad1112, e1112, hx1112_0⟩ := Kd.at_int (Zcs HR1111_0) 0 p1112 q1112
                  cases e1112
                  have qi1112 : (0 < (rd_L6 t1105 x11_1).length) = True := eq_true (by omega)
                  (try rw [show ((0 : Int)).toNat = 0 from rfl] at hx1112_0)
                  (try rw [Addr.add_zero'] at hx1112_0)
                  replace p1112 := eq_true p1112; replace q1112 := eq_true q1112; have p1113 : 0 ≤ (x12_2 : Int) := of_decide_eq_true Zg; have q1113 : x12_2 < (t1108.length : Int) := of_decide_eq_true Zg; obtain ⟨ad1113, A1113_0, c1113_0, e1113, hx1113_0, hl1113_0, hi1113_0⟩ := at_L6 (Kd.S_reads' HO_10.out).2.2 x12_2 p1113 q1113
                  cases e1113
                  obtain ⟨ce1113, hce1113, hMe1113, hcc1113⟩ := Kd.S_get HO_10.out [] x12_2 p1113 (Zda HO_10); obtain ⟨ve1113_0, rfl, ge1113_0⟩ := hMe1113; have hv1113_0 := hcc1113 0 _ rfl; rw [Nat.add_zero, show ((Kd.slice 2 (Kd.int .i64))).sz = 1 from rfl, Nat.mul_one] at hv1113_0; replace hv1113_0 := Option.some.inj (hv1113_0.symm.trans hx1113_0); rw [hv1113_0] at ge1113_0; have HL1113_0 := am_ (show Kd.R (Kd.int .i64) 2 _ _ _ _ (rd_L6 t1108 x12_2) from ge1113_0); clear hv1113_0 ge1113_0; clear hcc1113 hce1113; have HR1113_0 := am_ hi1113_0; have HC1113_0 := am_ hl1113_0; clear hi1113_0 hl1113_0; replace p1113 := eq_true p1113; replace q1113 := eq_true q1113; have p1114 : 0 ≤ (1 : Int) := (by omega); have q1114 : 1 < ((rd_L6 t1108 x12_2).length : Int) := of_decide_eq_true Zg; obtain ⟨ad1114, e1114, hx1114_0⟩ := Kd.at_int (Zcs HR1113_0) 1 p1114 q1114
                  cases e1114
                  (try simp only [show (1 : Int).toNat = 1 from rfl, Nat.reduceMul, Nat.reduceEqDiff, Go.Addr.add, ↓reduceIte] at hx1114_0)
                  have qi1114 : (1 < (rd_L6 t1108 x12_2).length) = True := eq_true (by omega)
                  (try rw [show ((1 : Int)).toNat = 1 from rfl] at hx1114_0)
                  replace p1114 := eq_true p1114; replace q1114 := eq_true q1114; have p1115 : 0 ≤ (x12_2 : Int) := of_decide_eq_true Zg; have q1115 : x12_2 < (t1108.length : Int) := of_decide_eq_true Zg; obtain ⟨ad1115, A1115_0, c1115_0, e1115, hx1115_0, hl1115_0, hi1115_0⟩ := at_L6 (Kd.S_reads' HO_10.out).2.2 x12_2 p1115 q1115; obtain rfl : ad1113 = ad1115 := (by injection e1115); obtain ⟨ce1115, hce1115, hMe1115, hcc1115⟩ := Kd.S_get HO_10.out [] x12_2 p1115 (by first | exact q1115 | exact of_decide_eq_true Zg | (have e_ := (Kd.S_reads' HO_10.out).1; omega)); obtain ⟨ve1115_0, rfl, ge1115_0⟩ := hMe1115; have hv1115_0 := hcc1115 0 _ rfl; rw [Nat.add_zero, show ((Kd.slice 2 (Kd.int .i64))).sz = 1 from rfl, Nat.mul_one] at hv1115_0; replace hv1115_0 := Option.some.inj (hv1115_0.symm.trans hx1115_0); rw [hv1115_0] at ge1115_0; have HL1115_0 := am_ (show Kd.R (Kd.int .i64) 2 _ _ _ _ (rd_L6 t1108 x12_2) from ge1115_0); clear hv1115_0 ge1115_0; clear hcc1115 hce1115; have HR1115_0 := am_ hi1115_0; have HC1115_0 := am_ hl1115_0; clear hi1115_0 hl1115_0; replace p1115 := eq_true p1115; replace q1115 := eq_true q1115; have ea_ := Option.some.inj (hx1113_0.symm.trans hx1115_0); injection ea_ with ea_ en_ ec_; subst ea_; subst ec_; clear en_; have p1116 : 0 ≤ (0 : Int) := (by omega); have q1116 : 0 < ((rd_L6 t1108 x12_2).length : Int) := of_decide_eq_true Zg; obtain ⟨ad1116, e1116, hx1116_0⟩ := Kd.at_int (Zcs HR1115_0) 0 p1116 q1116
                  cases e1116
                  have qi1116 : (0 < (rd_L6 t1108 x12_2).length) = True := eq_true (by omega)
                  (try rw [show ((0 : Int)).toNat = 0 from rfl] at hx1116_0)
                  (try rw [Addr.add_zero'] at hx1116_0)
                  replace p1116 := eq_true p1116; replace q1116 := eq_true q1116; have p1117 : 0 ≤ (x11_1 : Int) := of_decide_eq_true Zg; have q1117 : x11_1 < (t1105.length : Int) := of_decide_eq_true Zg; obtain ⟨ad1117, A1117_0, c1117_0, e1117, hx1117_0, hl1117_0, hi1117_0⟩ := at_L6 (Kd.S_reads' HO_9.out).2.2 x11_1 p1117 q1117; obtain rfl : ad1111 = ad1117 := (by injection e1117); obtain ⟨ce1117, hce1117, hMe1117, hcc1117⟩ := Kd.S_get HO_9.out [] x11_1 p1117 (by first | exact q1117 | exact of_decide_eq_true Zg | (have e_ := (Kd.S_reads' HO_9.out).1; omega)); obtain ⟨ve1117_0, rfl, ge1117_0⟩ := hMe1117; have hv1117_0 := hcc1117 0 _ rfl; rw [Nat.add_zero, show ((Kd.slice 2 (Kd.int .i64))).sz = 1 from rfl, Nat.mul_one] at hv1117_0; replace hv1117_0 := Option.some.inj (hv1117_0.symm.trans hx1117_0); rw [hv1117_0] at ge1117_0; have HL1117_0 := am_ (show Kd.R (Kd.int .i64) 2 _ _ _ _ (rd_L6 t1105 x11_1) from ge1117_0); clear hv1117_0 ge1117_0; clear hcc1117 hce1117; have HR1117_0 := am_ hi1117_0; have HC1117_0 := am_ hl1117_0; clear hi1117_0 hl1117_0; replace p1117 := eq_true p1117; replace q1117 := eq_true q1117; have ea_ := Option.some.inj (hx1111_0.symm.trans hx1117_0); injection ea_ with ea_ en_ ec_; subst ea_; subst ec_; clear en_; have p1118 : 0 ≤ (1 : Int) := (by omega); have q1118 : 1 < ((rd_L6 t1105 x11_1).length : Int) := of_decide_eq_true Zg; obtain ⟨ad1118, e1118, hx1118_0⟩ := Kd.at_int (Zcs HR1117_0) 1 p1118 q1118
                  cases e1118
                  (try simp only [show (1 : Int).toNat = 1 from rfl, Nat.reduceMul, Nat.reduceEqDiff, Go.Addr.add, ↓reduceIte] at hx1118_0)
                  have qi1118 : (1 < (rd_L6 t1105 x11_1).length) = True := eq_true (by omega)
                  (try rw [show ((1 : Int)).toNat = 1 from rfl] at hx1118_0)
                  replace p1118 := eq_true p1118; replace q1118 := eq_true q1118; refine start_ (n := 28) (S := fun w' => w'.cell? (ad1111.add (x11_1).toNat) = some (.slice (some ad1112) (rd_L6 t1105 x11_1).length c1111_0) ∧ w'.cell? ad1112 = some (.int .i64 (rd (rd_L6 t1105 x11_1) 0)) ∧ w'.cell? (ad1113.add (x12_2).toNat) = some (.slice (some ad1114) (rd_L6 t1108 x12_2).length c1113_0) ∧ w'.cell? ⟨ad1114.block, ad1114.off + 1, none⟩ = some (.int .i64 (rd (rd_L6 t1108 x12_2) 1)) ∧ w'.cell? (ad1113.add (x12_2).toNat) = some (.slice (some ad1114) (rd_L6 t1108 x12_2).length c1113_0) ∧ w'.cell? ad1114 = some (.int .i64 (rd (rd_L6 t1108 x12_2) 0)) ∧ w'.cell? (ad1111.add (x11_1).toNat) = some (.slice (some ad1112) (rd_L6 t1105 x11_1).length c1111_0) ∧ w'.cell? ⟨ad1112.block, ad1112.off + 1, none⟩ = some (.int .i64 (rd (rd_L6 t1105 x11_1) 1))) (ds := []) (bT 28 0) Zh rfl rfl ⟨hx1111_0, hx1112_0, hx1113_0, hx1114_0, hx1115_0, hx1116_0, hx1117_0, hx1118_0⟩ (fun hHeld => ?_); refine with_tabW spec_MayMeet.tab11 spec_MayMeet.bits11 (fun HT_ HW_ => ?_); generalize wr.drew = w29 at HO_9 HO_10 BK1103 HB HL1111_0 HL1113_0 HL1115_0 HL1117_0 HR1111_0 HR1113_0 HR1115_0 HR1117_0 hx1111_0 hx1112_0 hx1113_0 hx1114_0 hx1115_0 hx1116_0 hx1117_0 hx1118_0 hHeld ⊢; refine pureZ HT_ 0 (some 38) (bT 28 1) ?_; refine pureZ HT_ 1 (some 39) (bT 28 2) ?_; refine pureZ HT_ 2 (some 40) (bT 28 3) ?_; refine pureZ HT_ 6 (some 44) (bB 28 71) ?_; refine pureZ HT_ 7 (some 45) (bB 28 199) ?_; refine pureZ HT_ 8 (some 46) (bB 28 455) ?_; refine takeZ8 HT_ HW_ 3 (some 41) (bB 28 463) hHeld ?_; refine pureZ HT_ 4 (some 42) (bB 28 479) ?_; refine takeZ8 HT_ HW_ 5 (some 43) (bT 28 9) hHeld ?_; refine takeZ8 HT_ HW_ 9 (some 47) (bT 28 10) hHeld ?_; refine pureZ HT_ 10 (some 48) (bT 28 11) ?_; refine takeZ8 HT_ HW_ 11 (some 49) (bT 28 12) hHeld ?_; refine pureZ HT_ 12 (some 50) (bT 28 13) ?_; refine pureZ HT_ 13 (some 51) (bT 28 14) ?_; refine pureZ HT_ 14 (some 52) (bT 28 15) ?_; refine pureZ HT_ 15 (some 53) (bT 28 16) ?_; refine pureZ HT_ 16 (some 54) (bT 28 17) ?_; refine pureZ HT_ 20 (some 58) (bB 28 1179647) ?_; refine pureZ HT_ 21 (some 59) (bB 28 3276799) ?_; refine pureZ HT_ 22 (some 60) (bB 28 7471103) ?_; refine takeZ8 HT_ HW_ 17 (some 55) (bB 28 7602175) hHeld ?_; refine pureZ HT_ 18 (some 56) (bB 28 7864319) ?_; refine takeZ8 HT_ HW_ 19 (some 57) (bT 28 23) hHeld ?_; refine takeZ8 HT_ HW_ 23 (some 61) (bT 28 24) hHeld ?_; refine pureZ HT_ 24 (some 62) (bT 28 25) ?_; refine takeZ8 HT_ HW_ 25 (some 63) (bT 28 26) hHeld ?_; refine pureZ HT_ 26 (some 64) (bT 28 27) ?_; refine pureZ HT_ 27 (some 65) (bT 28 28) ?_; refine done_ (done_of HT_.out Zh) ?_
                  try go_wp2
                  go_roundg k2
                  case measure => have := HK1.out; have := HK2.out; omega
                  case rel => exact ⟨(wrap64 (x12_2 + 1)), Za, H', ⟨Zcc⟩, ⟨(Zcq HO_9)⟩, ⟨(Zcq HO_10)⟩, ⟨(Zd BK1103)⟩, ⟨(Ze GE1103)⟩⟩
                ·rw [if_neg c24] at H
                 exact absurd H (by simp)
               ·rw [if_neg c23] at H
                exact absurd H (by simp)
              ·rw [if_neg c22] at H
               have c22b0 := decide_eq_false c22; clear c22; have H' := am_ H; clear H; obtain ⟨Ao30, co30, eo30⟩ := Kd.S_slice HO_10.out; subst eo30
               try go_wp2
               replace HO_9 := am_ (Kd.S_drew HO_9.out); replace HO_10 := am_ (Kd.S_drew HO_10.out); replace BK1103 := am_ (blk_drew BK1103.out); replace HB := am_ (below_drew1 HB.out); have p1111 : 0 ≤ (x11_1 : Int) := of_decide_eq_true Zg; have q1111 : x11_1 < (t1105.length : Int) := of_decide_eq_true Zg; obtain ⟨ad1111, A1111_0, c1111_0, e1111, hx1111_0, hl1111_0, hi1111_0⟩ := at_L6 (Kd.S_reads' HO_9.out).2.2 x11_1 p1111 q1111
               cases e1111
               obtain ⟨ce1111, hce1111, hMe1111, hcc1111⟩ := Kd.S_get HO_9.out [] x11_1 p1111 (Zcz HO_9); obtain ⟨ve1111_0, rfl, ge1111_0⟩ := hMe1111; have hv1111_0 := hcc1111 0 _ rfl; rw [Nat.add_zero, show ((Kd.slice 2 (Kd.int .i64))).sz = 1 from rfl, Nat.mul_one] at hv1111_0; replace hv1111_0 := Option.some.inj (hv1111_0.symm.trans hx1111_0); rw [hv1111_0] at ge1111_0; have HL1111_0 := am_ (show Kd.R (Kd.int .i64) 2 _ _ _ _ (rd_L6 t1105 x11_1) from ge1111_0); clear hv1111_0 ge1111_0; clear hcc1111 hce1111; have HR1111_0 := am_ hi1111_0; have HC1111_0 := am_ hl1111_0; clear hi1111_0 hl1111_0; replace p1111 := eq_true p1111; replace q1111 := eq_true q1111; have p1112 : 0 ≤ (0 : Int) := (by omega); have q1112 : 0 < ((rd_L6 t1105 x11_1).length : Int) := of_decide_eq_true Zg; obtain ⟨ad1112, e1112, hx1112_0⟩ := Kd.at_int (Zcs HR1111_0) 0 p1112 q1112
               cases e1112
               have qi1112 : (0 < (rd_L6 t1105 x11_1).length) = True := eq_true (by omega)
               (try rw [show ((0 : Int)).toNat = 0 from rfl] at hx1112_0)
               (try rw [Addr.add_zero'] at hx1112_0)
               replace p1112 := eq_true p1112; replace q1112 := eq_true q1112; have p1113 : 0 ≤ (x12_2 : Int) := of_decide_eq_true Zg; have q1113 : x12_2 < (t1108.length : Int) := of_decide_eq_true Zg; obtain ⟨ad1113, A1113_0, c1113_0, e1113, hx1113_0, hl1113_0, hi1113_0⟩ := at_L6 (Kd.S_reads' HO_10.out).2.2 x12_2 p1113 q1113
               cases e1113
               obtain ⟨ce1113, hce1113, hMe1113, hcc1113⟩ := Kd.S_get HO_10.out [] x12_2 p1113 (Zda HO_10); obtain ⟨ve1113_0, rfl, ge1113_0⟩ := hMe1113; have hv1113_0 := hcc1113 0 _ rfl; rw [Nat.add_zero, show ((Kd.slice 2 (Kd.int .i64))).sz = 1 from rfl, Nat.mul_one] at hv1113_0; replace hv1113_0 := Option.some.inj (hv1113_0.symm.trans hx1113_0); rw [hv1113_0] at ge1113_0; have HL1113_0 := am_ (show Kd.R (Kd.int .i64) 2 _ _ _ _ (rd_L6 t1108 x12_2) from ge1113_0); clear hv1113_0 ge1113_0; clear hcc1113 hce1113; have HR1113_0 := am_ hi1113_0; have HC1113_0 := am_ hl1113_0; clear hi1113_0 hl1113_0; replace p1113 := eq_true p1113; replace q1113 := eq_true q1113; have p1114 : 0 ≤ (1 : Int) := (by omega); have q1114 : 1 < ((rd_L6 t1108 x12_2).length : Int) := of_decide_eq_true Zg; obtain ⟨ad1114, e1114, hx1114_0⟩ := Kd.at_int (Zcs HR1113_0) 1 p1114 q1114
               cases e1114
               (try simp only [show (1 : Int).toNat = 1 from rfl, Nat.reduceMul, Nat.reduceEqDiff, Go.Addr.add, ↓reduceIte] at hx1114_0)
               have qi1114 : (1 < (rd_L6 t1108 x12_2).length) = True := eq_true (by omega)
               (try rw [show ((1 : Int)).toNat = 1 from rfl] at hx1114_0)
               replace p1114 := eq_true p1114; replace q1114 := eq_true q1114; refine start_ (n := 28) (S := fun w' => w'.cell? (ad1111.add (x11_1).toNat) = some (.slice (some ad1112) (rd_L6 t1105 x11_1).length c1111_0) ∧ w'.cell? ad1112 = some (.int .i64 (rd (rd_L6 t1105 x11_1) 0)) ∧ w'.cell? (ad1113.add (x12_2).toNat) = some (.slice (some ad1114) (rd_L6 t1108 x12_2).length c1113_0) ∧ w'.cell? ⟨ad1114.block, ad1114.off + 1, none⟩ = some (.int .i64 (rd (rd_L6 t1108 x12_2) 1))) (ds := []) (bT 28 0) Zh rfl rfl ⟨hx1111_0, hx1112_0, hx1113_0, hx1114_0⟩ (fun hHeld => ?_); refine with_tabW spec_MayMeet.tab11 spec_MayMeet.bits11 (fun HT_ HW_ => ?_); generalize wr.drew = w31 at HO_9 HO_10 BK1103 HB HL1111_0 HL1113_0 HR1111_0 HR1113_0 hx1111_0 hx1112_0 hx1113_0 hx1114_0 hHeld ⊢; refine pureZ HT_ 0 (some 38) (bT 28 1) ?_; refine pureZ HT_ 1 (some 39) (bT 28 2) ?_; refine pureZ HT_ 2 (some 40) (bT 28 3) ?_; refine pureZ HT_ 6 (some 44) (bB 28 71) ?_; refine pureZ HT_ 7 (some 45) (bB 28 199) ?_; refine pureZ HT_ 8 (some 46) (bB 28 455) ?_; refine takeZ4 HT_ HW_ 3 (some 41) (bB 28 463) hHeld ?_; refine pureZ HT_ 4 (some 42) (bB 28 479) ?_; refine takeZ4 HT_ HW_ 5 (some 43) (bT 28 9) hHeld ?_; refine takeZ4 HT_ HW_ 9 (some 47) (bT 28 10) hHeld ?_; refine pureZ HT_ 10 (some 48) (bT 28 11) ?_; refine takeZ4 HT_ HW_ 11 (some 49) (bT 28 12) hHeld ?_; refine pureZ HT_ 12 (some 50) (bT 28 13) ?_; refine pureZ HT_ 13 (some 51) (bT 28 14) ?_; refine pureU HT_ 14 (some 52) (bT 28 15) ?_; refine pureU HT_ 15 (some 53) (bT 28 16) ?_; refine pureU HT_ 16 (some 54) (bT 28 17) ?_; refine pureU HT_ 17 (some 55) (bT 28 18) ?_; refine pureU HT_ 18 (some 56) (bT 28 19) ?_; refine pureU HT_ 19 (some 57) (bT 28 20) ?_; refine pureU HT_ 20 (some 58) (bT 28 21) ?_; refine pureU HT_ 21 (some 59) (bT 28 22) ?_; refine pureU HT_ 22 (some 60) (bT 28 23) ?_; refine pureU HT_ 23 (some 61) (bT 28 24) ?_; refine pureU HT_ 24 (some 62) (bT 28 25) ?_; refine pureU HT_ 25 (some 63) (bT 28 26) ?_; refine pureU HT_ 26 (some 64) (bT 28 27) ?_; refine pureZ HT_ 27 (some 65) (bT 28 28) ?_; refine done_ (done_of HT_.out Zh) ?_
               try go_wp2
               go_roundg k2
               case measure => have := HK1.out; have := HK2.out; omega
               case rel => exact ⟨(wrap64 (x12_2 + 1)), Za, H', ⟨Zcc⟩, ⟨(Zcq HO_9)⟩, ⟨(Zcq HO_10)⟩, ⟨(Zd BK1103)⟩, ⟨(Ze GE1103)⟩⟩
             ·rw [if_neg c21] at H
              exact absurd H (by simp)
            ·rw [if_neg c20] at H
             exact absurd H (by simp)
           ·rw [if_neg c19] at H
            exact absurd H (by simp)
          ·rw [if_neg c18] at H
           exact absurd H (by simp)
         ·rw [if_neg c17] at H
          exact absurd H (by simp)
        ·rw [if_neg c16] at H
         have c16b0 := decide_eq_false c16; clear c16; have H' := am_ H; clear H; obtain ⟨Ao32, co32, eo32⟩ := Kd.S_slice HO_10.out; subst eo32
         go_wp2
         go_roundg k2
         case measure => have := HK1.out; have := HK2.out; omega
         case rel => exact ⟨(wrap64 (x11_1 + 1)), Za, H', ⟨Zcc⟩, ⟨(Zcq HO_9)⟩, ⟨(Zcq HO_10)⟩, ⟨(Zd BK1103)⟩, ⟨(Ze GE1103)⟩⟩
     ·rw [if_neg c14] at H
      have c14b0 := decide_eq_false c14; clear c14; simp only [Option.some.injEq, Prod.mk.injEq] at H; obtain ⟨rfl, rfl⟩ := H; obtain ⟨Ao33, co33, eo33⟩ := Kd.S_slice HO_9.out; subst eo33
      go_wp2
      go_ret2
      exact ⟨Zj, (Ze GE1103)⟩
  ·have H := HS_.out
   clear HS_; rw [if_neg c5] at H; have c5b0 := beq_eq_false_iff_ne.mpr c5; have c5b1 := bne_iff_ne.mpr c5; simp only [Option.some.injEq, Prod.mk.injEq] at H; obtain ⟨rfl, rfl⟩ := H
   go_wp2_with (first | fail)
   go_ret2
   exact ⟨Zj, (Ze GE1103)⟩
mutual
def impl_UnsurePairs.l0 : Nat → List (List Int) → Int → List (S104) → List (S62) → List (S39) → Option ((List (List Int)) × Int)
 | 0, _, _, _, _, _ => none
 | k + 1, x4, x5, x1120000, x1120001, x1120002 => if x5 < (x1120002.length : Int) then (impl_UnsurePairs.l1 k x4 x5 (wrap64 (x5 + 1)) x1120000 x1120001 x1120002) else (some (x4, 0))
def impl_UnsurePairs.l1 : Nat → List (List Int) → Int → Int → List (S104) → List (S62) → List (S39) → Option ((List (List Int)) × Int)
 | 0, _, _, _, _, _, _ => none
 | k + 1, x4, x5, x6, x1120000, x1120001, x1120002 => if x6 < (x1120002.length : Int) then ((impl_surelyBefore.f k x1120000 x1120001 x1120002 x5 x6).bind fun t1121 => (if t1121 = true then (impl_UnsurePairs.l1 k x4 x5 (wrap64 (x6 + 1)) x1120000 x1120001 x1120002) else ((impl_surelyBefore.f k x1120000 x1120001 x1120002 x6 x5).bind fun t1122 => (if t1122 = true then (impl_UnsurePairs.l1 k x4 x5 (wrap64 (x6 + 1)) x1120000 x1120001 x1120002) else (if x4.length < 5864062014805 then (impl_UnsurePairs.l1 k (x4 ++ [(([x5, x6] : List Int))]) x5 (wrap64 (x6 + 1)) x1120000 x1120001 x1120002) else (none)))))) else (impl_UnsurePairs.l0 k x4 (wrap64 (x5 + 1)) x1120000 x1120001 x1120002)
end
def impl_UnsurePairs.f (k : Nat) (l0_0 : List (S104)) (l0_1 : List (S62)) (l0_2 : List (S39)) : Option ((List (List Int)) × Int) := (impl_IsShow.f k l0_0 l0_1 l0_2).bind fun t1120 => (if t1120 = true then (impl_UnsurePairs.l0 k ([] : List (List Int)) 0 l0_0 l0_1 l0_2) else (some (([] : List (List Int)), 1)))
set_option maxHeartbeats 8000000 in
set_option maxRecDepth 100000 in
theorem impl_UnsurePairs.calls (k : Nat) (A0_0 : Option Addr) (c0_0 : Nat) (l0_0 : List (S104)) (A0_1 : Option Addr) (c0_1 : Nat) (l0_1 : List (S62)) (A0_2 : Option Addr) (c0_2 : Nat) (l0_2 : List (S39)) (r1 : List (List Int)) (r2 : Int) (w : World) (hr0_0 : Kd.C k104 w A0_0 l0_0.length l0_0) (hc0_0 : l0_0.length ≤ c0_0) (hr0_1 : Kd.C k62 w A0_1 l0_1.length l0_1) (hc0_1 : l0_1.length ≤ c0_1) (hr0_2 : Kd.C k39 w A0_2 l0_2.length l0_2) (hc0_2 : l0_2.length ≤ c0_2) (h : impl_UnsurePairs.f k l0_0 l0_1 l0_2 = some (r1, r2)) :
  Calls Try.prog 32 #[.agg #[.slice A0_0 l0_0.length c0_0, .slice A0_1 l0_1.length c0_1, .slice A0_2 l0_2.length c0_2]] w fun e w' => ∃ v0_ : Value, e = .returned (.tuple #[v0_, .int .i64 r2]) ∧ Kd.S (Kd.slice 2 (Kd.int .i64)) 33 w' w.heap.size (fun _ => True) v0_ r1 ∧ Below w.heap.size w w' := by
 have hu28 := Try.underlying28; have HR0_0 := am_ hr0_0; have HC0_0 := am_ hc0_0; clear hr0_0 hc0_0; have HR0_1 := am_ hr0_1; have HC0_1 := am_ hc0_1; clear hr0_1 hc0_1; have HR0_2 := am_ hr0_2; have HC0_2 := am_ hc0_2; clear hr0_2 hc0_2; have HB := am_ (Below.refl w.heap.size w); have H : ((impl_IsShow.f k l0_0 l0_1 l0_2).bind fun t1120 => (if t1120 = true then (impl_UnsurePairs.l0 k ([] : List (List Int)) 0 l0_0 l0_1 l0_2) else (some (([] : List (List Int)), 1)))) = some (r1, r2) := h; clear h; replace H := Option.bind_eq_some_iff.mp H; obtain ⟨t1120, A20, H⟩ := H; have A2 := am_ A20; clear A20; have HS_ := am_ H; clear H
 go_enter Try.func32, Try.ntmps32
 go_wp2_with (first | ((with_reducible refine gate_dst (N := 1) rfl ?_); refine boxZ 1 #[.slice A0_0 l0_0.length c0_0, .slice A0_1 l0_1.length c0_1, .slice A0_2 l0_2.length c0_2] 28 ?_; intro gb1119 hg w4 hbox hb; replace BK1119 := am_ (hbox); replace GW1119 := am_ ((Zp : w.heap.size ≤ gb1119)); replace GE1119 := GW1119; replace HB := (bsZ Zc hb); clear hb hbox hg; refine ci3 BK1119 ?_; intros) | ((with_reducible refine gate_callee (f := 25) rfl ?_); refine gZ 8 Try.func25 #[.agg #[.slice A0_0 l0_0.length c0_0, .slice A0_1 l0_1.length c0_1, .slice A0_2 l0_2.length c0_2]] ?_; (with_reducible refine (impl_IsShow.calls k _ _ l0_0 _ _ l0_1 _ _ l0_2 t1120 _ ?_ ?_ ?_ ?_ ?_ ?_ A2.out).mono ?_); exact (Zs HR0_0); exact HC0_0.out; exact (Zs HR0_1); exact HC0_1.out; exact (Zs HR0_2); exact HC0_2.out; rintro e w6 ⟨rfl, hb⟩; refine ⟨_, rfl, ?_⟩; replace BK1119 := (bkZ BK1119 hb); replace HB := (bsZ (Ze GE1119) hb); clear hb; refine ?roundEnd))
 case roundEnd =>
  by_cases c3 : t1120 = true
  ·have H := HS_.out
   clear HS_; subst c3
   have H1 : (impl_UnsurePairs.l0 k ([] : List (List Int)) 0 l0_0 l0_1 l0_2) = some (r1, r2) := by rw [if_pos rfl] at H; exact H
   clear H; have H := H1; clear H1; have H' := am_ H; clear H
   go_wp2_with (first | fail)
   go_loopg [4, 5] k (fun kq v4 v5 w' => ∃ (x4_1 : List (List Int)) (x5_1 : Int), v5 = .int .i64 x5_1 ∧ Aside0 (impl_UnsurePairs.l0 kq x4_1 x5_1 l0_0 l0_1 l0_2 = some (r1, r2)) ∧ Aside0 (kq ≤ k) ∧ Aside0 (Kd.S (Kd.slice 2 (Kd.int .i64)) 33 w' w.heap.size (fun _ => True) v4 x4_1) ∧ Aside0 (w'.heap[gb1119]? = some (.cells #[(.slice A0_0 l0_0.length c0_0), (.slice A0_1 l0_1.length c0_1), (.slice A0_2 l0_2.length c0_2)] 28 (0, 0))) ∧ Aside0 (Below w.heap.size w w'))
   case atStart => exact ⟨(([] : List (List Int))), (0), Za, H', ⟨Nat.le_refl _⟩, ⟨Zcp⟩, ⟨(Zd BK1119)⟩, ⟨(Ze GE1119)⟩⟩
   case round =>
    clear H'
    try clear c2
    try clear p2
    try clear c3
    obtain ⟨x4_1, x5_1, rfl, HA, HK1, HO_4, BK1119, HB⟩ := hrel
    cases gk with
    | zero => exact absurd HA.out (by simp [impl_UnsurePairs.l0])
    | succ k1 =>
     have H := HA.out; clear HA; simp only [impl_UnsurePairs.l0] at H
     by_cases c7 : x5_1 < (l0_2.length : Int)
     ·rw [if_pos c7] at H
      have c7b0 := decide_eq_true c7; clear c7; have H' := am_ H; clear H; refine ci3 BK1119 ?_; intros
      go_wp2
      go_loopg [4, 6] k1 (fun kq v4 v6 w' => ∃ (x4_2 : List (List Int)) (x6_2 : Int), v6 = .int .i64 x6_2 ∧ Aside0 (impl_UnsurePairs.l1 kq x4_2 x5_1 x6_2 l0_0 l0_1 l0_2 = some (r1, r2)) ∧ Aside0 (kq ≤ k1) ∧ Aside0 (Kd.S (Kd.slice 2 (Kd.int .i64)) 33 w' w.heap.size (fun _ => True) v4 x4_2) ∧ Aside0 (w'.heap[gb1119]? = some (.cells #[(.slice A0_0 l0_0.length c0_0), (.slice A0_1 l0_1.length c0_1), (.slice A0_2 l0_2.length c0_2)] 28 (0, 0))) ∧ Aside0 (Below w.heap.size w w'))
      case atStart => exact ⟨(x4_1), (wrap64 (x5_1 + 1)), Za, H', ⟨Nat.le_refl _⟩, ⟨(Zcq HO_4)⟩, ⟨(Zd BK1119)⟩, ⟨(Ze GE1119)⟩⟩
      case round =>
       clear H'
       try clear c2
       try clear p2
       try clear c3
       try clear p6
       try clear c7
       try clear c7b0
       try clear p2
       obtain ⟨x4_2, x6_2, rfl, HA, HK2, HO_4, BK1119, HB⟩ := hrel
       cases gk with
       | zero => exact absurd HA.out (by simp [impl_UnsurePairs.l1])
       | succ k2 =>
        have H := HA.out; clear HA; simp only [impl_UnsurePairs.l1] at H
        by_cases c9 : x6_2 < (l0_2.length : Int)
        ·rw [if_pos c9] at H
         have c9b0 := decide_eq_true c9; clear c9; replace H := Option.bind_eq_some_iff.mp H; obtain ⟨t1121, A100, H⟩ := H; have A10 := am_ A100; clear A100; have HS_ := am_ H; clear H; refine ci3 BK1119 ?_; intros
         go_wp2_with (first | ((with_reducible refine gate_callee (f := 72) rfl ?_); refine gZ 29 Try.func72 #[.agg #[.slice A0_0 l0_0.length c0_0, .slice A0_1 l0_1.length c0_1, .slice A0_2 l0_2.length c0_2], .int .i64 x5_1, .int .i64 x6_2] ?_; (with_reducible refine (impl_surelyBefore.calls k2 _ _ l0_0 _ _ l0_1 _ _ l0_2 x5_1 x6_2 t1121 _ ?_ ?_ ?_ ?_ ?_ ?_ A10.out).mono ?_); exact (Zs HR0_0); exact HC0_0.out; exact (Zs HR0_1); exact HC0_1.out; exact (Zs HR0_2); exact HC0_2.out; rintro e w13 ⟨rfl, hb⟩; refine ⟨_, rfl, ?_⟩; replace HO_4 := am_ (Kd.S_below (Zcq HO_4) hb); replace BK1119 := (bkZ BK1119 hb); replace HB := (bsZ (Ze GE1119) hb); clear hb; refine ?roundEnd))
         case roundEnd =>
          by_cases c11 : t1121 = true
          ·have H := HS_.out
           clear HS_; subst c11
           have H1 : (impl_UnsurePairs.l1 k2 x4_2 x5_1 (wrap64 (x6_2 + 1)) l0_0 l0_1 l0_2) = some (r1, r2) := by rw [if_pos rfl] at H; exact H
           clear H; have H := H1; clear H1; have H' := am_ H; clear H
           go_wp2_with (first | fail)
           go_roundg k2
           case measure => have := HK1.out; have := HK2.out; omega
           case rel => exact ⟨(x4_2), (wrap64 (x6_2 + 1)), Za, H', ⟨Zcc⟩, ⟨(Zcq HO_4)⟩, ⟨(Zd BK1119)⟩, ⟨(Ze GE1119)⟩⟩
          ·have H := HS_.out
           clear HS_; replace c11 := Bool.eq_false_iff.mpr c11; subst c11
           have H1 : ((impl_surelyBefore.f k2 l0_0 l0_1 l0_2 x6_2 x5_1).bind fun t1122 => (if t1122 = true then (impl_UnsurePairs.l1 k2 x4_2 x5_1 (wrap64 (x6_2 + 1)) l0_0 l0_1 l0_2) else (if x4_2.length < 5864062014805 then (impl_UnsurePairs.l1 k2 (x4_2 ++ [(([x5_1, x6_2] : List Int))]) x5_1 (wrap64 (x6_2 + 1)) l0_0 l0_1 l0_2) else (none)))) = some (r1, r2) := by rw [if_neg (show ¬ (false = true) by decide)] at H; exact H
           clear H; have H := H1; clear H1; replace H := Option.bind_eq_some_iff.mp H; obtain ⟨t1122, A140, H⟩ := H; have A14 := am_ A140; clear A140; have HS_ := am_ H; clear H; refine ci3 BK1119 ?_; intros
           go_wp2_with (first | (go_at_call 72; (with_reducible refine (impl_surelyBefore.calls k2 _ _ l0_0 _ _ l0_1 _ _ l0_2 x6_2 x5_1 t1122 _ ?_ ?_ ?_ ?_ ?_ ?_ A14.out).mono ?_); exact (Zs HR0_0); exact HC0_0.out; exact (Zs HR0_1); exact HC0_1.out; exact (Zs HR0_2); exact HC0_2.out; rintro e w19 ⟨rfl, hb⟩; replace HO_4 := am_ (Kd.S_below (Zcq HO_4) hb); replace BK1119 := (bkZ BK1119 hb); replace HB := (bsZ (Ze GE1119) hb); clear hb; refine ?roundEnd))
           case roundEnd =>
            by_cases c15 : t1122 = true
            ·have H := HS_.out
             clear HS_; subst c15
             have H1 : (impl_UnsurePairs.l1 k2 x4_2 x5_1 (wrap64 (x6_2 + 1)) l0_0 l0_1 l0_2) = some (r1, r2) := by rw [if_pos rfl] at H; exact H
             clear H; have H := H1; clear H1; have H' := am_ H; clear H
             go_wp2_with (first | fail)
             go_roundg k2
             case measure => have := HK1.out; have := HK2.out; omega
             case rel => exact ⟨(x4_2), (wrap64 (x6_2 + 1)), Za, H', ⟨Zcc⟩, ⟨(Zcq HO_4)⟩, ⟨(Zd BK1119)⟩, ⟨(Ze GE1119)⟩⟩
            ·have H := HS_.out
             clear HS_; replace c15 := Bool.eq_false_iff.mpr c15; subst c15
             have H1 : (if x4_2.length < 5864062014805 then (impl_UnsurePairs.l1 k2 (x4_2 ++ [(([x5_1, x6_2] : List Int))]) x5_1 (wrap64 (x6_2 + 1)) l0_0 l0_1 l0_2) else (none)) = some (r1, r2) := by rw [if_neg (show ¬ (false = true) by decide)] at H; exact H
             clear H; have H := H1; clear H1; obtain ⟨y1123, hy1123⟩ : ∃ y_ : List Int, y_ = (([x5_1, x6_2] : List Int)) := ⟨_, rfl⟩
             (first | (rw [← hy1123] at H; with_reducible replace H := bindZ H) | rw [← hy1123] at H)
             have Ny1123 := am_ hy1123; clear hy1123
             by_cases c20 : x4_2.length < 5864062014805
             ·rw [if_pos c20] at H
              have LMc20 := am_ c20; clear c20; obtain ⟨y1126, hy1126⟩ : ∃ y_ : List (List Int), y_ = (x4_2 ++ [y1123]) := ⟨_, rfl⟩
              (first | (rw [← hy1126] at H; with_reducible replace H := bindZ H) | rw [← hy1126] at H)
              have Ny1126 := am_ hy1126; clear hy1126; have H' := am_ H; clear H
              go_wp2_with (first | ((with_reducible refine gate_dst (N := 41) rfl ?_); refine Kd.R_lit (Kd.int .i64) _ 2 ?hg (N := 41) ?hd (xs := ([x5_1, x6_2] : List Int)) (inner := [.int .i64 x5_1, .int .i64 x6_2]) (ok := fun _ => True) (okp := fun _ => True) ?hr ?hp (fun _ hk => hk) trivial (Below.refl _ _) (Nat.le_refl _) (by simp) ?_; (case hd => rfl); (case hg => rfl); (case hr => first | (go_simp; done) | (go_simp; rfl)); (case hp => exact (Reps.one (show Kd.M (Kd.int .i64) _ _ _ x5_1 [.int .i64 x5_1] from rfl) (Reps.one (show Kd.M (Kd.int .i64) _ _ _ x6_2 [.int .i64 x6_2] from rfl) (Reps.none _ _)))); intro v1124 w25 ho26 hb hg_ hnew_; clear hg_ hnew_; (first | rw [← Ny1123.out] at ho26 | (simp only [Int.reduceToNat] at ho26; rw [← Ny1123.out] at ho26)); replace HO_4 := am_ (Kd.S_elder' (Zcq HO_4) (Kd.R_base ho26) hb); replace HO1125 := am_ (Kd.R_lower ho26 (below_size (Ze GE1119))); replace BK1119 := (bkZ BK1119 hb); replace HB := (bsZ (Ze GE1119) hb); clear hb ho26; obtain ⟨Ao28, co28, eo28⟩ := Kd.R_slice HO1125.out; subst eo28) | ((with_reducible refine gate_builtin (b := .append) (xs := #[.tmp 38, .tmp 42]) rfl ?_); at_builtin; refine Kd.S_append (Kd.slice 2 (Kd.int .i64)) (w0 := w) w.heap.size rfl (.tmp 38) (.tmp 42) 51 33 (.slice none 0 0) 24 rfl Try.underlying51 info33 rfl (by decide) (by omega) u4 x4_2 y1123 [.slice Ao28 y1123.length co28] (fun _ => True) (fun k_ => some k_ = (.slice Ao28 y1123.length co28 : Value).ownBlock) rfl rfl ?aP (fun k_ hk_ => ((Kd.R_mono (ok' := fun k_ => ((fun _ => True)) k_ ∧ some k_ ≠ (u4 : Value).ownBlock) (Kd.R_apart' (HO1125.out) (Kd.S_typed HO_4.out) (by decide)) (fun k_ hk => ⟨trivial, hk.2⟩))).1 k_ hk_.symm) ?aF ?aO ?aB ?aS ?aL ?_; (case aP => exact Kd.M_row (Kd.R_mono (Kd.R_tight rfl (Kd.R_mono (ok' := fun k_ => ((fun _ => True)) k_ ∧ some k_ ≠ (u4 : Value).ownBlock) (Kd.R_apart' (HO1125.out) (Kd.S_typed HO_4.out) (by decide)) (fun k_ hk => ⟨trivial, hk.2⟩))) (fun _ h_ => h_))); (case aB => exact (Ze GE1119)); (case aF => exact (fun _ _ => trivial)); (case aO => exact (Zcr HO_4)); (case aS => exact (below_size (Ze GE1119))); (case aL => have := LMc20.out; omega); intro v1127 w27 ho hb hg hat; rw [← Ny1126.out] at ho; replace BK1119 := am_ (blk_grown (g := gb1119) (b0Z BK1119) hg (Kd.S_ne HO_4.out BK1119.out (by decide))); replace HB := am_ (hb); replace HO1128 := am_ (ho); clear HO_4 HO1125; clear ho hb hg hat))
              go_roundg k2
              case measure => have := HK1.out; have := HK2.out; omega
              case rel => exact ⟨(y1126), (wrap64 (x6_2 + 1)), Za, H', ⟨Zcc⟩, ⟨(Zcq HO1128)⟩, ⟨(Zd BK1119)⟩, ⟨(Ze GE1119)⟩⟩
             ·rw [if_neg c20] at H
              exact absurd H (by simp)
        ·rw [if_neg c9] at H
         have c9b0 := decide_eq_false c9; clear c9; have H' := am_ H; clear H; refine ci3 BK1119 ?_; intros
         go_wp2
         go_roundg k2
         case measure => have := HK1.out; have := HK2.out; omega
         case rel => exact ⟨(x4_2), (wrap64 (x5_1 + 1)), Za, H', ⟨Zcc⟩, ⟨(Zcq HO_4)⟩, ⟨(Zd BK1119)⟩, ⟨(Ze GE1119)⟩⟩
     ·rw [if_neg c7] at H
      have c7b0 := decide_eq_false c7; clear c7; simp only [Option.some.injEq, Prod.mk.injEq] at H; obtain ⟨rfl, rfl⟩ := H; refine ci3 BK1119 ?_; intros
      go_wp2
      go_ret2
      exact ⟨_, Zj, (Zcq HO_4), (Ze GE1119)⟩
  ·have H := HS_.out
   clear HS_; replace c3 := Bool.eq_false_iff.mpr c3; subst c3
   have H1 : (some (([] : List (List Int)), 1)) = some (r1, r2) := by rw [if_neg (show ¬ (false = true) by decide)] at H; exact H
   clear H; have H := H1; clear H1; simp only [Option.some.injEq, Prod.mk.injEq] at H; obtain ⟨rfl, rfl⟩ := H
   go_wp2_with (first | fail)
   go_ret2
   exact ⟨_, Zj, Zcp, (Ze GE1119)⟩
end Go.Proofs.Ythhijbdekboahaa.F
