import Derived.Test.YtigkgihnijaefaaJFnStretched2
import Derived.Below
import Derived.Deep.Draws
import Derived.Deep.AppendLies
import Derived.Maps.AppendAt
import Derived.OwnWalk
import Derived.Laws.BytesArg
import Derived.Laws.MakeOwn
import Derived.Laws.OwnMore
import Derived.Tactics
import Derived.Lib.ConvBytes
import Derived.Laws.Slices
import Derived.WalkKit
import Derived.KernelRfl
import Derived.RowKit3
import Derived.Deep.LoopGhost
import Derived.Deep.QuietTactic
import Derived.BigQuiet
import Derived.WideLaws
import Derived.Deep.DeepCutAuto
import Derived.Deep.CutBlock
import Derived.Deep.RegionHeld3
import Derived.Lib.AppendStr
import Derived.ArgAppend
import Derived.Laws.IdiomCopy
import Derived.RowKit
import Derived.OrdersHeld
import Derived.Laws.BitsLemmas
import Derived.Laws.StructEq
import Derived.Test.YtigkgihnijaefaaProg
namespace Go.Proofs.Ytigkgihnijaefaa.F
open Go.RowKit Go.Proofs.YtigkgihnijaefaaW.PrintWords Go.Proofs.YtigkgihnijaefaaW.PrintLast Go.Proofs.YtigkgihnijaefaaW.PrintMore
attribute [local go_sem] max2_int min2_int max_two min_two max_three min_three max_four min_four   -- for this text's walks alone
set_option linter.unusedVariables false
set_option linter.unusedSimpArgs false
def impl_JoinScores.j0 : Nat → List (S56) → List (S56) → Bool → Option ((List (S56)) × Int)
 | 0, _, _, _ => none
 | k + 1, x0, x1, x13 => if x13 = true then (some (([] : List (S56)), 1)) else (if (wrap64 ((x0.length : Int) + (x1.length : Int))) > 20 then (some (([] : List (S56)), 3)) else ((some (([] : List (S56)) : List (S56))).bind fun y221 => (if y221.length + x0.length < 8796093022208 then ((some (y221 ++ x0 : List (S56))).bind fun y224 => (if y224.length + x1.length < 8796093022208 then (some ((y224 ++ x1), 0)) else (none))) else (none))))
def impl_JoinScores.f (k : Nat) (l0 : List (S56)) (l1 : List (S56)) : Option ((List (S56)) × Int) := (impl_IsScore.f k l0).bind fun t219 => (if t219 = true then ((impl_IsScore.f k l1).bind fun t220 => (impl_JoinScores.j0 k l0 l1 (!t220))) else (impl_JoinScores.j0 k l0 l1 true))
theorem impl_JoinScores.mono_l : ∀ k, (∀ y0 y1 y2, LeO (impl_JoinScores.j0 k y0 y1 y2) (impl_JoinScores.j0 (k + 1) y0 y1 y2))
 | 0 => fun _ _ _ r h => by simp [impl_JoinScores.j0] at h
 | k + 1 => by
  have ih0 := impl_JoinScores.mono_l k
  ·intro y0 y1 y2
   unfold impl_JoinScores.j0
   repeat' first
   | (with_reducible exact ih0 _ _ _)
   | (with_reducible exact impl_IsScore.mono _ _)
   | (with_reducible exact LeO.refl _)
   | (with_reducible exact LeO.none _)
   | (with_reducible refine LeO.ite ?_ ?_)
   | (with_reducible refine LeO.bind ?_ (fun _ => ?_))
   | exact ih0 _ _ _
   | exact impl_IsScore.mono _ _
   | exact LeO.none _
   | refine LeO.ite ?_ ?_
   | refine LeO.bind ?_ (fun _ => ?_)
theorem impl_JoinScores.mono : ∀ a0 a1 k, LeO (impl_JoinScores.f k a0 a1) (impl_JoinScores.f (k + 1) a0 a1) := by
 intro a0 a1 k
 have ih0 := impl_JoinScores.mono_l k
 unfold impl_JoinScores.f
 repeat' first
   | (with_reducible exact ih0 _ _ _)
   | (with_reducible exact impl_IsScore.mono _ _)
   | (with_reducible exact LeO.refl _)
   | (with_reducible exact LeO.none _)
   | (with_reducible refine LeO.ite ?_ ?_)
   | (with_reducible refine LeO.bind ?_ (fun _ => ?_))
   | exact ih0 _ _ _
   | exact impl_IsScore.mono _ _
   | exact LeO.none _
   | refine LeO.ite ?_ ?_
   | refine LeO.bind ?_ (fun _ => ?_)
set_option maxHeartbeats 8000000 in
set_option maxRecDepth 100000 in
theorem impl_JoinScores.calls (k : Nat) (A0 : Option Addr) (c0 : Nat) (l0 : List (S56)) (A1 : Option Addr) (c1 : Nat) (l1 : List (S56)) (r1 : List (S56)) (r2 : Int) (w : World) (hr0 : Kd.C k56 w A0 l0.length l0) (hc0 : l0.length ≤ c0) (hr1 : Kd.C k56 w A1 l1.length l1) (hc1 : l1.length ≤ c1) (h : impl_JoinScores.f k l0 l1 = some (r1, r2)) :
  Calls Try.prog 11 #[.slice A0 l0.length c0, .slice A1 l1.length c1] w fun e w' => ∃ v0_ : Value, e = .returned (.tuple #[v0_, .int .i64 r2]) ∧ Kd.R k56 56 w' w.heap.size (fun _ => True) v0_ r1 ∧ Below w.heap.size w w' := by
 have HR0 := Aside0.mk hr0
 have HC0 := Aside0.mk hc0
 clear hr0 hc0
 have HR1 := Aside0.mk hr1
 have HC1 := Aside0.mk hc1
 clear hr1 hc1
 have HB := Aside0.mk (Below.refl w.heap.size w)
 have H : ((impl_IsScore.f k l0).bind fun t219 => (if t219 = true then ((impl_IsScore.f k l1).bind fun t220 => (impl_JoinScores.j0 k l0 l1 (!t220))) else (impl_JoinScores.j0 k l0 l1 true))) = some (r1, r2) := h
 clear h
 have HC3 := Aside0.mk H
 clear H
 go_enter Try.func11, Try.ntmps11
 go_upto_region 1 with (fail)
 go_cut [13] (fun v13 wc => ∃ (kq : Nat) (x13_2 : Bool), v13 = .bool x13_2 ∧ Aside0 (impl_JoinScores.j0 kq l0 l1 x13_2 = some (r1, r2)) ∧ Aside0 (kq ≤ k) ∧ Aside0 (Below w.heap.size w wc))
 case first =>
  have H := HC3.out
  clear HC3
  replace H := Option.bind_eq_some_iff.mp H
  obtain ⟨t219, A40, H⟩ := H
  replace H : (if t219 = true then ((impl_IsScore.f k l1).bind fun t220 => (impl_JoinScores.j0 k l0 l1 (!t220))) else (impl_JoinScores.j0 k l0 l1 true)) = some (r1, r2) := H
  have A4 := Aside0.mk A40
  clear A40
  by_cases c5 : t219 = true
  ·subst c5
   have H1 : ((impl_IsScore.f k l1).bind fun t220 => (impl_JoinScores.j0 k l0 l1 (!t220))) = some (r1, r2) := by rw [if_pos rfl] at H; exact H
   clear H
   have H := H1
   clear H1
   replace H := Option.bind_eq_some_iff.mp H
   obtain ⟨t220, A60, H⟩ := H
   replace H : (impl_JoinScores.j0 k l0 l1 (!t220)) = some (r1, r2) := H
   have A6 := Aside0.mk A60
   clear A60
   have H' := Aside0.mk H
   clear H
   go_wp2_with (first | ((with_reducible refine gate_callee (f := 25) rfl ?_); refine goesL_ (some 7) rfl rfl Try.func25 (by kernel_rfl) rfl #[.slice A0 l0.length c0] rfl (by (try simp only [List.map_toArray, List.map_cons, List.map_nil]); first | done | rfl | (simp only [List.length_drop, List.length_take]; rfl)) ?_; (with_reducible refine (impl_IsScore.calls k _ _ l0 true _ ?side1 ?side2 A4.out).mono ?_); (case side1 => repeat (first | exact (Kd.C_below HR0.out HB.out) | (with_reducible refine Kd.C_alloc ?_ _) | (with_reducible refine Kd.C_drewN ?_ _) | (with_reducible refine Kd.C_drew ?_))); (case side2 => exact HC0.out); rintro e w7 ⟨rfl, hb⟩; refine ⟨_, rfl, ?_⟩; have n0_ := Aside0.mk (below_step (by repeat (first | (with_reducible first | exact HB.out | apply below_alloc | apply pw_below_drewN | apply below_drew1) | exact HB.out)) hb); clear HB; have HB := n0_; clear n0_; (try clear hb); (try clear hb2); (try clear hk); (try clear hi)) | (go_at_call 25; (with_reducible refine (impl_IsScore.calls k _ _ l1 t220 _ ?side1 ?side2 A6.out).mono ?_); (case side1 => repeat (first | exact (Kd.C_below HR1.out HB.out) | (with_reducible refine Kd.C_alloc ?_ _) | (with_reducible refine Kd.C_drewN ?_ _) | (with_reducible refine Kd.C_drew ?_))); (case side2 => exact HC1.out); rintro e w8 ⟨rfl, hb⟩; have n0_ := Aside0.mk (below_step (by repeat (first | (with_reducible first | exact HB.out | apply below_alloc | apply pw_below_drewN | apply below_drew1) | exact HB.out)) hb); clear HB; have HB := n0_; clear n0_; (try clear hb); (try clear hb2); (try clear hk); (try clear hi)))
   go_meet
   case rel => exact ⟨_, (!t220), (by first | rfl | (simp; done) | (simp [*]; done)), H', ⟨by first | omega | exact Nat.le_refl _⟩, ⟨by repeat (first | (with_reducible first | exact HB.out | apply below_alloc | apply pw_below_drewN | apply below_drew1) | exact HB.out)⟩⟩
  ·replace c5 := Bool.eq_false_iff.mpr c5
   subst c5
   have H1 : (impl_JoinScores.j0 k l0 l1 true) = some (r1, r2) := by rw [if_neg (show ¬ (false = true) by decide)] at H; exact H
   clear H
   have H := H1
   clear H1
   have H' := Aside0.mk H
   clear H
   go_wp2_with (first | ((with_reducible refine gate_callee (f := 25) rfl ?_); refine goesL_ (some 7) rfl rfl Try.func25 (by kernel_rfl) rfl #[.slice A0 l0.length c0] rfl (by (try simp only [List.map_toArray, List.map_cons, List.map_nil]); first | done | rfl | (simp only [List.length_drop, List.length_take]; rfl)) ?_; (with_reducible refine (impl_IsScore.calls k _ _ l0 false _ ?side1 ?side2 A4.out).mono ?_); (case side1 => repeat (first | exact (Kd.C_below HR0.out HB.out) | (with_reducible refine Kd.C_alloc ?_ _) | (with_reducible refine Kd.C_drewN ?_ _) | (with_reducible refine Kd.C_drew ?_))); (case side2 => exact HC0.out); rintro e w9 ⟨rfl, hb⟩; refine ⟨_, rfl, ?_⟩; have n0_ := Aside0.mk (below_step (by repeat (first | (with_reducible first | exact HB.out | apply below_alloc | apply pw_below_drewN | apply below_drew1) | exact HB.out)) hb); clear HB; have HB := n0_; clear n0_; (try clear hb); (try clear hb2); (try clear hk); (try clear hi)))
   go_meet
   case rel => exact ⟨_, (true), (by first | rfl | (simp; done) | (simp [*]; done)), H', ⟨by first | omega | exact Nat.le_refl _⟩, ⟨by repeat (first | (with_reducible first | exact HB.out | apply below_alloc | apply pw_below_drewN | apply below_drew1) | exact HB.out)⟩⟩
 case rest =>
  clear HC3
  try clear c1
  try clear c2
  try clear p2
  try clear c5
  obtain ⟨kq, x13_2, rfl, HA, HJ2, HB⟩ := hcut
  cases kq with
  | zero => exact absurd HA.out (by simp [impl_JoinScores.j0])
  | succ kj2 =>
   have H := HA.out
   clear HA
   simp only [impl_JoinScores.j0] at H
   by_cases c10 : x13_2 = true
   ·subst c10
    have H1 : (some (([] : List (S56)), 1)) = some (r1, r2) := by rw [if_pos rfl] at H; exact H
    clear H
    have H := H1
    clear H1
    simp only [Option.some.injEq, Prod.mk.injEq] at H
    obtain ⟨rfl, rfl⟩ := H
    go_wp2
    go_ret2
    exact ⟨_, by first | rfl | (simp [errW_none, errW_some] <;> rfl) | (simp [*, errW_none, errW_some] <;> rfl), by first | exact Kd.R_nil _ _ _ _ _ | exact Kd.N_nil _ _ _ _ _ | exact Kd.V_nil _ _ _ _ _ | exact Kd.Q_nil _ _ _ _ _ | exact Kd.S_nil _ _ _ _ _, by repeat (first | (with_reducible first | exact HB.out | apply below_alloc | apply pw_below_drewN | apply below_drew1) | exact HB.out)⟩
   ·replace c10 := Bool.eq_false_iff.mpr c10
    subst c10
    have H1 : (if (wrap64 ((l0.length : Int) + (l1.length : Int))) > 20 then (some (([] : List (S56)), 3)) else ((some (([] : List (S56)) : List (S56))).bind fun y221 => (if y221.length + l0.length < 8796093022208 then ((some (y221 ++ l0 : List (S56))).bind fun y224 => (if y224.length + l1.length < 8796093022208 then (some ((y224 ++ l1), 0)) else (none))) else (none)))) = some (r1, r2) := by rw [if_neg (show ¬ (false = true) by decide)] at H; exact H
    clear H
    have H := H1
    clear H1
    by_cases c11 : (wrap64 ((l0.length : Int) + (l1.length : Int))) > 20
    ·rw [if_pos c11] at H
     have c11b0 : decide (20 < (wrap64 ((l0.length : Int) + (l1.length : Int)))) = true := decide_eq_true c11
     clear c11
     simp only [Option.some.injEq, Prod.mk.injEq] at H
     obtain ⟨rfl, rfl⟩ := H
     go_wp2
     go_ret2
     exact ⟨_, by first | rfl | (simp [errW_none, errW_some] <;> rfl) | (simp [*, errW_none, errW_some] <;> rfl), by first | exact Kd.R_nil _ _ _ _ _ | exact Kd.N_nil _ _ _ _ _ | exact Kd.V_nil _ _ _ _ _ | exact Kd.Q_nil _ _ _ _ _ | exact Kd.S_nil _ _ _ _ _, by repeat (first | (with_reducible first | exact HB.out | apply below_alloc | apply pw_below_drewN | apply below_drew1) | exact HB.out)⟩
    ·rw [if_neg c11] at H
     have c11b0 : decide (20 < (wrap64 ((l0.length : Int) + (l1.length : Int)))) = false := decide_eq_false c11
     clear c11
     obtain ⟨y221, hy221⟩ : ∃ y_ : List (S56), y_ = (([] : List (S56))) := ⟨_, rfl⟩
     replace H : (if y221.length + l0.length < 8796093022208 then ((some (y221 ++ l0 : List (S56))).bind fun y224 => (if y224.length + l1.length < 8796093022208 then (some ((y224 ++ l1), 0)) else (none))) else (none)) = some (r1, r2) := by first | (rw [hy221]; with_reducible exact H) | (have H2_ := (Option.bind_some _ _).symm.trans H; rw [hy221]; with_reducible exact H2_) | (have H2_ := (Option.bind_some _ _).symm.trans H; with_reducible exact H2_) | with_reducible exact H | (rw [hy221]; exact H) | exact H
     have Ny221 := Aside0.mk hy221
     clear hy221
     by_cases c12 : y221.length + l0.length < 8796093022208
     ·rw [if_pos c12] at H
      have LMc12 := Aside0.mk c12
      clear c12
      obtain ⟨y224, hy224⟩ : ∃ y_ : List (S56), y_ = (y221 ++ l0) := ⟨_, rfl⟩
      replace H : (if y224.length + l1.length < 8796093022208 then (some ((y224 ++ l1), 0)) else (none)) = some (r1, r2) := by first | (rw [hy224]; with_reducible exact H) | (have H2_ := (Option.bind_some _ _).symm.trans H; rw [hy224]; with_reducible exact H2_) | (have H2_ := (Option.bind_some _ _).symm.trans H; with_reducible exact H2_) | with_reducible exact H | (rw [hy224]; exact H) | exact H
      have Ny224 := Aside0.mk hy224
      clear hy224
      by_cases c13 : y224.length + l1.length < 8796093022208
      ·rw [if_pos c13] at H
       have LMc13 := Aside0.mk c13
       clear c13
       obtain ⟨y227, hy227⟩ : ∃ y_ : List (S56), y_ = (y224 ++ l1) := ⟨_, rfl⟩
       replace H : (some (y227, 0)) = some (r1, r2) := by first | (rw [hy227]; with_reducible exact H) | (have H2_ := (Option.bind_some _ _).symm.trans H; rw [hy227]; with_reducible exact H2_) | (have H2_ := (Option.bind_some _ _).symm.trans H; with_reducible exact H2_) | with_reducible exact H | (rw [hy227]; exact H) | exact H
       have Ny227 := Aside0.mk hy227
       clear hy227
       simp only [Option.some.injEq, Prod.mk.injEq] at H
       obtain ⟨rfl, rfl⟩ := H
       go_wp2_with (first | ((with_reducible refine gate_dst (N := 20) rfl ?_); refine Kd.R_lit k56 _ 56 ?hg (N := 20) ?hd (xs := ([] : List (S56))) (inner := []) (ok := fun _ => True) (okp := fun _ => True) ?hr ?hp (fun _ hk => hk) trivial (Below.refl _ _) (Nat.le_refl _) (by simp) ?_; (case hd => rfl); (case hg => rfl); (case hr => first | (go_simp; done) | (go_simp; rfl)); (case hp => exact (Reps.none _ _)); intro v222 w14 ho15 hb hg_ hnew_; clear hg_ hnew_; (first | rw [← Ny221.out] at ho15 | (simp only [Int.reduceToNat] at ho15; rw [← Ny221.out] at ho15)); have n0_ := Aside0.mk (Kd.R_lower ho15 (below_size (by repeat (first | (with_reducible first | exact HB.out | apply below_alloc | apply pw_below_drewN | apply below_drew1) | exact HB.out)))); have n1_ := Aside0.mk (below_step (by repeat (first | (with_reducible first | exact HB.out | apply below_alloc | apply pw_below_drewN | apply below_drew1) | exact HB.out)) hb); clear HB; have HO223 := n0_; have HB := n1_; clear n0_ n1_; clear hb ho15) | ((with_reducible refine gate_builtin (b := .append) (xs := #[.tmp 20, .tmp 21]) rfl ?_); at_builtin; refine Kd.R_append_rows k56 (w0 := w) w.heap.size rfl (.tmp 20) (.tmp 21) 24 56 (.agg #[(.int .i64 0), (.int .i64 0)]) 16 rfl Try.underlying24 info56 rfl (by decide) (by omega) v222 y221 l0 _ _ _ (fun _ => True) (fun _ => False) rfl rfl ?aO ?aR (fun _ _ h => h) (fun _ h => h.elim) ?aF ?aB ?aS ?aL ?_; (case aR => repeat (first | exact (Kd.C_below HR0.out HB.out) | (with_reducible refine Kd.C_alloc ?_ _) | (with_reducible refine Kd.C_drewN ?_ _) | (with_reducible refine Kd.C_drew ?_))); (case aB => exact (by repeat (first | (with_reducible first | exact HB.out | apply below_alloc | apply pw_below_drewN | apply below_drew1) | exact HB.out))); (case aF => exact (fun _ _ => trivial)); (case aO => exact (by (with_reducible repeat (first | apply Kd.R_alloc | apply Kd.R_drewN | apply Kd.R_drew)); exact HO223.out)); (case aS => exact (below_size (by repeat (first | (with_reducible first | exact HB.out | apply below_alloc | apply pw_below_drewN | apply below_drew1) | exact HB.out)))); (case aL => have := LMc12.out; omega); intro v225 w16 ho hb hg hat; rw [← Ny224.out] at ho; have n0_ := Aside0.mk (hb); have n1_ := Aside0.mk (ho); clear HB; clear HO223; have HB := n0_; have HO226 := n1_; clear n0_ n1_; clear ho hb hg hat) | ((with_reducible refine gate_builtin (b := .append) (xs := #[.tmp 22, .tmp 23]) rfl ?_); at_builtin; refine Kd.R_append_rows k56 (w0 := w) w.heap.size rfl (.tmp 22) (.tmp 23) 24 56 (.agg #[(.int .i64 0), (.int .i64 0)]) 16 rfl Try.underlying24 info56 rfl (by decide) (by omega) v225 y224 l1 _ _ _ (fun _ => True) (fun _ => False) rfl rfl ?aO ?aR (fun _ _ h => h) (fun _ h => h.elim) ?aF ?aB ?aS ?aL ?_; (case aR => repeat (first | exact (Kd.C_below HR1.out HB.out) | (with_reducible refine Kd.C_alloc ?_ _) | (with_reducible refine Kd.C_drewN ?_ _) | (with_reducible refine Kd.C_drew ?_))); (case aB => exact (by repeat (first | (with_reducible first | exact HB.out | apply below_alloc | apply pw_below_drewN | apply below_drew1) | exact HB.out))); (case aF => exact (fun _ _ => trivial)); (case aO => exact (by (with_reducible repeat (first | apply Kd.R_alloc | apply Kd.R_drewN | apply Kd.R_drew)); exact HO226.out)); (case aS => exact (below_size (by repeat (first | (with_reducible first | exact HB.out | apply below_alloc | apply pw_below_drewN | apply below_drew1) | exact HB.out)))); (case aL => have := LMc13.out; omega); intro v228 w17 ho hb hg hat; rw [← Ny227.out] at ho; have n0_ := Aside0.mk (hb); have n1_ := Aside0.mk (ho); clear HB; clear HO226; have HB := n0_; have HO229 := n1_; clear n0_ n1_; clear ho hb hg hat))
       go_ret2
       exact ⟨_, by first | rfl | (simp [errW_none, errW_some] <;> rfl) | (simp [*, errW_none, errW_some] <;> rfl), by (with_reducible repeat (first | apply Kd.R_alloc | apply Kd.R_drewN | apply Kd.R_drew)); exact HO229.out, by repeat (first | (with_reducible first | exact HB.out | apply below_alloc | apply pw_below_drewN | apply below_drew1) | exact HB.out)⟩
      ·rw [if_neg c13] at H
       exact absurd H (by simp)
     ·rw [if_neg c12] at H
      exact absurd H (by simp)
end Go.Proofs.Ytigkgihnijaefaa.F
namespace Go.Proofs.Ytigkgihnijaefaa.F
open Go.RowKit Go.Proofs.YtigkgihnijaefaaW.PrintWords Go.Proofs.YtigkgihnijaefaaW.PrintLast Go.Proofs.YtigkgihnijaefaaW.PrintMore
attribute [local go_sem] max2_int min2_int max_two min_two max_three min_three max_four min_four   -- for this text's walks alone
set_option linter.unusedVariables false
set_option linter.unusedSimpArgs false
def spec_JoinScores.j0 : Nat → List (S56) → List (S56) → Bool → Option ((List (S56)) × Int)
 | 0, _, _, _ => none
 | k + 1, x0, x1, x13 => if x13 = true then (some (([] : List (S56)), 1)) else (if (wrap64 ((x0.length : Int) + (x1.length : Int))) > 20 then (some (([] : List (S56)), 3)) else ((some (([] : List (S56)) : List (S56))).bind fun y232 => (if y232.length + x0.length < 8796093022208 then ((some (y232 ++ x0 : List (S56))).bind fun y235 => (if y235.length + x1.length < 8796093022208 then (some ((y235 ++ x1), 0)) else (none))) else (none))))
def spec_JoinScores.f (k : Nat) (l0 : List (S56)) (l1 : List (S56)) : Option ((List (S56)) × Int) := (spec_IsScore.f k l0).bind fun t230 => (if t230 = true then ((spec_IsScore.f k l1).bind fun t231 => (spec_JoinScores.j0 k l0 l1 (!t231))) else (spec_JoinScores.j0 k l0 l1 true))
theorem spec_JoinScores.mono_l : ∀ k, (∀ y0 y1 y2, LeO (spec_JoinScores.j0 k y0 y1 y2) (spec_JoinScores.j0 (k + 1) y0 y1 y2))
 | 0 => fun _ _ _ r h => by simp [spec_JoinScores.j0] at h
 | k + 1 => by
  have ih0 := spec_JoinScores.mono_l k
  ·intro y0 y1 y2
   unfold spec_JoinScores.j0
   repeat' first
   | (with_reducible exact ih0 _ _ _)
   | (with_reducible exact spec_IsScore.mono _ _)
   | (with_reducible exact LeO.refl _)
   | (with_reducible exact LeO.none _)
   | (with_reducible refine LeO.ite ?_ ?_)
   | (with_reducible refine LeO.bind ?_ (fun _ => ?_))
   | exact ih0 _ _ _
   | exact spec_IsScore.mono _ _
   | exact LeO.none _
   | refine LeO.ite ?_ ?_
   | refine LeO.bind ?_ (fun _ => ?_)
theorem spec_JoinScores.mono : ∀ a0 a1 k, LeO (spec_JoinScores.f k a0 a1) (spec_JoinScores.f (k + 1) a0 a1) := by
 intro a0 a1 k
 have ih0 := spec_JoinScores.mono_l k
 unfold spec_JoinScores.f
 repeat' first
   | (with_reducible exact ih0 _ _ _)
   | (with_reducible exact spec_IsScore.mono _ _)
   | (with_reducible exact LeO.refl _)
   | (with_reducible exact LeO.none _)
   | (with_reducible refine LeO.ite ?_ ?_)
   | (with_reducible refine LeO.bind ?_ (fun _ => ?_))
   | exact ih0 _ _ _
   | exact spec_IsScore.mono _ _
   | exact LeO.none _
   | refine LeO.ite ?_ ?_
   | refine LeO.bind ?_ (fun _ => ?_)
set_option maxHeartbeats 8000000 in
set_option maxRecDepth 100000 in
theorem spec_JoinScores.calls (k : Nat) (A0 : Option Addr) (c0 : Nat) (l0 : List (S56)) (A1 : Option Addr) (c1 : Nat) (l1 : List (S56)) (r1 : List (S56)) (r2 : Int) (w : World) (hr0 : Kd.C k56 w A0 l0.length l0) (hc0 : l0.length ≤ c0) (hr1 : Kd.C k56 w A1 l1.length l1) (hc1 : l1.length ≤ c1) (h : spec_JoinScores.f k l0 l1 = some (r1, r2)) :
  Calls Try.prog 12 #[.slice A0 l0.length c0, .slice A1 l1.length c1] w fun e w' => ∃ v0_ : Value, e = .returned (.tuple #[v0_, .int .i64 r2]) ∧ Kd.R k56 56 w' w.heap.size (fun _ => True) v0_ r1 ∧ Below w.heap.size w w' := by
 have HR0 := Aside0.mk hr0
 have HC0 := Aside0.mk hc0
 clear hr0 hc0
 have HR1 := Aside0.mk hr1
 have HC1 := Aside0.mk hc1
 clear hr1 hc1
 have HB := Aside0.mk (Below.refl w.heap.size w)
 have H : ((spec_IsScore.f k l0).bind fun t230 => (if t230 = true then ((spec_IsScore.f k l1).bind fun t231 => (spec_JoinScores.j0 k l0 l1 (!t231))) else (spec_JoinScores.j0 k l0 l1 true))) = some (r1, r2) := h
 clear h
 have HC3 := Aside0.mk H
 clear H
 go_enter Try.func12, Try.ntmps12
 go_upto_region 1 with (fail)
 go_cut [13] (fun v13 wc => ∃ (kq : Nat) (x13_2 : Bool), v13 = .bool x13_2 ∧ Aside0 (spec_JoinScores.j0 kq l0 l1 x13_2 = some (r1, r2)) ∧ Aside0 (kq ≤ k) ∧ Aside0 (Below w.heap.size w wc))
 case first =>
  have H := HC3.out
  clear HC3
  replace H := Option.bind_eq_some_iff.mp H
  obtain ⟨t230, A40, H⟩ := H
  replace H : (if t230 = true then ((spec_IsScore.f k l1).bind fun t231 => (spec_JoinScores.j0 k l0 l1 (!t231))) else (spec_JoinScores.j0 k l0 l1 true)) = some (r1, r2) := H
  have A4 := Aside0.mk A40
  clear A40
  by_cases c5 : t230 = true
  ·subst c5
   have H1 : ((spec_IsScore.f k l1).bind fun t231 => (spec_JoinScores.j0 k l0 l1 (!t231))) = some (r1, r2) := by rw [if_pos rfl] at H; exact H
   clear H
   have H := H1
   clear H1
   replace H := Option.bind_eq_some_iff.mp H
   obtain ⟨t231, A60, H⟩ := H
   replace H : (spec_JoinScores.j0 k l0 l1 (!t231)) = some (r1, r2) := H
   have A6 := Aside0.mk A60
   clear A60
   have H' := Aside0.mk H
   clear H
   go_wp2_with (first | ((with_reducible refine gate_callee (f := 40) rfl ?_); refine goesL_ (some 7) rfl rfl Try.func40 (by kernel_rfl) rfl #[.slice A0 l0.length c0] rfl (by (try simp only [List.map_toArray, List.map_cons, List.map_nil]); first | done | rfl | (simp only [List.length_drop, List.length_take]; rfl)) ?_; (with_reducible refine (spec_IsScore.calls k _ _ l0 true _ ?side1 ?side2 A4.out).mono ?_); (case side1 => repeat (first | exact (Kd.C_below HR0.out HB.out) | (with_reducible refine Kd.C_alloc ?_ _) | (with_reducible refine Kd.C_drewN ?_ _) | (with_reducible refine Kd.C_drew ?_))); (case side2 => exact HC0.out); rintro e w' ⟨rfl, ⟨nd, rfl⟩⟩; refine ⟨_, rfl, ?_⟩) | (go_at_call 40; (with_reducible refine (spec_IsScore.calls k _ _ l1 t231 _ ?side1 ?side2 A6.out).mono ?_); (case side1 => repeat (first | exact (Kd.C_below HR1.out (by repeat (first | (with_reducible first | exact HB.out | apply below_alloc | apply pw_below_drewN | apply below_drew1) | exact HB.out))) | (with_reducible refine Kd.C_alloc ?_ _) | (with_reducible refine Kd.C_drewN ?_ _) | (with_reducible refine Kd.C_drew ?_))); (case side2 => exact HC1.out); rintro e w' ⟨rfl, ⟨nd, rfl⟩⟩))
   go_meet
   case rel => exact ⟨_, (!t231), (by first | rfl | (simp; done) | (simp [*]; done)), H', ⟨by first | omega | exact Nat.le_refl _⟩, ⟨by repeat (first | (with_reducible first | exact HB.out | apply below_alloc | apply pw_below_drewN | apply below_drew1) | exact HB.out)⟩⟩
  ·replace c5 := Bool.eq_false_iff.mpr c5
   subst c5
   have H1 : (spec_JoinScores.j0 k l0 l1 true) = some (r1, r2) := by rw [if_neg (show ¬ (false = true) by decide)] at H; exact H
   clear H
   have H := H1
   clear H1
   have H' := Aside0.mk H
   clear H
   go_wp2_with (first | ((with_reducible refine gate_callee (f := 40) rfl ?_); refine goesL_ (some 7) rfl rfl Try.func40 (by kernel_rfl) rfl #[.slice A0 l0.length c0] rfl (by (try simp only [List.map_toArray, List.map_cons, List.map_nil]); first | done | rfl | (simp only [List.length_drop, List.length_take]; rfl)) ?_; (with_reducible refine (spec_IsScore.calls k _ _ l0 false _ ?side1 ?side2 A4.out).mono ?_); (case side1 => repeat (first | exact (Kd.C_below HR0.out HB.out) | (with_reducible refine Kd.C_alloc ?_ _) | (with_reducible refine Kd.C_drewN ?_ _) | (with_reducible refine Kd.C_drew ?_))); (case side2 => exact HC0.out); rintro e w' ⟨rfl, ⟨nd, rfl⟩⟩; refine ⟨_, rfl, ?_⟩))
   go_meet
   case rel => exact ⟨_, (true), (by first | rfl | (simp; done) | (simp [*]; done)), H', ⟨by first | omega | exact Nat.le_refl _⟩, ⟨by repeat (first | (with_reducible first | exact HB.out | apply below_alloc | apply pw_below_drewN | apply below_drew1) | exact HB.out)⟩⟩
 case rest =>
  clear HC3
  try clear c1
  try clear p2
  try clear c4
  try clear c5
  obtain ⟨kq, x13_2, rfl, HA, HJ2, HB⟩ := hcut
  cases kq with
  | zero => exact absurd HA.out (by simp [spec_JoinScores.j0])
  | succ kj2 =>
   have H := HA.out
   clear HA
   simp only [spec_JoinScores.j0] at H
   by_cases c7 : x13_2 = true
   ·subst c7
    have H1 : (some (([] : List (S56)), 1)) = some (r1, r2) := by rw [if_pos rfl] at H; exact H
    clear H
    have H := H1
    clear H1
    simp only [Option.some.injEq, Prod.mk.injEq] at H
    obtain ⟨rfl, rfl⟩ := H
    go_wp2
    go_ret2
    exact ⟨_, by first | rfl | (simp [errW_none, errW_some] <;> rfl) | (simp [*, errW_none, errW_some] <;> rfl), by first | exact Kd.R_nil _ _ _ _ _ | exact Kd.N_nil _ _ _ _ _ | exact Kd.V_nil _ _ _ _ _ | exact Kd.Q_nil _ _ _ _ _ | exact Kd.S_nil _ _ _ _ _, by repeat (first | (with_reducible first | exact HB.out | apply below_alloc | apply pw_below_drewN | apply below_drew1) | exact HB.out)⟩
   ·replace c7 := Bool.eq_false_iff.mpr c7
    subst c7
    have H1 : (if (wrap64 ((l0.length : Int) + (l1.length : Int))) > 20 then (some (([] : List (S56)), 3)) else ((some (([] : List (S56)) : List (S56))).bind fun y232 => (if y232.length + l0.length < 8796093022208 then ((some (y232 ++ l0 : List (S56))).bind fun y235 => (if y235.length + l1.length < 8796093022208 then (some ((y235 ++ l1), 0)) else (none))) else (none)))) = some (r1, r2) := by rw [if_neg (show ¬ (false = true) by decide)] at H; exact H
    clear H
    have H := H1
    clear H1
    by_cases c8 : (wrap64 ((l0.length : Int) + (l1.length : Int))) > 20
    ·rw [if_pos c8] at H
     have c8b0 : decide (20 < (wrap64 ((l0.length : Int) + (l1.length : Int)))) = true := decide_eq_true c8
     clear c8
     simp only [Option.some.injEq, Prod.mk.injEq] at H
     obtain ⟨rfl, rfl⟩ := H
     go_wp2
     go_ret2
     exact ⟨_, by first | rfl | (simp [errW_none, errW_some] <;> rfl) | (simp [*, errW_none, errW_some] <;> rfl), by first | exact Kd.R_nil _ _ _ _ _ | exact Kd.N_nil _ _ _ _ _ | exact Kd.V_nil _ _ _ _ _ | exact Kd.Q_nil _ _ _ _ _ | exact Kd.S_nil _ _ _ _ _, by repeat (first | (with_reducible first | exact HB.out | apply below_alloc | apply pw_below_drewN | apply below_drew1) | exact HB.out)⟩
    ·rw [if_neg c8] at H
     have c8b0 : decide (20 < (wrap64 ((l0.length : Int) + (l1.length : Int)))) = false := decide_eq_false c8
     clear c8
     obtain ⟨y232, hy232⟩ : ∃ y_ : List (S56), y_ = (([] : List (S56))) := ⟨_, rfl⟩
     replace H : (if y232.length + l0.length < 8796093022208 then ((some (y232 ++ l0 : List (S56))).bind fun y235 => (if y235.length + l1.length < 8796093022208 then (some ((y235 ++ l1), 0)) else (none))) else (none)) = some (r1, r2) := by first | (rw [hy232]; with_reducible exact H) | (have H2_ := (Option.bind_some _ _).symm.trans H; rw [hy232]; with_reducible exact H2_) | (have H2_ := (Option.bind_some _ _).symm.trans H; with_reducible exact H2_) | with_reducible exact H | (rw [hy232]; exact H) | exact H
     have Ny232 := Aside0.mk hy232
     clear hy232
     by_cases c9 : y232.length + l0.length < 8796093022208
     ·rw [if_pos c9] at H
      have LMc9 := Aside0.mk c9
      clear c9
      obtain ⟨y235, hy235⟩ : ∃ y_ : List (S56), y_ = (y232 ++ l0) := ⟨_, rfl⟩
      replace H : (if y235.length + l1.length < 8796093022208 then (some ((y235 ++ l1), 0)) else (none)) = some (r1, r2) := by first | (rw [hy235]; with_reducible exact H) | (have H2_ := (Option.bind_some _ _).symm.trans H; rw [hy235]; with_reducible exact H2_) | (have H2_ := (Option.bind_some _ _).symm.trans H; with_reducible exact H2_) | with_reducible exact H | (rw [hy235]; exact H) | exact H
      have Ny235 := Aside0.mk hy235
      clear hy235
      by_cases c10 : y235.length + l1.length < 8796093022208
      ·rw [if_pos c10] at H
       have LMc10 := Aside0.mk c10
       clear c10
       obtain ⟨y238, hy238⟩ : ∃ y_ : List (S56), y_ = (y235 ++ l1) := ⟨_, rfl⟩
       replace H : (some (y238, 0)) = some (r1, r2) := by first | (rw [hy238]; with_reducible exact H) | (have H2_ := (Option.bind_some _ _).symm.trans H; rw [hy238]; with_reducible exact H2_) | (have H2_ := (Option.bind_some _ _).symm.trans H; with_reducible exact H2_) | with_reducible exact H | (rw [hy238]; exact H) | exact H
       have Ny238 := Aside0.mk hy238
       clear hy238
       simp only [Option.some.injEq, Prod.mk.injEq] at H
       obtain ⟨rfl, rfl⟩ := H
       go_wp2_with (first | ((with_reducible refine gate_dst (N := 20) rfl ?_); refine Kd.R_lit k56 _ 56 ?hg (N := 20) ?hd (xs := ([] : List (S56))) (inner := []) (ok := fun _ => True) (okp := fun _ => True) ?hr ?hp (fun _ hk => hk) trivial (Below.refl _ _) (Nat.le_refl _) (by simp) ?_; (case hd => rfl); (case hg => rfl); (case hr => first | (go_simp; done) | (go_simp; rfl)); (case hp => exact (Reps.none _ _)); intro v233 w11 ho12 hb hg_ hnew_; clear hg_ hnew_; (first | rw [← Ny232.out] at ho12 | (simp only [Int.reduceToNat] at ho12; rw [← Ny232.out] at ho12)); have n0_ := Aside0.mk (Kd.R_lower ho12 (below_size (by repeat (first | (with_reducible first | exact HB.out | apply below_alloc | apply pw_below_drewN | apply below_drew1) | exact HB.out)))); have n1_ := Aside0.mk (below_step (by repeat (first | (with_reducible first | exact HB.out | apply below_alloc | apply pw_below_drewN | apply below_drew1) | exact HB.out)) hb); clear HB; have HO234 := n0_; have HB := n1_; clear n0_ n1_; clear hb ho12) | ((with_reducible refine gate_builtin (b := .append) (xs := #[.tmp 20, .tmp 21]) rfl ?_); at_builtin; refine Kd.R_append_rows k56 (w0 := w) w.heap.size rfl (.tmp 20) (.tmp 21) 24 56 (.agg #[(.int .i64 0), (.int .i64 0)]) 16 rfl Try.underlying24 info56 rfl (by decide) (by omega) v233 y232 l0 _ _ _ (fun _ => True) (fun _ => False) rfl rfl ?aO ?aR (fun _ _ h => h) (fun _ h => h.elim) ?aF ?aB ?aS ?aL ?_; (case aR => repeat (first | exact (Kd.C_below HR0.out HB.out) | (with_reducible refine Kd.C_alloc ?_ _) | (with_reducible refine Kd.C_drewN ?_ _) | (with_reducible refine Kd.C_drew ?_))); (case aB => exact (by repeat (first | (with_reducible first | exact HB.out | apply below_alloc | apply pw_below_drewN | apply below_drew1) | exact HB.out))); (case aF => exact (fun _ _ => trivial)); (case aO => exact (by (with_reducible repeat (first | apply Kd.R_alloc | apply Kd.R_drewN | apply Kd.R_drew)); exact HO234.out)); (case aS => exact (below_size (by repeat (first | (with_reducible first | exact HB.out | apply below_alloc | apply pw_below_drewN | apply below_drew1) | exact HB.out)))); (case aL => have := LMc9.out; omega); intro v236 w13 ho hb hg hat; rw [← Ny235.out] at ho; have n0_ := Aside0.mk (hb); have n1_ := Aside0.mk (ho); clear HB; clear HO234; have HB := n0_; have HO237 := n1_; clear n0_ n1_; clear ho hb hg hat) | ((with_reducible refine gate_builtin (b := .append) (xs := #[.tmp 22, .tmp 23]) rfl ?_); at_builtin; refine Kd.R_append_rows k56 (w0 := w) w.heap.size rfl (.tmp 22) (.tmp 23) 24 56 (.agg #[(.int .i64 0), (.int .i64 0)]) 16 rfl Try.underlying24 info56 rfl (by decide) (by omega) v236 y235 l1 _ _ _ (fun _ => True) (fun _ => False) rfl rfl ?aO ?aR (fun _ _ h => h) (fun _ h => h.elim) ?aF ?aB ?aS ?aL ?_; (case aR => repeat (first | exact (Kd.C_below HR1.out HB.out) | (with_reducible refine Kd.C_alloc ?_ _) | (with_reducible refine Kd.C_drewN ?_ _) | (with_reducible refine Kd.C_drew ?_))); (case aB => exact (by repeat (first | (with_reducible first | exact HB.out | apply below_alloc | apply pw_below_drewN | apply below_drew1) | exact HB.out))); (case aF => exact (fun _ _ => trivial)); (case aO => exact (by (with_reducible repeat (first | apply Kd.R_alloc | apply Kd.R_drewN | apply Kd.R_drew)); exact HO237.out)); (case aS => exact (below_size (by repeat (first | (with_reducible first | exact HB.out | apply below_alloc | apply pw_below_drewN | apply below_drew1) | exact HB.out)))); (case aL => have := LMc10.out; omega); intro v239 w14 ho hb hg hat; rw [← Ny238.out] at ho; have n0_ := Aside0.mk (hb); have n1_ := Aside0.mk (ho); clear HB; clear HO237; have HB := n0_; have HO240 := n1_; clear n0_ n1_; clear ho hb hg hat))
       go_ret2
       exact ⟨_, by first | rfl | (simp [errW_none, errW_some] <;> rfl) | (simp [*, errW_none, errW_some] <;> rfl), by (with_reducible repeat (first | apply Kd.R_alloc | apply Kd.R_drewN | apply Kd.R_drew)); exact HO240.out, by repeat (first | (with_reducible first | exact HB.out | apply below_alloc | apply pw_below_drewN | apply below_drew1) | exact HB.out)⟩
      ·rw [if_neg c10] at H
       exact absurd H (by simp)
     ·rw [if_neg c9] at H
      exact absurd H (by simp)
end Go.Proofs.Ytigkgihnijaefaa.F
namespace Go.Proofs.Ytigkgihnijaefaa.F
open Go.RowKit Go.Proofs.YtigkgihnijaefaaW.PrintWords Go.Proofs.YtigkgihnijaefaaW.PrintLast Go.Proofs.YtigkgihnijaefaaW.PrintMore
attribute [local go_sem] max2_int min2_int max_two min_two max_three min_three max_four min_four   -- for this text's walks alone
set_option linter.unusedVariables false
set_option linter.unusedSimpArgs false
theorem eqA56 (d : Nat) (w : World) (x0 y0 : Int) (x1 y1 : Int) :
  (Op.equalIn (d + 2) 56 (.agg #[.int .i64 x0, .int .i64 x1]) (.agg #[.int .i64 y0, .int .i64 y1])).run Try.prog w = .ok (x0 == y0 && (x1 == y1)) w := by
 refine eqA_of Try.underlying56 (by kernel_rfl) ?_
 refine eqf_cons (by rfl) (by go_simp; rfl) (by go_simp; rfl) (by go_simp) ?_
 exact eqf_last (by rfl) (by go_simp; rfl) (by go_simp; rfl) (by go_simp)
end Go.Proofs.Ytigkgihnijaefaa.F
namespace Go.Proofs.Ytigkgihnijaefaa.F
open Go.RowKit Go.Proofs.YtigkgihnijaefaaW.PrintWords Go.Proofs.YtigkgihnijaefaaW.PrintLast Go.Proofs.YtigkgihnijaefaaW.PrintMore
attribute [local go_sem] max2_int min2_int max_two min_two max_three min_three max_four min_four   -- for this text's walks alone
set_option linter.unusedVariables false
set_option linter.unusedSimpArgs false
attribute [local go_sem high] eqA56
def laws_likeBars.l0 : Nat → List (S56) → List (S56) → Int → Option (Bool)
 | 0, _, _, _ => none
 | k + 1, x0, x1, x5 => if x5 < (x0.length : Int) then (if 0 ≤ x5 then (if x5 < (x1.length : Int) then (if (!(((rd_T56 x0 x5).f0) == ((rd_T56 x1 x5).f0)) || (!(((rd_T56 x0 x5).f1) == ((rd_T56 x1 x5).f1)))) = true then (some false) else (laws_likeBars.l0 k x0 x1 (wrap64 (x5 + 1)))) else (none)) else (none)) else (some true)
def laws_likeBars.f (k : Nat) (l0 : List (S56)) (l1 : List (S56)) : Option (Bool) := if (l0.length : Int) = (l1.length : Int) then (laws_likeBars.l0 k l0 l1 0) else (some false)
theorem laws_likeBars.mono_l : ∀ k, (∀ y0 y1 y2, LeO (laws_likeBars.l0 k y0 y1 y2) (laws_likeBars.l0 (k + 1) y0 y1 y2))
 | 0 => fun _ _ _ r h => by simp [laws_likeBars.l0] at h
 | k + 1 => by
  have ih0 := laws_likeBars.mono_l k
  ·intro y0 y1 y2
   unfold laws_likeBars.l0
   repeat' first
   | (with_reducible exact ih0 _ _ _)
   | (with_reducible exact LeO.refl _)
   | (with_reducible exact LeO.none _)
   | (with_reducible refine LeO.ite ?_ ?_)
   | (with_reducible refine LeO.bind ?_ (fun _ => ?_))
   | exact ih0 _ _ _
   | exact LeO.none _
   | refine LeO.ite ?_ ?_
   | refine LeO.bind ?_ (fun _ => ?_)
theorem laws_likeBars.mono : ∀ a0 a1 k, LeO (laws_likeBars.f k a0 a1) (laws_likeBars.f (k + 1) a0 a1) := by
 intro a0 a1 k
 have ih0 := laws_likeBars.mono_l k
 unfold laws_likeBars.f
 repeat' first
   | (with_reducible exact ih0 _ _ _)
   | (with_reducible exact LeO.refl _)
   | (with_reducible exact LeO.none _)
   | (with_reducible refine LeO.ite ?_ ?_)
   | (with_reducible refine LeO.bind ?_ (fun _ => ?_))
   | exact ih0 _ _ _
   | exact LeO.none _
   | refine LeO.ite ?_ ?_
   | refine LeO.bind ?_ (fun _ => ?_)
set_option maxHeartbeats 8000000 in
set_option maxRecDepth 100000 in
theorem laws_likeBars.calls (k : Nat) (A0 : Option Addr) (c0 : Nat) (l0 : List (S56)) (A1 : Option Addr) (c1 : Nat) (l1 : List (S56)) (r : Bool) (w : World) (hr0 : Kd.C k56 w A0 l0.length l0) (hc0 : l0.length ≤ c0) (hr1 : Kd.C k56 w A1 l1.length l1) (hc1 : l1.length ≤ c1) (h : laws_likeBars.f k l0 l1 = some r) :
  Calls Try.prog 13 #[.slice A0 l0.length c0, .slice A1 l1.length c1] w fun e w' => e = .returned (.bool r) ∧ Drawn0 w w' := by
 have hu56 := Try.underlying56
 have HR0 := Aside0.mk hr0
 have HC0 := Aside0.mk hc0
 clear hr0 hc0
 have HR1 := Aside0.mk hr1
 have HC1 := Aside0.mk hc1
 clear hr1 hc1
 have H : (if (l0.length : Int) = (l1.length : Int) then (laws_likeBars.l0 k l0 l1 0) else (some false)) = some r := h
 clear h
 by_cases c3 : (l0.length : Int) = (l1.length : Int)
 ·rw [if_pos c3] at H
  have c3b0 : ((l0.length : Int) == (l1.length : Int)) = true := beq_iff_eq.mpr c3
  have c3b1 : ((l0.length : Int) != (l1.length : Int)) = false := bne_eq_false_iff_eq.mpr c3
  have c3b2 : (l0.length == l1.length) = true := by first | simpa using c3 | (simp at c3 ⊢; omega)
  clear c3
  have H' := Aside0.mk H
  clear H
  go_enter Try.func13, Try.ntmps13
  go_wp2
  repeat (go_quiet (fail); try go_wp2)
  go_loopg [5] k (fun kq v5 w' => ∃ (x5_1 : Int), v5 = .int .i64 x5_1 ∧ Aside0 (laws_likeBars.l0 kq l0 l1 x5_1 = some r) ∧ Aside0 (kq ≤ k) ∧ Drawn0 w w')
  case atStart => exact ⟨(0), (by first | rfl | (simp; done) | (simp [*]; done)), H', ⟨Nat.le_refl _⟩, by repeat (first | exact Drawn0.refl _ | apply Drawn0.step)⟩
  case round =>
   clear H'
   try clear c1
   try clear p2
   try clear c3
   try clear c3b0
   try clear c3b1
   try clear c3b2
   obtain ⟨x5_1, rfl, HA, HK1, ⟨m1, rfl⟩⟩ := hrel
   cases gk with
   | zero => exact absurd HA.out (by simp [laws_likeBars.l0])
   | succ k1 =>
    have H := HA.out
    clear HA
    simp only [laws_likeBars.l0] at H
    by_cases c4 : x5_1 < (l0.length : Int)
    ·rw [if_pos c4] at H
     have c4b0 : decide (x5_1 < (l0.length : Int)) = true := decide_eq_true c4
     clear c4
     by_cases c5 : 0 ≤ x5_1
     ·rw [if_pos c5] at H
      have c5b0 : decide (0 ≤ x5_1) = true := decide_eq_true c5
      clear c5
      by_cases c6 : x5_1 < (l1.length : Int)
      ·rw [if_pos c6] at H
       have c6b0 : decide (x5_1 < (l1.length : Int)) = true := decide_eq_true c6
       clear c6
       by_cases c7 : (!(((rd_T56 l0 x5_1).f0) == ((rd_T56 l1 x5_1).f0)) || (!(((rd_T56 l0 x5_1).f1) == ((rd_T56 l1 x5_1).f1)))) = true
       ·rw [if_pos c7] at H
        have c7b0 : (!(((rd_T56 l0 x5_1).f0) == ((rd_T56 l1 x5_1).f0)) || (!(((rd_T56 l0 x5_1).f1) == ((rd_T56 l1 x5_1).f1)))) = true := c7
        clear c7
        obtain rfl := Option.some.inj H
        have p241 : 0 ≤ (x5_1 : Int) := of_decide_eq_true (by first | (with_reducible assumption) | assumption)
        have q241 : x5_1 < (l0.length : Int) := of_decide_eq_true (by first | (with_reducible assumption) | assumption)
        obtain ⟨ad241, e241, hx241_0, hx241_1⟩ := at_T56 HR0.out x5_1 p241 q241
        cases e241
        replace p241 := eq_true p241
        replace q241 := eq_true q241
        have p242 : 0 ≤ (x5_1 : Int) := of_decide_eq_true (by first | (with_reducible assumption) | assumption)
        have q242 : x5_1 < (l1.length : Int) := of_decide_eq_true (by first | (with_reducible assumption) | assumption)
        obtain ⟨ad242, e242, hx242_0, hx242_1⟩ := at_T56 HR1.out x5_1 p242 q242
        cases e242
        replace p242 := eq_true p242
        replace q242 := eq_true q242
        go_wp2
        repeat (go_quiet (fail); try go_wp2)
        go_ret
        exact ⟨by first | rfl | (simp; done) | (simp [*]; done), by repeat (first | exact Drawn0.refl _ | apply Drawn0.step)⟩
       ·rw [if_neg c7] at H
        have c7b0 : (!(((rd_T56 l0 x5_1).f0) == ((rd_T56 l1 x5_1).f0)) || (!(((rd_T56 l0 x5_1).f1) == ((rd_T56 l1 x5_1).f1)))) = false := by simpa using c7
        clear c7
        have H' := Aside0.mk H
        clear H
        have p241 : 0 ≤ (x5_1 : Int) := of_decide_eq_true (by first | (with_reducible assumption) | assumption)
        have q241 : x5_1 < (l0.length : Int) := of_decide_eq_true (by first | (with_reducible assumption) | assumption)
        obtain ⟨ad241, e241, hx241_0, hx241_1⟩ := at_T56 HR0.out x5_1 p241 q241
        cases e241
        replace p241 := eq_true p241
        replace q241 := eq_true q241
        have p242 : 0 ≤ (x5_1 : Int) := of_decide_eq_true (by first | (with_reducible assumption) | assumption)
        have q242 : x5_1 < (l1.length : Int) := of_decide_eq_true (by first | (with_reducible assumption) | assumption)
        obtain ⟨ad242, e242, hx242_0, hx242_1⟩ := at_T56 HR1.out x5_1 p242 q242
        cases e242
        replace p242 := eq_true p242
        replace q242 := eq_true q242
        go_wp2
        repeat (go_quiet (fail); try go_wp2)
        go_roundg k1
        case measure => have := HK1.out; omega
        case rel => exact ⟨(wrap64 (x5_1 + 1)), (by first | rfl | (simp; done) | (simp [*]; done)), H', ⟨by have := HK1.out; omega⟩, by repeat (first | exact Drawn0.refl _ | apply Drawn0.step)⟩
      ·rw [if_neg c6] at H
       exact absurd H (by simp)
     ·rw [if_neg c5] at H
      exact absurd H (by simp)
    ·rw [if_neg c4] at H
     have c4b0 : decide (x5_1 < (l0.length : Int)) = false := decide_eq_false c4
     clear c4
     obtain rfl := Option.some.inj H
     go_wp2
     repeat (go_quiet (fail); try go_wp2)
     go_ret
     exact ⟨by first | rfl | (simp; done) | (simp [*]; done), by repeat (first | exact Drawn0.refl _ | apply Drawn0.step)⟩
 ·rw [if_neg c3] at H
  have c3b0 : ((l0.length : Int) == (l1.length : Int)) = false := beq_eq_false_iff_ne.mpr c3
  have c3b1 : ((l0.length : Int) != (l1.length : Int)) = true := bne_iff_ne.mpr c3
  have c3b2 : (l0.length == l1.length) = false := by first | simpa using c3 | (simp at c3 ⊢; omega)
  obtain rfl := Option.some.inj H
  go_enter Try.func13, Try.ntmps13
  go_wp2
  repeat (go_quiet (fail); try go_wp2)
  go_ret
  exact ⟨by first | rfl | (simp; done) | (simp [*]; done), by repeat (first | exact Drawn0.refl _ | apply Drawn0.step)⟩
end Go.Proofs.Ytigkgihnijaefaa.F
namespace Go.Proofs.Ytigkgihnijaefaa.F
open Go.RowKit Go.Proofs.YtigkgihnijaefaaW.PrintWords Go.Proofs.YtigkgihnijaefaaW.PrintLast Go.Proofs.YtigkgihnijaefaaW.PrintMore
attribute [local go_sem] max2_int min2_int max_two min_two max_three min_three max_four min_four   -- for this text's walks alone
set_option linter.unusedVariables false
set_option linter.unusedSimpArgs false
def impl_beatTime.l0 : Nat → List (S56) → Int → Int → Int → List (S56) → Int → Int → Option (Int)
 | 0, _, _, _, _, _, _, _ => none
 | k + 1, x0, x1, x2, x7, x12, x13, x14 => if x14 < x13 then (if 0 ≤ x14 then (if x14 < (x12.length : Int) then (impl_beatTime.l0 k x0 x1 x2 (wrap64 (x7 + (wrap64 (((rd_T56 x12 x14).f0) * ((rd_T56 x12 x14).f1))))) x12 x13 (wrap64 (x14 + 1))) else (none)) else (none)) else (if x2 > 0 then (if 0 ≤ x1 then (if x1 < (x0.length : Int) then (some (wrap64 (x7 + (wrap64 (x2 * ((rd_T56 x0 x1).f1)))))) else (none)) else (none)) else (some x7))
def impl_beatTime.f (k : Nat) (l0 : List (S56)) (a1 : Int) (a2 : Int) : Option (Int) := if 0 ≤ a1 then (if a1 ≤ (l0.length : Int) then ((some (l0.take (a1 : Int).toNat : List (S56))).bind fun y243 => (impl_beatTime.l0 k l0 a1 a2 0 y243 (y243.length : Int) 0)) else (none)) else (none)
theorem impl_beatTime.mono_l : ∀ k, (∀ y0 y1 y2 y3 y4 y5 y6, LeO (impl_beatTime.l0 k y0 y1 y2 y3 y4 y5 y6) (impl_beatTime.l0 (k + 1) y0 y1 y2 y3 y4 y5 y6))
 | 0 => fun _ _ _ _ _ _ _ r h => by simp [impl_beatTime.l0] at h
 | k + 1 => by
  have ih0 := impl_beatTime.mono_l k
  ·intro y0 y1 y2 y3 y4 y5 y6
   unfold impl_beatTime.l0
   repeat' first
   | (with_reducible exact ih0 _ _ _ _ _ _ _)
   | (with_reducible exact LeO.refl _)
   | (with_reducible exact LeO.none _)
   | (with_reducible refine LeO.ite ?_ ?_)
   | (with_reducible refine LeO.bind ?_ (fun _ => ?_))
   | exact ih0 _ _ _ _ _ _ _
   | exact LeO.none _
   | refine LeO.ite ?_ ?_
   | refine LeO.bind ?_ (fun _ => ?_)
theorem impl_beatTime.mono : ∀ a0 a1 a2 k, LeO (impl_beatTime.f k a0 a1 a2) (impl_beatTime.f (k + 1) a0 a1 a2) := by
 intro a0 a1 a2 k
 have ih0 := impl_beatTime.mono_l k
 unfold impl_beatTime.f
 repeat' first
   | (with_reducible exact ih0 _ _ _ _ _ _ _)
   | (with_reducible exact LeO.refl _)
   | (with_reducible exact LeO.none _)
   | (with_reducible refine LeO.ite ?_ ?_)
   | (with_reducible refine LeO.bind ?_ (fun _ => ?_))
   | exact ih0 _ _ _ _ _ _ _
   | exact LeO.none _
   | refine LeO.ite ?_ ?_
   | refine LeO.bind ?_ (fun _ => ?_)
set_option maxHeartbeats 8000000 in
set_option maxRecDepth 100000 in
theorem impl_beatTime.calls (k : Nat) (A0 : Option Addr) (c0 : Nat) (l0 : List (S56)) (a1 : Int) (a2 : Int) (r : Int) (w : World) (hr0 : Kd.C k56 w A0 l0.length l0) (hc0 : l0.length ≤ c0) (h : impl_beatTime.f k l0 a1 a2 = some r) :
  Calls Try.prog 45 #[.slice A0 l0.length c0, .int .i64 a1, .int .i64 a2] w fun e w' => e = .returned (.int .i64 r) ∧ Below w.heap.size w w' := by
 have hu56 := Try.underlying56
 have HR0 := Aside0.mk hr0
 have HC0 := Aside0.mk hc0
 clear hr0 hc0
 have HB := Aside0.mk (Below.refl w.heap.size w)
 have H : (if 0 ≤ a1 then (if a1 ≤ (l0.length : Int) then ((some (l0.take (a1 : Int).toNat : List (S56))).bind fun y243 => (impl_beatTime.l0 k l0 a1 a2 0 y243 (y243.length : Int) 0)) else (none)) else (none)) = some r := h
 clear h
 by_cases c4 : 0 ≤ a1
 ·rw [if_pos c4] at H
  have c4b0 := eq_true c4
  have c4b1 : decide (0 ≤ a1) = true := decide_eq_true c4
  clear c4
  by_cases c5 : a1 ≤ (l0.length : Int)
  ·rw [if_pos c5] at H
   have c5b0 := eq_true c5
   have c5b1 : decide (a1 ≤ (l0.length : Int)) = true := decide_eq_true c5
   clear c5
   obtain ⟨y243, hy243⟩ : ∃ y_ : List (S56), y_ = (l0.take (a1 : Int).toNat) := ⟨_, rfl⟩
   replace H : (impl_beatTime.l0 k l0 a1 a2 0 y243 (y243.length : Int) 0) = some r := by first | (rw [hy243]; with_reducible exact H) | (have H2_ := (Option.bind_some _ _).symm.trans H; rw [hy243]; with_reducible exact H2_) | (have H2_ := (Option.bind_some _ _).symm.trans H; with_reducible exact H2_) | with_reducible exact H | (rw [hy243]; exact H) | exact H
   have Ny243 := Aside0.mk hy243
   clear hy243
   have H' := Aside0.mk H
   clear H
   have q6 : (a1 : Int) ≤ ((l0.length : Int) : Int) := of_decide_eq_true (by first | (with_reducible assumption) | assumption)
   obtain ⟨i06, hi06, _, hsz6, _⟩ := info_parts info56
   have hroom6 : l0.length ≤ c0 := HC0.out
   have hC6 : Kd.C k56 _ A0 l0.length l0 := HR0.out
   have hcut6 := cut_to (P := Try.prog) 24 56 .i64 Try.underlying24 hi06 A0 l0.length c0 a1 (of_decide_eq_true (by first | (with_reducible assumption) | assumption)) q6 hroom6
   have hr6 := Kd.C_take (m := (a1 : Int).toNat) hC6 (by omega)
   have hy6 : y243.length = (a1 : Int).toNat := (by rw [Ny243.out, List.length_take]; omega)
   rw [← Ny243.out] at hr6
   rw [← hy6] at hcut6
   have HR246 := Aside0.mk hr6
   have HC246 := Aside0.mk (show y243.length ≤ c0 from by omega)
   clear hr6 hC6 hroom6 hi06 hsz6
   have KY6 := Aside0.mk hy6
   clear hy6
   replace q6 := eq_true q6
   go_enter Try.func45, Try.ntmps45
   go_wp2
   go_loopg [7, 14] k (fun kq v7 v14 w' => ∃ (x7_1 : Int) (x14_1 : Int), v7 = .int .i64 x7_1 ∧ v14 = .int .i64 x14_1 ∧ Aside0 (impl_beatTime.l0 kq l0 a1 a2 x7_1 y243 (y243.length : Int) x14_1 = some r) ∧ Aside0 (kq ≤ k) ∧ Aside0 (Below w.heap.size w w'))
   case atStart => exact ⟨(0), (0), (by first | rfl | (simp; done) | (simp [*]; done)), (by first | rfl | (simp; done) | (simp [*]; done)), H', ⟨Nat.le_refl _⟩, ⟨by repeat (first | (with_reducible first | exact HB.out | apply below_alloc | apply pw_below_drewN | apply below_drew1) | exact HB.out)⟩⟩
   case round =>
    clear H'
    try clear p2
    try clear c4
    try clear c4b0
    try clear c4b1
    try clear c5
    try clear c5b0
    try clear c5b1
    try clear q6
    try clear q6
    obtain ⟨x7_1, x14_1, rfl, rfl, HA, HK1, HB⟩ := hrel
    cases gk with
    | zero => exact absurd HA.out (by simp [impl_beatTime.l0])
    | succ k1 =>
     have H := HA.out
     clear HA
     simp only [impl_beatTime.l0] at H
     by_cases c7 : x14_1 < (y243.length : Int)
     ·rw [if_pos c7] at H
      have c7b0 : decide (x14_1 < (y243.length : Int)) = true := decide_eq_true c7
      clear c7
      by_cases c8 : 0 ≤ x14_1
      ·rw [if_pos c8] at H
       have c8b0 : decide (0 ≤ x14_1) = true := decide_eq_true c8
       clear c8
       by_cases c9 : x14_1 < (y243.length : Int)
       ·rw [if_pos c9] at H
        have c9b0 : decide (x14_1 < (y243.length : Int)) = true := decide_eq_true c9
        clear c9
        have H' := Aside0.mk H
        clear H
        have p247 : 0 ≤ (x14_1 : Int) := of_decide_eq_true (by first | (with_reducible assumption) | assumption)
        have q247 : x14_1 < (y243.length : Int) := of_decide_eq_true (by first | (with_reducible assumption) | assumption)
        obtain ⟨ad247, e247, hx247_0, hx247_1⟩ := at_T56 HR246.out x14_1 p247 q247
        cases e247
        replace hx247_0 := (HB.out.cell (World.block_lt_of_cell? w _ hx247_0)).trans hx247_0
        replace hx247_1 := (HB.out.cell (World.block_lt_of_cell? w _ hx247_1)).trans hx247_1
        replace p247 := eq_true p247
        replace q247 := eq_true q247
        go_wp2_with (first | ((with_reducible refine gate_dst (N := 9) rfl ?_); refine box_event ?hg (N := 9) ?hd (cs := #[.int .i64 0, .int .i64 0]) (t := 56) ?hr ?_; (case hd => rfl); (case hg => rfl); (case hr => first | (go_simp; done) | (go_simp; rfl)); intro gb248 hg w10 hbox hb; have n0_ := Aside0.mk (below_step (by repeat (first | (with_reducible first | exact HB.out | apply below_alloc | apply pw_below_drewN | apply below_drew1) | exact HB.out)) hb); have n1_ := Aside0.mk (hbox); have n2_ := Aside0.mk ((by rw [hg]; exact (below_size (by repeat (first | (with_reducible first | exact HB.out | apply below_alloc | apply pw_below_drewN | apply below_drew1) | exact HB.out))) : w.heap.size ≤ gb248)); have n3_ := Aside0.mk ((by rw [hg]; exact (below_size (by repeat (first | (with_reducible first | exact HB.out | apply below_alloc | apply pw_below_drewN | apply below_drew1) | exact HB.out))) : w.heap.size ≤ gb248)); clear HB; have HB := n0_; have BK248 := n1_; have GW248 := n2_; have GE248 := n3_; clear n0_ n1_ n2_ n3_; clear hb hbox hg; have hcz11_0 : w10.cell? ⟨gb248, 0, none⟩ = some (.int .i64 0) := (blk_cell BK248.out 0).trans rfl; have hcz11_1 : w10.cell? ⟨gb248, 1, none⟩ = some (.int .i64 0) := (blk_cell BK248.out 1).trans rfl; have hfz11_0 := blk_frozen BK248.out 0; have hfz11_1 := blk_frozen BK248.out 1))
        go_roundg k1
        case measure => have := HK1.out; omega
        case rel => exact ⟨(wrap64 (x7_1 + (wrap64 (((rd_T56 y243 x14_1).f0) * ((rd_T56 y243 x14_1).f1))))), (wrap64 (x14_1 + 1)), (by first | rfl | (simp; done) | (simp [*]; done)), (by first | rfl | (simp; done) | (simp [*]; done)), H', ⟨by have := HK1.out; omega⟩, ⟨by repeat (first | (with_reducible first | exact HB.out | apply below_alloc | apply pw_below_drewN | apply below_drew1 | refine below_set ?_ GE248.out) | exact HB.out)⟩⟩
       ·rw [if_neg c9] at H
        exact absurd H (by simp)
      ·rw [if_neg c8] at H
       exact absurd H (by simp)
     ·rw [if_neg c7] at H
      have c7b0 : decide (x14_1 < (y243.length : Int)) = false := decide_eq_false c7
      clear c7
      by_cases c12 : a2 > 0
      ·rw [if_pos c12] at H
       have c12b0 : decide (0 < a2) = true := decide_eq_true c12
       clear c12
       by_cases c13 : 0 ≤ a1
       ·rw [if_pos c13] at H
        have c13b0 : decide (0 ≤ a1) = true := decide_eq_true c13
        clear c13
        by_cases c14 : a1 < (l0.length : Int)
        ·rw [if_pos c14] at H
         have c14b0 : decide (a1 < (l0.length : Int)) = true := decide_eq_true c14
         clear c14
         obtain rfl := Option.some.inj H
         have p249 : 0 ≤ (a1 : Int) := of_decide_eq_true (by first | (with_reducible assumption) | assumption)
         have q249 : a1 < (l0.length : Int) := of_decide_eq_true (by first | (with_reducible assumption) | assumption)
         obtain ⟨ad249, e249, hx249_0, hx249_1⟩ := at_T56 HR0.out a1 p249 q249
         cases e249
         replace hx249_0 := (HB.out.cell (World.block_lt_of_cell? w _ hx249_0)).trans hx249_0
         replace hx249_1 := (HB.out.cell (World.block_lt_of_cell? w _ hx249_1)).trans hx249_1
         replace p249 := eq_true p249
         replace q249 := eq_true q249
         go_wp2
         go_ret
         exact ⟨by first | rfl | (simp [errW_none, errW_some] <;> rfl) | (simp [*, errW_none, errW_some] <;> rfl), by repeat (first | (with_reducible first | exact HB.out | apply below_alloc | apply pw_below_drewN | apply below_drew1) | exact HB.out)⟩
        ·rw [if_neg c14] at H
         exact absurd H (by simp)
       ·rw [if_neg c13] at H
        exact absurd H (by simp)
      ·rw [if_neg c12] at H
       have c12b0 : decide (0 < a2) = false := decide_eq_false c12
       clear c12
       obtain rfl := Option.some.inj H
       go_wp2
       go_ret
       exact ⟨by first | rfl | (simp [errW_none, errW_some] <;> rfl) | (simp [*, errW_none, errW_some] <;> rfl), by repeat (first | (with_reducible first | exact HB.out | apply below_alloc | apply pw_below_drewN | apply below_drew1) | exact HB.out)⟩
  ·rw [if_neg c5] at H
   exact absurd H (by simp)
 ·rw [if_neg c4] at H
  exact absurd H (by simp)
end Go.Proofs.Ytigkgihnijaefaa.F
namespace Go.Proofs.Ytigkgihnijaefaa.F
open Go.RowKit Go.Proofs.YtigkgihnijaefaaW.PrintWords Go.Proofs.YtigkgihnijaefaaW.PrintLast Go.Proofs.YtigkgihnijaefaaW.PrintMore
attribute [local go_sem] max2_int min2_int max_two min_two max_three min_three max_four min_four   -- for this text's walks alone
set_option linter.unusedVariables false
set_option linter.unusedSimpArgs false
def impl_scoreEnd.f (k : Nat) (l0 : List (S56)) : Option (Int) := (impl_beatTime.f k l0 (l0.length : Int) 0).bind fun t250 => (some t250)
theorem impl_scoreEnd.mono : ∀ a0 k, LeO (impl_scoreEnd.f k a0) (impl_scoreEnd.f (k + 1) a0) := by
 intro a0 k
 unfold impl_scoreEnd.f
 repeat' first
   | (with_reducible exact impl_beatTime.mono _ _ _ _)
   | (with_reducible exact LeO.refl _)
   | (with_reducible exact LeO.none _)
   | (with_reducible refine LeO.ite ?_ ?_)
   | (with_reducible refine LeO.bind ?_ (fun _ => ?_))
   | exact impl_beatTime.mono _ _ _ _
   | exact LeO.none _
   | refine LeO.ite ?_ ?_
   | refine LeO.bind ?_ (fun _ => ?_)
set_option maxHeartbeats 8000000 in
set_option maxRecDepth 100000 in
theorem impl_scoreEnd.calls (k : Nat) (A0 : Option Addr) (c0 : Nat) (l0 : List (S56)) (r : Int) (w : World) (hr0 : Kd.C k56 w A0 l0.length l0) (hc0 : l0.length ≤ c0) (h : impl_scoreEnd.f k l0 = some r) :
  Calls Try.prog 43 #[.slice A0 l0.length c0] w fun e w' => e = .returned (.int .i64 r) ∧ Below w.heap.size w w' := by
 have HR0 := Aside0.mk hr0
 have HC0 := Aside0.mk hc0
 clear hr0 hc0
 have HB := Aside0.mk (Below.refl w.heap.size w)
 have H : ((impl_beatTime.f k l0 (l0.length : Int) 0).bind fun t250 => (some t250)) = some r := h
 clear h
 replace H := Option.bind_eq_some_iff.mp H
 obtain ⟨t250, A20, H⟩ := H
 replace H : (some t250) = some r := H
 have A2 := Aside0.mk A20
 clear A20
 obtain rfl := Option.some.inj H
 go_enter Try.func43, Try.ntmps43
 go_wp2_with (first | ((with_reducible refine gate_callee (f := 45) rfl ?_); refine goesL_ (some 6) rfl rfl Try.func45 (by kernel_rfl) rfl #[.slice A0 l0.length c0, .int .i64 (l0.length : Int), .int .i64 0] rfl (by (try simp only [List.map_toArray, List.map_cons, List.map_nil]); first | done | rfl | (simp only [List.length_drop, List.length_take]; rfl)) ?_; (with_reducible refine (impl_beatTime.calls k _ _ l0 (l0.length : Int) 0 t250 _ ?side1 ?side2 A2.out).mono ?_); (case side1 => repeat (first | exact HR0.out | (with_reducible refine Kd.C_alloc ?_ _) | (with_reducible refine Kd.C_drewN ?_ _) | (with_reducible refine Kd.C_drew ?_))); (case side2 => exact HC0.out); rintro e w3 ⟨rfl, hb⟩; refine ⟨_, rfl, ?_⟩; have n0_ := Aside0.mk (below_step (by repeat (first | (with_reducible first | exact HB.out | apply below_alloc | apply pw_below_drewN | apply below_drew1) | exact HB.out)) hb); clear HB; have HB := n0_; clear n0_; (try clear hb); (try clear hb2); (try clear hk); (try clear hi)))
 go_ret
 exact ⟨by first | rfl | (simp [errW_none, errW_some] <;> rfl) | (simp [*, errW_none, errW_some] <;> rfl), by repeat (first | (with_reducible first | exact HB.out | apply below_alloc | apply pw_below_drewN | apply below_drew1) | exact HB.out)⟩
end Go.Proofs.Ytigkgihnijaefaa.F
namespace Go.Proofs.Ytigkgihnijaefaa.F
open Go.RowKit Go.Proofs.YtigkgihnijaefaaW.PrintWords Go.Proofs.YtigkgihnijaefaaW.PrintLast Go.Proofs.YtigkgihnijaefaaW.PrintMore
attribute [local go_sem] max2_int min2_int max_two min_two max_three min_three max_four min_four   -- for this text's walks alone
set_option linter.unusedVariables false
set_option linter.unusedSimpArgs false
def impl_ScoreEnd.f (k : Nat) (l0 : List (S56)) : Option (Int × Int) := (impl_IsScore.f k l0).bind fun t251 => (if t251 = true then ((impl_scoreEnd.f k l0).bind fun t252 => (some (t252, 0))) else (some (0, 1)))
theorem impl_ScoreEnd.mono : ∀ a0 k, LeO (impl_ScoreEnd.f k a0) (impl_ScoreEnd.f (k + 1) a0) := by
 intro a0 k
 unfold impl_ScoreEnd.f
 repeat' first
   | (with_reducible exact impl_IsScore.mono _ _)
   | (with_reducible exact impl_scoreEnd.mono _ _)
   | (with_reducible exact LeO.refl _)
   | (with_reducible exact LeO.none _)
   | (with_reducible refine LeO.ite ?_ ?_)
   | (with_reducible refine LeO.bind ?_ (fun _ => ?_))
   | exact impl_IsScore.mono _ _
   | exact impl_scoreEnd.mono _ _
   | exact LeO.none _
   | refine LeO.ite ?_ ?_
   | refine LeO.bind ?_ (fun _ => ?_)
set_option maxHeartbeats 8000000 in
set_option maxRecDepth 100000 in
theorem impl_ScoreEnd.calls (k : Nat) (A0 : Option Addr) (c0 : Nat) (l0 : List (S56)) (r1 : Int) (r2 : Int) (w : World) (hr0 : Kd.C k56 w A0 l0.length l0) (hc0 : l0.length ≤ c0) (h : impl_ScoreEnd.f k l0 = some (r1, r2)) :
  Calls Try.prog 14 #[.slice A0 l0.length c0] w fun e w' => e = .returned (.tuple #[.int .i64 r1, .int .i64 r2]) ∧ Below w.heap.size w w' := by
 have HR0 := Aside0.mk hr0
 have HC0 := Aside0.mk hc0
 clear hr0 hc0
 have HB := Aside0.mk (Below.refl w.heap.size w)
 have H : ((impl_IsScore.f k l0).bind fun t251 => (if t251 = true then ((impl_scoreEnd.f k l0).bind fun t252 => (some (t252, 0))) else (some (0, 1)))) = some (r1, r2) := h
 clear h
 replace H := Option.bind_eq_some_iff.mp H
 obtain ⟨t251, A20, H⟩ := H
 replace H : (if t251 = true then ((impl_scoreEnd.f k l0).bind fun t252 => (some (t252, 0))) else (some (0, 1))) = some (r1, r2) := H
 have A2 := Aside0.mk A20
 clear A20
 by_cases c3 : t251 = true
 ·subst c3
  have H1 : ((impl_scoreEnd.f k l0).bind fun t252 => (some (t252, 0))) = some (r1, r2) := by rw [if_pos rfl] at H; exact H
  clear H
  have H := H1
  clear H1
  replace H := Option.bind_eq_some_iff.mp H
  obtain ⟨t252, A40, H⟩ := H
  replace H : (some (t252, 0)) = some (r1, r2) := H
  have A4 := Aside0.mk A40
  clear A40
  simp only [Option.some.injEq, Prod.mk.injEq] at H
  obtain ⟨rfl, rfl⟩ := H
  go_enter Try.func14, Try.ntmps14
  go_wp2_with (first | ((with_reducible refine gate_callee (f := 25) rfl ?_); refine goesL_ (some 5) rfl rfl Try.func25 (by kernel_rfl) rfl #[.slice A0 l0.length c0] rfl (by (try simp only [List.map_toArray, List.map_cons, List.map_nil]); first | done | rfl | (simp only [List.length_drop, List.length_take]; rfl)) ?_; (with_reducible refine (impl_IsScore.calls k _ _ l0 true _ ?side1 ?side2 A2.out).mono ?_); (case side1 => repeat (first | exact HR0.out | (with_reducible refine Kd.C_alloc ?_ _) | (with_reducible refine Kd.C_drewN ?_ _) | (with_reducible refine Kd.C_drew ?_))); (case side2 => exact HC0.out); rintro e w5 ⟨rfl, hb⟩; refine ⟨_, rfl, ?_⟩; have n0_ := Aside0.mk (below_step (by repeat (first | (with_reducible first | exact HB.out | apply below_alloc | apply pw_below_drewN | apply below_drew1) | exact HB.out)) hb); clear HB; have HB := n0_; clear n0_; (try clear hb); (try clear hb2); (try clear hk); (try clear hi)) | ((with_reducible refine gate_callee (f := 43) rfl ?_); refine goesL_ (some 8) rfl rfl Try.func43 (by kernel_rfl) rfl #[.slice A0 l0.length c0] rfl (by (try simp only [List.map_toArray, List.map_cons, List.map_nil]); first | done | rfl | (simp only [List.length_drop, List.length_take]; rfl)) ?_; (with_reducible refine (impl_scoreEnd.calls k _ _ l0 t252 _ ?side1 ?side2 A4.out).mono ?_); (case side1 => repeat (first | exact (Kd.C_below HR0.out HB.out) | (with_reducible refine Kd.C_alloc ?_ _) | (with_reducible refine Kd.C_drewN ?_ _) | (with_reducible refine Kd.C_drew ?_))); (case side2 => exact HC0.out); rintro e w6 ⟨rfl, hb⟩; refine ⟨_, rfl, ?_⟩; have n0_ := Aside0.mk (below_step (by repeat (first | (with_reducible first | exact HB.out | apply below_alloc | apply pw_below_drewN | apply below_drew1) | exact HB.out)) hb); clear HB; have HB := n0_; clear n0_; (try clear hb); (try clear hb2); (try clear hk); (try clear hi)))
  go_ret2
  exact ⟨by first | rfl | (simp [errW_none, errW_some] <;> rfl) | (simp [*, errW_none, errW_some] <;> rfl), by repeat (first | (with_reducible first | exact HB.out | apply below_alloc | apply pw_below_drewN | apply below_drew1) | exact HB.out)⟩
 ·replace c3 := Bool.eq_false_iff.mpr c3
  subst c3
  have H1 : (some (0, 1)) = some (r1, r2) := by rw [if_neg (show ¬ (false = true) by decide)] at H; exact H
  clear H
  have H := H1
  clear H1
  simp only [Option.some.injEq, Prod.mk.injEq] at H
  obtain ⟨rfl, rfl⟩ := H
  go_enter Try.func14, Try.ntmps14
  go_wp2_with (first | ((with_reducible refine gate_callee (f := 25) rfl ?_); refine goesL_ (some 5) rfl rfl Try.func25 (by kernel_rfl) rfl #[.slice A0 l0.length c0] rfl (by (try simp only [List.map_toArray, List.map_cons, List.map_nil]); first | done | rfl | (simp only [List.length_drop, List.length_take]; rfl)) ?_; (with_reducible refine (impl_IsScore.calls k _ _ l0 false _ ?side1 ?side2 A2.out).mono ?_); (case side1 => repeat (first | exact HR0.out | (with_reducible refine Kd.C_alloc ?_ _) | (with_reducible refine Kd.C_drewN ?_ _) | (with_reducible refine Kd.C_drew ?_))); (case side2 => exact HC0.out); rintro e w7 ⟨rfl, hb⟩; refine ⟨_, rfl, ?_⟩; have n0_ := Aside0.mk (below_step (by repeat (first | (with_reducible first | exact HB.out | apply below_alloc | apply pw_below_drewN | apply below_drew1) | exact HB.out)) hb); clear HB; have HB := n0_; clear n0_; (try clear hb); (try clear hb2); (try clear hk); (try clear hi)))
  go_ret2
  exact ⟨by first | rfl | (simp [errW_none, errW_some] <;> rfl) | (simp [*, errW_none, errW_some] <;> rfl), by repeat (first | (with_reducible first | exact HB.out | apply below_alloc | apply pw_below_drewN | apply below_drew1) | exact HB.out)⟩
end Go.Proofs.Ytigkgihnijaefaa.F
namespace Go.Proofs.Ytigkgihnijaefaa.F
open Go.RowKit Go.Proofs.YtigkgihnijaefaaW.PrintWords Go.Proofs.YtigkgihnijaefaaW.PrintLast Go.Proofs.YtigkgihnijaefaaW.PrintMore
attribute [local go_sem] max2_int min2_int max_two min_two max_three min_three max_four min_four   -- for this text's walks alone
set_option linter.unusedVariables false
set_option linter.unusedSimpArgs false
mutual
def laws_FnStretched.j0 : Nat → List (S56) → Int → List (S56) → Int → List (S56) → List (S56) → List (S56) → Int → Bool → Option (Bool)
 | 0, _, _, _, _, _, _, _, _, _ => none
 | k + 1, x3, x4, x5, x6, x9, x10, x11, x12, x80 => if x80 = true then (some false) else (if x12 = 0 then ((impl_ScoreEnd.f k x9).bind fun bt282 => ((impl_ScoreEnd.f k x10).bind fun bt284 => ((impl_ScoreEnd.f k x11).bind fun bt286 => (if bt282.2 = 0 then (if bt284.2 = 0 then (if bt286.2 = 0 then (if (wrap64 (bt282.1 + bt284.1)) = bt286.1 then (laws_FnStretched.j1 k x3 x4 x5 x6) else (some false)) else (some false)) else (some false)) else (some false))))) else (laws_FnStretched.j1 k x3 x4 x5 x6))
def laws_FnStretched.j1 : Nat → List (S56) → Int → List (S56) → Int → Option (Bool)
 | 0, _, _, _, _ => none
 | k + 1, x3, x4, x5, x6 => if x6 = 0 then ((impl_ScoreEnd.f k x3).bind fun bt288 => ((impl_ScoreEnd.f k x5).bind fun bt290 => (if bt288.2 = 0 then (if bt290.2 = 0 then (if (x5.length : Int) = (x3.length : Int) then (if x4 = 100 then (some ((wrap64 (bt290.1 * 100)) == (wrap64 (bt288.1 * x4)))) else (if x4 = 200 then (some ((wrap64 (bt290.1 * 100)) == (wrap64 (bt288.1 * x4)))) else (some true))) else (some false)) else (some false)) else (some false)))) else (some true)
end
def laws_FnStretched.f (k : Nat) (l0 : List Int) : Option (Bool) := (laws_big.f l0).bind fun t253 => (if t253 = true then (some true) else ((spec_DrawStretchScore.f k l0).bind fun bt254 => ((impl_StretchScore.f k bt254.1 bt254.2).bind fun bt258 => ((spec_StretchScore.f k bt254.1 bt254.2).bind fun bt262 => ((spec_DrawJoinScores.f k l0).bind fun bt266 => ((impl_JoinScores.f k bt266.1 bt266.2).bind fun bt272 => ((spec_JoinScores.f k bt266.1 bt266.2).bind fun bt276 => (if bt258.2 = bt262.2 then ((laws_likeBars.f k bt258.1 bt262.1).bind fun t280 => (if t280 = true then (if bt272.2 = bt276.2 then ((laws_likeBars.f k bt272.1 bt276.1).bind fun t281 => (laws_FnStretched.j0 k bt254.1 bt254.2 bt258.1 bt258.2 bt266.1 bt266.2 bt272.1 bt272.2 (!t281))) else (laws_FnStretched.j0 k bt254.1 bt254.2 bt258.1 bt258.2 bt266.1 bt266.2 bt272.1 bt272.2 true)) else (laws_FnStretched.j0 k bt254.1 bt254.2 bt258.1 bt258.2 bt266.1 bt266.2 bt272.1 bt272.2 true))) else (laws_FnStretched.j0 k bt254.1 bt254.2 bt258.1 bt258.2 bt266.1 bt266.2 bt272.1 bt272.2 true)))))))))
theorem laws_FnStretched.mono_l : ∀ k, (∀ y0 y1 y2 y3 y4 y5 y6 y7 y8, LeO (laws_FnStretched.j0 k y0 y1 y2 y3 y4 y5 y6 y7 y8) (laws_FnStretched.j0 (k + 1) y0 y1 y2 y3 y4 y5 y6 y7 y8)) ∧ (∀ y0 y1 y2 y3, LeO (laws_FnStretched.j1 k y0 y1 y2 y3) (laws_FnStretched.j1 (k + 1) y0 y1 y2 y3))
 | 0 => ⟨fun _ _ _ _ _ _ _ _ _ r h => by simp [laws_FnStretched.j0] at h, fun _ _ _ _ r h => by simp [laws_FnStretched.j1] at h⟩
 | k + 1 => by
  obtain ⟨ih0, ih1⟩ := laws_FnStretched.mono_l k
  refine ⟨?_, ?_⟩
  ·intro y0 y1 y2 y3 y4 y5 y6 y7 y8
   unfold laws_FnStretched.j0
   repeat' first
   | (with_reducible exact ih0 _ _ _ _ _ _ _ _ _)
   | (with_reducible exact ih1 _ _ _ _)
   | (with_reducible exact impl_JoinScores.mono _ _ _)
   | (with_reducible exact impl_ScoreEnd.mono _ _)
   | (with_reducible exact impl_StretchScore.mono _ _ _)
   | (with_reducible exact laws_likeBars.mono _ _ _)
   | (with_reducible exact spec_DrawJoinScores.mono _ _)
   | (with_reducible exact spec_DrawStretchScore.mono _ _)
   | (with_reducible exact spec_JoinScores.mono _ _ _)
   | (with_reducible exact spec_StretchScore.mono _ _ _)
   | (with_reducible exact LeO.refl _)
   | (with_reducible exact LeO.none _)
   | (with_reducible refine LeO.ite ?_ ?_)
   | (with_reducible refine LeO.bind ?_ (fun _ => ?_))
   | exact ih0 _ _ _ _ _ _ _ _ _
   | exact ih1 _ _ _ _
   | exact impl_JoinScores.mono _ _ _
   | exact impl_ScoreEnd.mono _ _
   | exact impl_StretchScore.mono _ _ _
   | exact laws_likeBars.mono _ _ _
   | exact spec_DrawJoinScores.mono _ _
   | exact spec_DrawStretchScore.mono _ _
   | exact spec_JoinScores.mono _ _ _
   | exact spec_StretchScore.mono _ _ _
   | exact LeO.none _
   | refine LeO.ite ?_ ?_
   | refine LeO.bind ?_ (fun _ => ?_)
  ·intro y0 y1 y2 y3
   unfold laws_FnStretched.j1
   repeat' first
   | (with_reducible exact ih0 _ _ _ _ _ _ _ _ _)
   | (with_reducible exact ih1 _ _ _ _)
   | (with_reducible exact impl_JoinScores.mono _ _ _)
   | (with_reducible exact impl_ScoreEnd.mono _ _)
   | (with_reducible exact impl_StretchScore.mono _ _ _)
   | (with_reducible exact laws_likeBars.mono _ _ _)
   | (with_reducible exact spec_DrawJoinScores.mono _ _)
   | (with_reducible exact spec_DrawStretchScore.mono _ _)
   | (with_reducible exact spec_JoinScores.mono _ _ _)
   | (with_reducible exact spec_StretchScore.mono _ _ _)
   | (with_reducible exact LeO.refl _)
   | (with_reducible exact LeO.none _)
   | (with_reducible refine LeO.ite ?_ ?_)
   | (with_reducible refine LeO.bind ?_ (fun _ => ?_))
   | exact ih0 _ _ _ _ _ _ _ _ _
   | exact ih1 _ _ _ _
   | exact impl_JoinScores.mono _ _ _
   | exact impl_ScoreEnd.mono _ _
   | exact impl_StretchScore.mono _ _ _
   | exact laws_likeBars.mono _ _ _
   | exact spec_DrawJoinScores.mono _ _
   | exact spec_DrawStretchScore.mono _ _
   | exact spec_JoinScores.mono _ _ _
   | exact spec_StretchScore.mono _ _ _
   | exact LeO.none _
   | refine LeO.ite ?_ ?_
   | refine LeO.bind ?_ (fun _ => ?_)
theorem laws_FnStretched.mono : ∀ a0 k, LeO (laws_FnStretched.f k a0) (laws_FnStretched.f (k + 1) a0) := by
 intro a0 k
 obtain ⟨ih0, ih1⟩ := laws_FnStretched.mono_l k
 unfold laws_FnStretched.f
 repeat' first
   | (with_reducible exact ih0 _ _ _ _ _ _ _ _ _)
   | (with_reducible exact ih1 _ _ _ _)
   | (with_reducible exact impl_JoinScores.mono _ _ _)
   | (with_reducible exact impl_ScoreEnd.mono _ _)
   | (with_reducible exact impl_StretchScore.mono _ _ _)
   | (with_reducible exact laws_likeBars.mono _ _ _)
   | (with_reducible exact spec_DrawJoinScores.mono _ _)
   | (with_reducible exact spec_DrawStretchScore.mono _ _)
   | (with_reducible exact spec_JoinScores.mono _ _ _)
   | (with_reducible exact spec_StretchScore.mono _ _ _)
   | (with_reducible exact LeO.refl _)
   | (with_reducible exact LeO.none _)
   | (with_reducible refine LeO.ite ?_ ?_)
   | (with_reducible refine LeO.bind ?_ (fun _ => ?_))
   | exact ih0 _ _ _ _ _ _ _ _ _
   | exact ih1 _ _ _ _
   | exact impl_JoinScores.mono _ _ _
   | exact impl_ScoreEnd.mono _ _
   | exact impl_StretchScore.mono _ _ _
   | exact laws_likeBars.mono _ _ _
   | exact spec_DrawJoinScores.mono _ _
   | exact spec_DrawStretchScore.mono _ _
   | exact spec_JoinScores.mono _ _ _
   | exact spec_StretchScore.mono _ _ _
   | exact LeO.none _
   | refine LeO.ite ?_ ?_
   | refine LeO.bind ?_ (fun _ => ?_)
theorem laws_FnStretched.j0_true (k : Nat) (x3 : List (S56)) (x4 : Int) (x5 : List (S56)) (x6 : Int) (x9 : List (S56)) (x10 : List (S56)) (x11 : List (S56)) (x12 : Int) : ¬ laws_FnStretched.j0 k x3 x4 x5 x6 x9 x10 x11 x12 true = some true := by
 cases k with
 | zero => simp [laws_FnStretched.j0]
 | succ k => simp [laws_FnStretched.j0]
set_option maxHeartbeats 8000000 in
set_option maxRecDepth 100000 in
theorem laws_FnStretched.calls (k : Nat) (A0 : Option Addr) (c0 : Nat) (l0 : List Int) (r : Bool) (w : World) (hr0 : Kd.C (Kd.int .u8) w A0 l0.length l0) (hc0 : l0.length ≤ c0) (h : laws_FnStretched.f k l0 = some r) (hr_ : r = true) :
  Calls Try.prog 3 #[.slice A0 l0.length c0] w fun e w' => e = .returned (.bool r) ∧ Below w.heap.size w w' := by
 have HR_ := Aside0.mk hr_
 clear hr_
 have HR0 := Aside0.mk hr0
 have HC0 := Aside0.mk hc0
 clear hr0 hc0
 have HB := Aside0.mk (Below.refl w.heap.size w)
 have H : ((laws_big.f l0).bind fun t253 => (if t253 = true then (some true) else ((spec_DrawStretchScore.f k l0).bind fun bt254 => ((impl_StretchScore.f k bt254.1 bt254.2).bind fun bt258 => ((spec_StretchScore.f k bt254.1 bt254.2).bind fun bt262 => ((spec_DrawJoinScores.f k l0).bind fun bt266 => ((impl_JoinScores.f k bt266.1 bt266.2).bind fun bt272 => ((spec_JoinScores.f k bt266.1 bt266.2).bind fun bt276 => (if bt258.2 = bt262.2 then ((laws_likeBars.f k bt258.1 bt262.1).bind fun t280 => (if t280 = true then (if bt272.2 = bt276.2 then ((laws_likeBars.f k bt272.1 bt276.1).bind fun t281 => (laws_FnStretched.j0 k bt254.1 bt254.2 bt258.1 bt258.2 bt266.1 bt266.2 bt272.1 bt272.2 (!t281))) else (laws_FnStretched.j0 k bt254.1 bt254.2 bt258.1 bt258.2 bt266.1 bt266.2 bt272.1 bt272.2 true)) else (laws_FnStretched.j0 k bt254.1 bt254.2 bt258.1 bt258.2 bt266.1 bt266.2 bt272.1 bt272.2 true))) else (laws_FnStretched.j0 k bt254.1 bt254.2 bt258.1 bt258.2 bt266.1 bt266.2 bt272.1 bt272.2 true)))))))))) = some r := h
 clear h
 replace H := Option.bind_eq_some_iff.mp H
 obtain ⟨t253, A20, H⟩ := H
 replace H : (if t253 = true then (some true) else ((spec_DrawStretchScore.f k l0).bind fun bt254 => ((impl_StretchScore.f k bt254.1 bt254.2).bind fun bt258 => ((spec_StretchScore.f k bt254.1 bt254.2).bind fun bt262 => ((spec_DrawJoinScores.f k l0).bind fun bt266 => ((impl_JoinScores.f k bt266.1 bt266.2).bind fun bt272 => ((spec_JoinScores.f k bt266.1 bt266.2).bind fun bt276 => (if bt258.2 = bt262.2 then ((laws_likeBars.f k bt258.1 bt262.1).bind fun t280 => (if t280 = true then (if bt272.2 = bt276.2 then ((laws_likeBars.f k bt272.1 bt276.1).bind fun t281 => (laws_FnStretched.j0 k bt254.1 bt254.2 bt258.1 bt258.2 bt266.1 bt266.2 bt272.1 bt272.2 (!t281))) else (laws_FnStretched.j0 k bt254.1 bt254.2 bt258.1 bt258.2 bt266.1 bt266.2 bt272.1 bt272.2 true)) else (laws_FnStretched.j0 k bt254.1 bt254.2 bt258.1 bt258.2 bt266.1 bt266.2 bt272.1 bt272.2 true))) else (laws_FnStretched.j0 k bt254.1 bt254.2 bt258.1 bt258.2 bt266.1 bt266.2 bt272.1 bt272.2 true))))))))) = some r := H
 have A2 := Aside0.mk A20
 clear A20
 by_cases c3 : t253 = true
 ·subst c3
  have H1 : (some true) = some r := by rw [if_pos rfl] at H; exact H
  clear H
  have H := H1
  clear H1
  obtain rfl := Option.some.inj H
  go_enter Try.func3, Try.ntmps3
  go_wp2_with (first | ((with_reducible refine gate_callee (f := 6) rfl ?_); refine goesL_ (some 26) rfl rfl Try.func6 (by kernel_rfl) rfl #[.slice A0 l0.length c0] rfl (by (try simp only [List.map_toArray, List.map_cons, List.map_nil]); first | done | rfl | (simp only [List.length_drop, List.length_take]; rfl)) ?_; (with_reducible refine (laws_big.calls _ _ l0 true _ ?side1 ?side2 A2.out).mono ?_); (case side1 => repeat (first | exact HR0.out | (with_reducible refine Kd.C_alloc ?_ _) | (with_reducible refine Kd.C_drewN ?_ _) | (with_reducible refine Kd.C_drew ?_))); (case side2 => exact HC0.out); rintro e w' ⟨rfl, ⟨nd, rfl⟩⟩; refine ⟨_, rfl, ?_⟩))
  go_ret
  exact ⟨by first | rfl | (simp [errW_none, errW_some] <;> rfl) | (simp [*, errW_none, errW_some] <;> rfl), by repeat (first | (with_reducible first | exact HB.out | apply below_alloc | apply pw_below_drewN | apply below_drew1) | exact HB.out)⟩
 ·replace c3 := Bool.eq_false_iff.mpr c3
  subst c3
  have H1 : ((spec_DrawStretchScore.f k l0).bind fun bt254 => ((impl_StretchScore.f k bt254.1 bt254.2).bind fun bt258 => ((spec_StretchScore.f k bt254.1 bt254.2).bind fun bt262 => ((spec_DrawJoinScores.f k l0).bind fun bt266 => ((impl_JoinScores.f k bt266.1 bt266.2).bind fun bt272 => ((spec_JoinScores.f k bt266.1 bt266.2).bind fun bt276 => (if bt258.2 = bt262.2 then ((laws_likeBars.f k bt258.1 bt262.1).bind fun t280 => (if t280 = true then (if bt272.2 = bt276.2 then ((laws_likeBars.f k bt272.1 bt276.1).bind fun t281 => (laws_FnStretched.j0 k bt254.1 bt254.2 bt258.1 bt258.2 bt266.1 bt266.2 bt272.1 bt272.2 (!t281))) else (laws_FnStretched.j0 k bt254.1 bt254.2 bt258.1 bt258.2 bt266.1 bt266.2 bt272.1 bt272.2 true)) else (laws_FnStretched.j0 k bt254.1 bt254.2 bt258.1 bt258.2 bt266.1 bt266.2 bt272.1 bt272.2 true))) else (laws_FnStretched.j0 k bt254.1 bt254.2 bt258.1 bt258.2 bt266.1 bt266.2 bt272.1 bt272.2 true)))))))) = some r := by rw [if_neg (show ¬ (false = true) by decide)] at H; exact H
  clear H
  have H := H1
  clear H1
  replace H := Option.bind_eq_some_iff.mp H
  obtain ⟨⟨t254, t255⟩, A40, H⟩ := H
  replace H : ((impl_StretchScore.f k t254 t255).bind fun bt258 => ((spec_StretchScore.f k t254 t255).bind fun bt262 => ((spec_DrawJoinScores.f k l0).bind fun bt266 => ((impl_JoinScores.f k bt266.1 bt266.2).bind fun bt272 => ((spec_JoinScores.f k bt266.1 bt266.2).bind fun bt276 => (if bt258.2 = bt262.2 then ((laws_likeBars.f k bt258.1 bt262.1).bind fun t280 => (if t280 = true then (if bt272.2 = bt276.2 then ((laws_likeBars.f k bt272.1 bt276.1).bind fun t281 => (laws_FnStretched.j0 k t254 t255 bt258.1 bt258.2 bt266.1 bt266.2 bt272.1 bt272.2 (!t281))) else (laws_FnStretched.j0 k t254 t255 bt258.1 bt258.2 bt266.1 bt266.2 bt272.1 bt272.2 true)) else (laws_FnStretched.j0 k t254 t255 bt258.1 bt258.2 bt266.1 bt266.2 bt272.1 bt272.2 true))) else (laws_FnStretched.j0 k t254 t255 bt258.1 bt258.2 bt266.1 bt266.2 bt272.1 bt272.2 true))))))) = some r := H
  have A4 := Aside0.mk A40
  clear A40
  replace H := Option.bind_eq_some_iff.mp H
  obtain ⟨⟨t258, t259⟩, A50, H⟩ := H
  replace H : ((spec_StretchScore.f k t254 t255).bind fun bt262 => ((spec_DrawJoinScores.f k l0).bind fun bt266 => ((impl_JoinScores.f k bt266.1 bt266.2).bind fun bt272 => ((spec_JoinScores.f k bt266.1 bt266.2).bind fun bt276 => (if t259 = bt262.2 then ((laws_likeBars.f k t258 bt262.1).bind fun t280 => (if t280 = true then (if bt272.2 = bt276.2 then ((laws_likeBars.f k bt272.1 bt276.1).bind fun t281 => (laws_FnStretched.j0 k t254 t255 t258 t259 bt266.1 bt266.2 bt272.1 bt272.2 (!t281))) else (laws_FnStretched.j0 k t254 t255 t258 t259 bt266.1 bt266.2 bt272.1 bt272.2 true)) else (laws_FnStretched.j0 k t254 t255 t258 t259 bt266.1 bt266.2 bt272.1 bt272.2 true))) else (laws_FnStretched.j0 k t254 t255 t258 t259 bt266.1 bt266.2 bt272.1 bt272.2 true)))))) = some r := H
  have A5 := Aside0.mk A50
  clear A50
  replace H := Option.bind_eq_some_iff.mp H
  obtain ⟨⟨t262, t263⟩, A60, H⟩ := H
  replace H : ((spec_DrawJoinScores.f k l0).bind fun bt266 => ((impl_JoinScores.f k bt266.1 bt266.2).bind fun bt272 => ((spec_JoinScores.f k bt266.1 bt266.2).bind fun bt276 => (if t259 = t263 then ((laws_likeBars.f k t258 t262).bind fun t280 => (if t280 = true then (if bt272.2 = bt276.2 then ((laws_likeBars.f k bt272.1 bt276.1).bind fun t281 => (laws_FnStretched.j0 k t254 t255 t258 t259 bt266.1 bt266.2 bt272.1 bt272.2 (!t281))) else (laws_FnStretched.j0 k t254 t255 t258 t259 bt266.1 bt266.2 bt272.1 bt272.2 true)) else (laws_FnStretched.j0 k t254 t255 t258 t259 bt266.1 bt266.2 bt272.1 bt272.2 true))) else (laws_FnStretched.j0 k t254 t255 t258 t259 bt266.1 bt266.2 bt272.1 bt272.2 true))))) = some r := H
  have A6 := Aside0.mk A60
  clear A60
  replace H := Option.bind_eq_some_iff.mp H
  obtain ⟨⟨t266, t267⟩, A70, H⟩ := H
  replace H : ((impl_JoinScores.f k t266 t267).bind fun bt272 => ((spec_JoinScores.f k t266 t267).bind fun bt276 => (if t259 = t263 then ((laws_likeBars.f k t258 t262).bind fun t280 => (if t280 = true then (if bt272.2 = bt276.2 then ((laws_likeBars.f k bt272.1 bt276.1).bind fun t281 => (laws_FnStretched.j0 k t254 t255 t258 t259 t266 t267 bt272.1 bt272.2 (!t281))) else (laws_FnStretched.j0 k t254 t255 t258 t259 t266 t267 bt272.1 bt272.2 true)) else (laws_FnStretched.j0 k t254 t255 t258 t259 t266 t267 bt272.1 bt272.2 true))) else (laws_FnStretched.j0 k t254 t255 t258 t259 t266 t267 bt272.1 bt272.2 true)))) = some r := H
  have A7 := Aside0.mk A70
  clear A70
  replace H := Option.bind_eq_some_iff.mp H
  obtain ⟨⟨t272, t273⟩, A80, H⟩ := H
  replace H : ((spec_JoinScores.f k t266 t267).bind fun bt276 => (if t259 = t263 then ((laws_likeBars.f k t258 t262).bind fun t280 => (if t280 = true then (if t273 = bt276.2 then ((laws_likeBars.f k t272 bt276.1).bind fun t281 => (laws_FnStretched.j0 k t254 t255 t258 t259 t266 t267 t272 t273 (!t281))) else (laws_FnStretched.j0 k t254 t255 t258 t259 t266 t267 t272 t273 true)) else (laws_FnStretched.j0 k t254 t255 t258 t259 t266 t267 t272 t273 true))) else (laws_FnStretched.j0 k t254 t255 t258 t259 t266 t267 t272 t273 true))) = some r := H
  have A8 := Aside0.mk A80
  clear A80
  replace H := Option.bind_eq_some_iff.mp H
  obtain ⟨⟨t276, t277⟩, A90, H⟩ := H
  replace H : (if t259 = t263 then ((laws_likeBars.f k t258 t262).bind fun t280 => (if t280 = true then (if t273 = t277 then ((laws_likeBars.f k t272 t276).bind fun t281 => (laws_FnStretched.j0 k t254 t255 t258 t259 t266 t267 t272 t273 (!t281))) else (laws_FnStretched.j0 k t254 t255 t258 t259 t266 t267 t272 t273 true)) else (laws_FnStretched.j0 k t254 t255 t258 t259 t266 t267 t272 t273 true))) else (laws_FnStretched.j0 k t254 t255 t258 t259 t266 t267 t272 t273 true)) = some r := H
  have A9 := Aside0.mk A90
  clear A90
  have HC10 := Aside0.mk H
  clear H
  go_enter Try.func3, Try.ntmps3
  go_upto_region 9 with (first | ((with_reducible refine gate_callee (f := 6) rfl ?_); refine goesL_ (some 26) rfl rfl Try.func6 (by kernel_rfl) rfl #[.slice A0 l0.length c0] rfl (by (try simp only [List.map_toArray, List.map_cons, List.map_nil]); first | done | rfl | (simp only [List.length_drop, List.length_take]; rfl)) ?_; (with_reducible refine (laws_big.calls _ _ l0 false _ ?side1 ?side2 A2.out).mono ?_); (case side1 => repeat (first | exact HR0.out | (with_reducible refine Kd.C_alloc ?_ _) | (with_reducible refine Kd.C_drewN ?_ _) | (with_reducible refine Kd.C_drew ?_))); (case side2 => exact HC0.out); rintro e w' ⟨rfl, ⟨nd, rfl⟩⟩; refine ⟨_, rfl, ?_⟩) | ((with_reducible refine gate_callee (f := 7) rfl ?_); refine goesL_ (some 29) rfl rfl Try.func7 (by kernel_rfl) rfl #[.slice A0 l0.length c0] rfl (by (try simp only [List.map_toArray, List.map_cons, List.map_nil]); first | done | rfl | (simp only [List.length_drop, List.length_take]; rfl)) ?_; (with_reducible refine (spec_DrawStretchScore.calls k _ _ l0 t254 t255 _ ?side1 ?side2 A4.out).mono ?_); (case side1 => repeat (first | exact HR0.out | (with_reducible refine Kd.C_alloc ?_ _) | (with_reducible refine Kd.C_drewN ?_ _) | (with_reducible refine Kd.C_drew ?_))); (case side2 => exact HC0.out); rintro e w11 ⟨v256, rfl, ho0, hb⟩; refine ⟨_, rfl, ?_⟩; have n0_ := Aside0.mk (Kd.R_lower ho0 (below_size (by repeat (first | (with_reducible first | exact HB.out | apply below_alloc | apply pw_below_drewN | apply below_drew1) | exact HB.out)))); have n1_ := Aside0.mk (below_step (by repeat (first | (with_reducible first | exact HB.out | apply below_alloc | apply pw_below_drewN | apply below_drew1) | exact HB.out)) hb); clear HB; have HO257 := n0_; have HB := n1_; clear n0_ n1_; (try clear hb); (try clear hb2); (try clear hk); (try clear hi); (try clear ho0); obtain ⟨Ao12, co12, eo12⟩ := Kd.R_slice HO257.out; subst eo12) | ((with_reducible refine gate_callee (f := 8) rfl ?_); refine goesL_ (some 35) rfl rfl Try.func8 (by kernel_rfl) rfl #[.slice Ao12 t254.length co12, .int .i64 t255] rfl (by (try simp only [List.map_toArray, List.map_cons, List.map_nil]); first | done | rfl | (simp only [List.length_drop, List.length_take]; rfl)) ?_; (with_reducible refine (impl_StretchScore.calls k _ _ t254 t255 t258 t259 _ ?side1 ?side2 A5.out).mono ?_); (case side1 => repeat (first | exact (Kd.R_reads' HO257.out).2.2 | (with_reducible refine Kd.C_alloc ?_ _) | (with_reducible refine Kd.C_drewN ?_ _) | (with_reducible refine Kd.C_drew ?_))); (case side2 => exact (Kd.R_reads' HO257.out).2.1); rintro e w13 ⟨v260, rfl, ho0, hb⟩; refine ⟨_, rfl, ?_⟩; have n0_ := Aside0.mk (Kd.R_elder' (by (with_reducible repeat (first | apply Kd.R_alloc | apply Kd.R_drewN | apply Kd.R_drew)); exact HO257.out) (Kd.R_base ho0) hb); have n1_ := Aside0.mk (Kd.R_lower (Kd.R_new' ho0 (Kd.R_lt (by (with_reducible repeat (first | apply Kd.R_alloc | apply Kd.R_drewN | apply Kd.R_drew)); exact HO257.out))) (below_size (by repeat (first | (with_reducible first | exact HB.out | apply below_alloc | apply pw_below_drewN | apply below_drew1) | exact HB.out)))); have n2_ := Aside0.mk (below_step (by repeat (first | (with_reducible first | exact HB.out | apply below_alloc | apply pw_below_drewN | apply below_drew1) | exact HB.out)) hb); clear HO257; clear HB; have HO257 := n0_; have HO261 := n1_; have HB := n2_; clear n0_ n1_ n2_; (try clear hb); (try clear hb2); (try clear hk); (try clear hi); (try clear ho0)) | ((with_reducible refine gate_callee (f := 9) rfl ?_); refine goesL_ (some 41) rfl rfl Try.func9 (by kernel_rfl) rfl #[.slice Ao12 t254.length co12, .int .i64 t255] rfl (by (try simp only [List.map_toArray, List.map_cons, List.map_nil]); first | done | rfl | (simp only [List.length_drop, List.length_take]; rfl)) ?_; (with_reducible refine (spec_StretchScore.calls k _ _ t254 t255 t262 t263 _ ?side1 ?side2 A6.out).mono ?_); (case side1 => repeat (first | exact (Kd.R_reads' HO257.out).2.2 | (with_reducible refine Kd.C_alloc ?_ _) | (with_reducible refine Kd.C_drewN ?_ _) | (with_reducible refine Kd.C_drew ?_))); (case side2 => exact (Kd.R_reads' HO257.out).2.1); rintro e w14 ⟨v264, rfl, ho0, hb⟩; refine ⟨_, rfl, ?_⟩; have n0_ := Aside0.mk (Kd.R_elder' (by (with_reducible repeat (first | apply Kd.R_alloc | apply Kd.R_drewN | apply Kd.R_drew)); exact HO257.out) (Kd.R_base ho0) hb); have n1_ := Aside0.mk (Kd.R_elder' (by (with_reducible repeat (first | apply Kd.R_alloc | apply Kd.R_drewN | apply Kd.R_drew)); exact HO261.out) (Kd.R_base ho0) hb); have n2_ := Aside0.mk (Kd.R_lower (Kd.R_new' (Kd.R_new' ho0 (Kd.R_lt (by (with_reducible repeat (first | apply Kd.R_alloc | apply Kd.R_drewN | apply Kd.R_drew)); exact HO257.out))) (Kd.R_lt (by (with_reducible repeat (first | apply Kd.R_alloc | apply Kd.R_drewN | apply Kd.R_drew)); exact HO261.out))) (below_size (by repeat (first | (with_reducible first | exact HB.out | apply below_alloc | apply pw_below_drewN | apply below_drew1) | exact HB.out)))); have n3_ := Aside0.mk (below_step (by repeat (first | (with_reducible first | exact HB.out | apply below_alloc | apply pw_below_drewN | apply below_drew1) | exact HB.out)) hb); clear HO257; clear HO261; clear HB; have HO257 := n0_; have HO261 := n1_; have HO265 := n2_; have HB := n3_; clear n0_ n1_ n2_ n3_; (try clear hb); (try clear hb2); (try clear hk); (try clear hi); (try clear ho0)) | ((with_reducible refine gate_callee (f := 10) rfl ?_); refine goesL_ (some 46) rfl rfl Try.func10 (by kernel_rfl) rfl #[.slice A0 l0.length c0] rfl (by (try simp only [List.map_toArray, List.map_cons, List.map_nil]); first | done | rfl | (simp only [List.length_drop, List.length_take]; rfl)) ?_; (with_reducible refine (spec_DrawJoinScores.calls k _ _ l0 t266 t267 _ ?side1 ?side2 A7.out).mono ?_); (case side1 => repeat (first | exact (Kd.C_below HR0.out HB.out) | (with_reducible refine Kd.C_alloc ?_ _) | (with_reducible refine Kd.C_drewN ?_ _) | (with_reducible refine Kd.C_drew ?_))); (case side2 => exact HC0.out); rintro e w15 ⟨v268, v270, rfl, ho0, ho1, hb⟩; refine ⟨_, rfl, ?_⟩; have n0_ := Aside0.mk (Kd.R_mono (Kd.R_told (Kd.R_told (Kd.R_old (by (with_reducible repeat (first | apply Kd.R_alloc | apply Kd.R_drewN | apply Kd.R_drew)); exact HO257.out) hb) (Kd.R_base ho0)) (Kd.R_base ho1)) (fun _ h_ => h_.1)); have n1_ := Aside0.mk (Kd.R_mono (Kd.R_told (Kd.R_told (Kd.R_old (by (with_reducible repeat (first | apply Kd.R_alloc | apply Kd.R_drewN | apply Kd.R_drew)); exact HO261.out) hb) (Kd.R_base ho0)) (Kd.R_base ho1)) (fun _ h_ => h_.1)); have n2_ := Aside0.mk (Kd.R_mono (Kd.R_told (Kd.R_told (Kd.R_old (by (with_reducible repeat (first | apply Kd.R_alloc | apply Kd.R_drewN | apply Kd.R_drew)); exact HO265.out) hb) (Kd.R_base ho0)) (Kd.R_base ho1)) (fun _ h_ => h_.1)); have n3_ := Aside0.mk (Kd.R_lower (Kd.R_new' (Kd.R_new' (Kd.R_new' ho0 (Kd.R_lt (by (with_reducible repeat (first | apply Kd.R_alloc | apply Kd.R_drewN | apply Kd.R_drew)); exact HO257.out))) (Kd.R_lt (by (with_reducible repeat (first | apply Kd.R_alloc | apply Kd.R_drewN | apply Kd.R_drew)); exact HO261.out))) (Kd.R_lt (by (with_reducible repeat (first | apply Kd.R_alloc | apply Kd.R_drewN | apply Kd.R_drew)); exact HO265.out))) (below_size (by repeat (first | (with_reducible first | exact HB.out | apply below_alloc | apply pw_below_drewN | apply below_drew1) | exact HB.out)))); have n4_ := Aside0.mk (Kd.R_lower (Kd.R_new' (Kd.R_new' (Kd.R_new' ho1 (Kd.R_lt (by (with_reducible repeat (first | apply Kd.R_alloc | apply Kd.R_drewN | apply Kd.R_drew)); exact HO257.out))) (Kd.R_lt (by (with_reducible repeat (first | apply Kd.R_alloc | apply Kd.R_drewN | apply Kd.R_drew)); exact HO261.out))) (Kd.R_lt (by (with_reducible repeat (first | apply Kd.R_alloc | apply Kd.R_drewN | apply Kd.R_drew)); exact HO265.out))) (below_size (by repeat (first | (with_reducible first | exact HB.out | apply below_alloc | apply pw_below_drewN | apply below_drew1) | exact HB.out)))); have n5_ := Aside0.mk (below_step (by repeat (first | (with_reducible first | exact HB.out | apply below_alloc | apply pw_below_drewN | apply below_drew1) | exact HB.out)) hb); clear HO257; clear HO261; clear HO265; clear HB; have HO257 := n0_; have HO261 := n1_; have HO265 := n2_; have HO269 := n3_; have HO271 := n4_; have HB := n5_; clear n0_ n1_ n2_ n3_ n4_ n5_; (try clear hb); (try clear hb2); (try clear hk); (try clear hi); (try clear ho0); (try clear ho1); obtain ⟨Ao16, co16, eo16⟩ := Kd.R_slice HO269.out; subst eo16; obtain ⟨Ao17, co17, eo17⟩ := Kd.R_slice HO271.out; subst eo17) | ((with_reducible refine gate_callee (f := 11) rfl ?_); refine goesL_ (some 52) rfl rfl Try.func11 (by kernel_rfl) rfl #[.slice Ao16 t266.length co16, .slice Ao17 t267.length co17] rfl (by (try simp only [List.map_toArray, List.map_cons, List.map_nil]); first | done | rfl | (simp only [List.length_drop, List.length_take]; rfl)) ?_; (with_reducible refine (impl_JoinScores.calls k _ _ t266 _ _ t267 t272 t273 _ ?side1 ?side2 ?side3 ?side4 A8.out).mono ?_); (case side1 => repeat (first | exact (Kd.R_reads' HO269.out).2.2 | (with_reducible refine Kd.C_alloc ?_ _) | (with_reducible refine Kd.C_drewN ?_ _) | (with_reducible refine Kd.C_drew ?_))); (case side2 => exact (Kd.R_reads' HO269.out).2.1); (case side3 => repeat (first | exact (Kd.R_reads' HO271.out).2.2 | (with_reducible refine Kd.C_alloc ?_ _) | (with_reducible refine Kd.C_drewN ?_ _) | (with_reducible refine Kd.C_drew ?_))); (case side4 => exact (Kd.R_reads' HO271.out).2.1); rintro e w18 ⟨v274, rfl, ho0, hb⟩; refine ⟨_, rfl, ?_⟩; have n0_ := Aside0.mk (Kd.R_elder' (by (with_reducible repeat (first | apply Kd.R_alloc | apply Kd.R_drewN | apply Kd.R_drew)); exact HO257.out) (Kd.R_base ho0) hb); have n1_ := Aside0.mk (Kd.R_elder' (by (with_reducible repeat (first | apply Kd.R_alloc | apply Kd.R_drewN | apply Kd.R_drew)); exact HO261.out) (Kd.R_base ho0) hb); have n2_ := Aside0.mk (Kd.R_elder' (by (with_reducible repeat (first | apply Kd.R_alloc | apply Kd.R_drewN | apply Kd.R_drew)); exact HO265.out) (Kd.R_base ho0) hb); have n3_ := Aside0.mk (Kd.R_elder' (by (with_reducible repeat (first | apply Kd.R_alloc | apply Kd.R_drewN | apply Kd.R_drew)); exact HO269.out) (Kd.R_base ho0) hb); have n4_ := Aside0.mk (Kd.R_elder' (by (with_reducible repeat (first | apply Kd.R_alloc | apply Kd.R_drewN | apply Kd.R_drew)); exact HO271.out) (Kd.R_base ho0) hb); have n5_ := Aside0.mk (Kd.R_lower (Kd.R_new' (Kd.R_new' (Kd.R_new' (Kd.R_new' (Kd.R_new' ho0 (Kd.R_lt (by (with_reducible repeat (first | apply Kd.R_alloc | apply Kd.R_drewN | apply Kd.R_drew)); exact HO257.out))) (Kd.R_lt (by (with_reducible repeat (first | apply Kd.R_alloc | apply Kd.R_drewN | apply Kd.R_drew)); exact HO261.out))) (Kd.R_lt (by (with_reducible repeat (first | apply Kd.R_alloc | apply Kd.R_drewN | apply Kd.R_drew)); exact HO265.out))) (Kd.R_lt (by (with_reducible repeat (first | apply Kd.R_alloc | apply Kd.R_drewN | apply Kd.R_drew)); exact HO269.out))) (Kd.R_lt (by (with_reducible repeat (first | apply Kd.R_alloc | apply Kd.R_drewN | apply Kd.R_drew)); exact HO271.out))) (below_size (by repeat (first | (with_reducible first | exact HB.out | apply below_alloc | apply pw_below_drewN | apply below_drew1) | exact HB.out)))); have n6_ := Aside0.mk (below_step (by repeat (first | (with_reducible first | exact HB.out | apply below_alloc | apply pw_below_drewN | apply below_drew1) | exact HB.out)) hb); clear HO257; clear HO261; clear HO265; clear HO269; clear HO271; clear HB; have HO257 := n0_; have HO261 := n1_; have HO265 := n2_; have HO269 := n3_; have HO271 := n4_; have HO275 := n5_; have HB := n6_; clear n0_ n1_ n2_ n3_ n4_ n5_ n6_; (try clear hb); (try clear hb2); (try clear hk); (try clear hi); (try clear ho0)) | ((with_reducible refine gate_callee (f := 12) rfl ?_); refine goesL_ (some 58) rfl rfl Try.func12 (by kernel_rfl) rfl #[.slice Ao16 t266.length co16, .slice Ao17 t267.length co17] rfl (by (try simp only [List.map_toArray, List.map_cons, List.map_nil]); first | done | rfl | (simp only [List.length_drop, List.length_take]; rfl)) ?_; (with_reducible refine (spec_JoinScores.calls k _ _ t266 _ _ t267 t276 t277 _ ?side1 ?side2 ?side3 ?side4 A9.out).mono ?_); (case side1 => repeat (first | exact (Kd.R_reads' HO269.out).2.2 | (with_reducible refine Kd.C_alloc ?_ _) | (with_reducible refine Kd.C_drewN ?_ _) | (with_reducible refine Kd.C_drew ?_))); (case side2 => exact (Kd.R_reads' HO269.out).2.1); (case side3 => repeat (first | exact (Kd.R_reads' HO271.out).2.2 | (with_reducible refine Kd.C_alloc ?_ _) | (with_reducible refine Kd.C_drewN ?_ _) | (with_reducible refine Kd.C_drew ?_))); (case side4 => exact (Kd.R_reads' HO271.out).2.1); rintro e w19 ⟨v278, rfl, ho0, hb⟩; refine ⟨_, rfl, ?_⟩; have n0_ := Aside0.mk (Kd.R_elder' (by (with_reducible repeat (first | apply Kd.R_alloc | apply Kd.R_drewN | apply Kd.R_drew)); exact HO257.out) (Kd.R_base ho0) hb); have n1_ := Aside0.mk (Kd.R_elder' (by (with_reducible repeat (first | apply Kd.R_alloc | apply Kd.R_drewN | apply Kd.R_drew)); exact HO261.out) (Kd.R_base ho0) hb); have n2_ := Aside0.mk (Kd.R_elder' (by (with_reducible repeat (first | apply Kd.R_alloc | apply Kd.R_drewN | apply Kd.R_drew)); exact HO265.out) (Kd.R_base ho0) hb); have n3_ := Aside0.mk (Kd.R_elder' (by (with_reducible repeat (first | apply Kd.R_alloc | apply Kd.R_drewN | apply Kd.R_drew)); exact HO269.out) (Kd.R_base ho0) hb); have n4_ := Aside0.mk (Kd.R_elder' (by (with_reducible repeat (first | apply Kd.R_alloc | apply Kd.R_drewN | apply Kd.R_drew)); exact HO271.out) (Kd.R_base ho0) hb); have n5_ := Aside0.mk (Kd.R_elder' (by (with_reducible repeat (first | apply Kd.R_alloc | apply Kd.R_drewN | apply Kd.R_drew)); exact HO275.out) (Kd.R_base ho0) hb); have n6_ := Aside0.mk (Kd.R_lower (Kd.R_new' (Kd.R_new' (Kd.R_new' (Kd.R_new' (Kd.R_new' (Kd.R_new' ho0 (Kd.R_lt (by (with_reducible repeat (first | apply Kd.R_alloc | apply Kd.R_drewN | apply Kd.R_drew)); exact HO257.out))) (Kd.R_lt (by (with_reducible repeat (first | apply Kd.R_alloc | apply Kd.R_drewN | apply Kd.R_drew)); exact HO261.out))) (Kd.R_lt (by (with_reducible repeat (first | apply Kd.R_alloc | apply Kd.R_drewN | apply Kd.R_drew)); exact HO265.out))) (Kd.R_lt (by (with_reducible repeat (first | apply Kd.R_alloc | apply Kd.R_drewN | apply Kd.R_drew)); exact HO269.out))) (Kd.R_lt (by (with_reducible repeat (first | apply Kd.R_alloc | apply Kd.R_drewN | apply Kd.R_drew)); exact HO271.out))) (Kd.R_lt (by (with_reducible repeat (first | apply Kd.R_alloc | apply Kd.R_drewN | apply Kd.R_drew)); exact HO275.out))) (below_size (by repeat (first | (with_reducible first | exact HB.out | apply below_alloc | apply pw_below_drewN | apply below_drew1) | exact HB.out)))); have n7_ := Aside0.mk (below_step (by repeat (first | (with_reducible first | exact HB.out | apply below_alloc | apply pw_below_drewN | apply below_drew1) | exact HB.out)) hb); clear HO257; clear HO261; clear HO265; clear HO269; clear HO271; clear HO275; clear HB; have HO257 := n0_; have HO261 := n1_; have HO265 := n2_; have HO269 := n3_; have HO271 := n4_; have HO275 := n5_; have HO279 := n6_; have HB := n7_; clear n0_ n1_ n2_ n3_ n4_ n5_ n6_ n7_; (try clear hb); (try clear hb2); (try clear hk); (try clear hi); (try clear ho0)))
  (try simp only [Act.put, List.setIfInBounds_toArray, List.set_cons_zero, List.set_cons_succ])
  go_cut [80] (fun v80 wc => ∃ (kq : Nat) (x80_9 : Bool), v80 = .bool x80_9 ∧ Aside0 (laws_FnStretched.j0 kq t254 t255 t258 t259 t266 t267 t272 t273 x80_9 = some r) ∧ Aside0 (kq ≤ k) ∧ Aside0 (Kd.R k56 56 wc w.heap.size (fun k_ => some k_ ≠ (v260 : Value).ownBlock ∧ some k_ ≠ ((.slice Ao16 t266.length co16) : Value).ownBlock ∧ some k_ ≠ ((.slice Ao17 t267.length co17) : Value).ownBlock ∧ some k_ ≠ (v274 : Value).ownBlock) (.slice Ao12 t254.length co12) t254) ∧ Aside0 (Kd.R k56 56 wc w.heap.size (fun k_ => some k_ ≠ ((.slice Ao12 t254.length co12) : Value).ownBlock ∧ some k_ ≠ ((.slice Ao16 t266.length co16) : Value).ownBlock ∧ some k_ ≠ ((.slice Ao17 t267.length co17) : Value).ownBlock ∧ some k_ ≠ (v274 : Value).ownBlock) v260 t258) ∧ Aside0 (Kd.R k56 56 wc w.heap.size (fun k_ => some k_ ≠ ((.slice Ao12 t254.length co12) : Value).ownBlock ∧ some k_ ≠ (v260 : Value).ownBlock ∧ some k_ ≠ ((.slice Ao17 t267.length co17) : Value).ownBlock ∧ some k_ ≠ (v274 : Value).ownBlock) (.slice Ao16 t266.length co16) t266) ∧ Aside0 (Kd.R k56 56 wc w.heap.size (fun k_ => some k_ ≠ ((.slice Ao12 t254.length co12) : Value).ownBlock ∧ some k_ ≠ (v260 : Value).ownBlock ∧ some k_ ≠ ((.slice Ao16 t266.length co16) : Value).ownBlock ∧ some k_ ≠ (v274 : Value).ownBlock) (.slice Ao17 t267.length co17) t267) ∧ Aside0 (Kd.R k56 56 wc w.heap.size (fun k_ => some k_ ≠ ((.slice Ao12 t254.length co12) : Value).ownBlock ∧ some k_ ≠ (v260 : Value).ownBlock ∧ some k_ ≠ ((.slice Ao16 t266.length co16) : Value).ownBlock ∧ some k_ ≠ ((.slice Ao17 t267.length co17) : Value).ownBlock) v274 t272) ∧ Aside0 (Below w.heap.size w wc))
  case first =>
   have H := HC10.out
   clear HC10
   by_cases c20 : t259 = t263
   ·rw [if_pos c20] at H
    have c20b0 : (t259 == t263) = true := beq_iff_eq.mpr c20
    have c20b1 : (t259 != t263) = false := bne_eq_false_iff_eq.mpr c20
    clear c20
    (first | rw [c20b0] | (simp only [i64_w, i32_w]; rw [c20b0]) | skip)
    replace H := Option.bind_eq_some_iff.mp H
    obtain ⟨t280, A210, H⟩ := H
    replace H : (if t280 = true then (if t273 = t277 then ((laws_likeBars.f k t272 t276).bind fun t281 => (laws_FnStretched.j0 k t254 t255 t258 t259 t266 t267 t272 t273 (!t281))) else (laws_FnStretched.j0 k t254 t255 t258 t259 t266 t267 t272 t273 true)) else (laws_FnStretched.j0 k t254 t255 t258 t259 t266 t267 t272 t273 true)) = some r := H
    have A21 := Aside0.mk A210
    clear A210
    by_cases c22 : t280 = true
    ·subst c22
     have H1 : (if t273 = t277 then ((laws_likeBars.f k t272 t276).bind fun t281 => (laws_FnStretched.j0 k t254 t255 t258 t259 t266 t267 t272 t273 (!t281))) else (laws_FnStretched.j0 k t254 t255 t258 t259 t266 t267 t272 t273 true)) = some r := by rw [if_pos rfl] at H; exact H
     clear H
     have H := H1
     clear H1
     by_cases c23 : t273 = t277
     ·rw [if_pos c23] at H
      have c23b0 : (t273 == t277) = true := beq_iff_eq.mpr c23
      have c23b1 : (t273 != t277) = false := bne_eq_false_iff_eq.mpr c23
      clear c23
      replace H := Option.bind_eq_some_iff.mp H
      obtain ⟨t281, A240, H⟩ := H
      replace H : (laws_FnStretched.j0 k t254 t255 t258 t259 t266 t267 t272 t273 (!t281)) = some r := H
      have A24 := Aside0.mk A240
      clear A240
      have H' := Aside0.mk H
      clear H
      obtain ⟨Ao25, co25, eo25⟩ := Kd.R_slice HO261.out
      subst eo25
      obtain ⟨Ao26, co26, eo26⟩ := Kd.R_slice HO265.out
      subst eo26
      go_wp2_with (first | (go_at_call 13; (with_reducible refine (laws_likeBars.calls k _ _ t258 _ _ t262 true _ ?side1 ?side2 ?side3 ?side4 A21.out).mono ?_); (case side1 => repeat (first | exact (Kd.R_reads' HO261.out).2.2 | (with_reducible refine Kd.C_alloc ?_ _) | (with_reducible refine Kd.C_drewN ?_ _) | (with_reducible refine Kd.C_drew ?_))); (case side2 => exact (Kd.R_reads' HO261.out).2.1); (case side3 => repeat (first | exact (Kd.R_reads' HO265.out).2.2 | (with_reducible refine Kd.C_alloc ?_ _) | (with_reducible refine Kd.C_drewN ?_ _) | (with_reducible refine Kd.C_drew ?_))); (case side4 => exact (Kd.R_reads' HO265.out).2.1); rintro e w' ⟨rfl, ⟨nd, rfl⟩⟩; obtain ⟨Ao27, co27, eo27⟩ := Kd.R_slice HO275.out; subst eo27; obtain ⟨Ao28, co28, eo28⟩ := Kd.R_slice HO279.out; subst eo28) | (go_at_call 13; (with_reducible refine (laws_likeBars.calls k _ _ t272 _ _ t276 t281 _ ?side1 ?side2 ?side3 ?side4 A24.out).mono ?_); (case side1 => repeat (first | exact (Kd.R_reads' HO275.out).2.2 | (with_reducible refine Kd.C_alloc ?_ _) | (with_reducible refine Kd.C_drewN ?_ _) | (with_reducible refine Kd.C_drew ?_))); (case side2 => exact (Kd.R_reads' HO275.out).2.1); (case side3 => repeat (first | exact (Kd.R_reads' HO279.out).2.2 | (with_reducible refine Kd.C_alloc ?_ _) | (with_reducible refine Kd.C_drewN ?_ _) | (with_reducible refine Kd.C_drew ?_))); (case side4 => exact (Kd.R_reads' HO279.out).2.1); rintro e w' ⟨rfl, ⟨nd, rfl⟩⟩))
      go_meet
      case rel => exact ⟨_, (!t281), (by first | rfl | (simp; done) | (simp [*]; done)), H', ⟨by first | omega | exact Nat.le_refl _⟩, ⟨by (with_reducible repeat (first | apply Kd.R_alloc | apply Kd.R_drewN | apply Kd.R_drew)); exact Kd.R_mono HO257.out (fun _ hk => ⟨hk.1.1.1.1.1.2, ⟨hk.1.1.1.2, ⟨hk.1.1.2, hk.1.2⟩⟩⟩)⟩, ⟨by (with_reducible repeat (first | apply Kd.R_alloc | apply Kd.R_drewN | apply Kd.R_drew)); exact Kd.R_mono HO261.out (fun _ hk => ⟨hk.1.1.1.1.1.2, ⟨hk.1.1.1.2, ⟨hk.1.1.2, hk.1.2⟩⟩⟩)⟩, ⟨by (with_reducible repeat (first | apply Kd.R_alloc | apply Kd.R_drewN | apply Kd.R_drew)); exact Kd.R_mono HO269.out (fun _ hk => ⟨hk.1.1.1.1.2, ⟨hk.1.1.1.2, ⟨hk.1.1.1.1.1, hk.1.2⟩⟩⟩)⟩, ⟨by (with_reducible repeat (first | apply Kd.R_alloc | apply Kd.R_drewN | apply Kd.R_drew)); exact Kd.R_mono HO271.out (fun _ hk => ⟨hk.1.1.1.1.2, ⟨hk.1.1.1.2, ⟨hk.1.1.1.1.1, hk.1.2⟩⟩⟩)⟩, ⟨by (with_reducible repeat (first | apply Kd.R_alloc | apply Kd.R_drewN | apply Kd.R_drew)); exact Kd.R_mono HO275.out (fun _ hk => ⟨hk.1.1.1.1.1.2, ⟨hk.1.1.1.1.2, ⟨hk.1.1.2, hk.1.2⟩⟩⟩)⟩, ⟨by repeat (first | (with_reducible first | exact HB.out | apply below_alloc | apply pw_below_drewN | apply below_drew1) | exact HB.out)⟩⟩
     ·rw [if_neg c23] at H
      have c23b0 : (t273 == t277) = false := beq_eq_false_iff_ne.mpr c23
      have c23b1 : (t273 != t277) = true := bne_iff_ne.mpr c23
      exact absurd (H.trans (congrArg some HR_.out)) (laws_FnStretched.j0_true _ _ _ _ _ _ _ _ _)
    ·replace c22 := Bool.eq_false_iff.mpr c22
     subst c22
     have H1 : (laws_FnStretched.j0 k t254 t255 t258 t259 t266 t267 t272 t273 true) = some r := by rw [if_neg (show ¬ (false = true) by decide)] at H; exact H
     clear H
     have H := H1
     clear H1
     exact absurd (H.trans (congrArg some HR_.out)) (laws_FnStretched.j0_true _ _ _ _ _ _ _ _ _)
   ·rw [if_neg c20] at H
    have c20b0 : (t259 == t263) = false := beq_eq_false_iff_ne.mpr c20
    have c20b1 : (t259 != t263) = true := bne_iff_ne.mpr c20
    (first | rw [c20b0] | (simp only [i64_w, i32_w]; rw [c20b0]) | skip)
    exact absurd (H.trans (congrArg some HR_.out)) (laws_FnStretched.j0_true _ _ _ _ _ _ _ _ _)
  case rest =>
   clear HC10
   try clear c1
   try clear c2
   try clear p2
   try clear c3
   try clear c6
   try clear c7
   try clear c8
   try clear c9
   try clear c10
   try clear c11
   try clear c12
   try clear c20
   try clear c20b0
   try clear c20b1
   try clear c22
   try clear c23
   try clear c23b0
   try clear c23b1
   obtain ⟨kq, x80_9, rfl, HA, HJ9, HO_3, HO_5, HO_9, HO_10, HO_11, HB⟩ := hcut
   cases kq with
   | zero => exact absurd HA.out (by simp [laws_FnStretched.j0])
   | succ kj9 =>
    have H := HA.out
    clear HA
    simp only [laws_FnStretched.j0] at H
    by_cases c33 : x80_9 = true
    ·subst c33
     have H1 : (some false) = some r := by rw [if_pos rfl] at H; exact H
     clear H
     have H := H1
     clear H1
     exact absurd ((Option.some.inj H).trans HR_.out) (by decide)
    ·replace c33 := Bool.eq_false_iff.mpr c33
     subst c33
     have H1 : (if t273 = 0 then ((impl_ScoreEnd.f kj9 t266).bind fun bt282 => ((impl_ScoreEnd.f kj9 t267).bind fun bt284 => ((impl_ScoreEnd.f kj9 t272).bind fun bt286 => (if bt282.2 = 0 then (if bt284.2 = 0 then (if bt286.2 = 0 then (if (wrap64 (bt282.1 + bt284.1)) = bt286.1 then (laws_FnStretched.j1 kj9 t254 t255 t258 t259) else (some false)) else (some false)) else (some false)) else (some false))))) else (laws_FnStretched.j1 kj9 t254 t255 t258 t259)) = some r := by rw [if_neg (show ¬ (false = true) by decide)] at H; exact H
     clear H
     have H := H1
     clear H1
     have HC34 := Aside0.mk H
     clear H
     go_upto_if 82 with (fail)
     go_cut [] (fun wc => ∃ (kq : Nat), Aside0 (laws_FnStretched.j1 kq t254 t255 t258 t259 = some r) ∧ Aside0 (kq ≤ kj9) ∧ Aside0 (Kd.R k56 56 wc w.heap.size (fun k_ => some k_ ≠ (v260 : Value).ownBlock) (.slice Ao12 t254.length co12) t254) ∧ Aside0 (Kd.R k56 56 wc w.heap.size (fun k_ => some k_ ≠ ((.slice Ao12 t254.length co12) : Value).ownBlock) v260 t258) ∧ Aside0 (Below w.heap.size w wc))
     case first =>
      have H := HC34.out
      clear HC34
      by_cases c35 : t273 = 0
      ·rw [if_pos c35] at H
       have c35b0 : (t273 == 0) = true := beq_iff_eq.mpr c35
       have c35b1 : (t273 != 0) = false := bne_eq_false_iff_eq.mpr c35
       clear c35
       (first | rw [c35b0] | (simp only [i64_w, i32_w]; rw [c35b0]) | skip)
       replace H := Option.bind_eq_some_iff.mp H
       obtain ⟨⟨t282, t283⟩, A360, H⟩ := H
       replace H : ((impl_ScoreEnd.f kj9 t267).bind fun bt284 => ((impl_ScoreEnd.f kj9 t272).bind fun bt286 => (if t283 = 0 then (if bt284.2 = 0 then (if bt286.2 = 0 then (if (wrap64 (t282 + bt284.1)) = bt286.1 then (laws_FnStretched.j1 kj9 t254 t255 t258 t259) else (some false)) else (some false)) else (some false)) else (some false)))) = some r := H
       have A36 := Aside0.mk A360
       clear A360
       replace H := Option.bind_eq_some_iff.mp H
       obtain ⟨⟨t284, t285⟩, A370, H⟩ := H
       replace H : ((impl_ScoreEnd.f kj9 t272).bind fun bt286 => (if t283 = 0 then (if t285 = 0 then (if bt286.2 = 0 then (if (wrap64 (t282 + t284)) = bt286.1 then (laws_FnStretched.j1 kj9 t254 t255 t258 t259) else (some false)) else (some false)) else (some false)) else (some false))) = some r := H
       have A37 := Aside0.mk A370
       clear A370
       replace H := Option.bind_eq_some_iff.mp H
       obtain ⟨⟨t286, t287⟩, A380, H⟩ := H
       replace H : (if t283 = 0 then (if t285 = 0 then (if t287 = 0 then (if (wrap64 (t282 + t284)) = t286 then (laws_FnStretched.j1 kj9 t254 t255 t258 t259) else (some false)) else (some false)) else (some false)) else (some false)) = some r := H
       have A38 := Aside0.mk A380
       clear A380
       by_cases c39 : t283 = 0
       ·rw [if_pos c39] at H
        have c39b0 : (t283 == 0) = true := beq_iff_eq.mpr c39
        have c39b1 : (t283 != 0) = false := bne_eq_false_iff_eq.mpr c39
        clear c39
        by_cases c40 : t285 = 0
        ·rw [if_pos c40] at H
         have c40b0 : (t285 == 0) = true := beq_iff_eq.mpr c40
         have c40b1 : (t285 != 0) = false := bne_eq_false_iff_eq.mpr c40
         clear c40
         by_cases c41 : t287 = 0
         ·rw [if_pos c41] at H
          have c41b0 : (t287 == 0) = true := beq_iff_eq.mpr c41
          have c41b1 : (t287 != 0) = false := bne_eq_false_iff_eq.mpr c41
          clear c41
          by_cases c42 : (wrap64 (t282 + t284)) = t286
          ·rw [if_pos c42] at H
           have c42b0 : ((wrap64 (t282 + t284)) == t286) = true := beq_iff_eq.mpr c42
           have c42b1 : ((wrap64 (t282 + t284)) != t286) = false := bne_eq_false_iff_eq.mpr c42
           clear c42
           have H' := Aside0.mk H
           clear H
           go_wp2_with (first | ((with_reducible refine gate_callee (f := 14) rfl ?_); refine goesL_ (some 85) rfl rfl Try.func14 (by kernel_rfl) rfl #[.slice Ao16 t266.length co16] rfl (by (try simp only [List.map_toArray, List.map_cons, List.map_nil]); first | done | rfl | (simp only [List.length_drop, List.length_take]; rfl)) ?_; (with_reducible refine (impl_ScoreEnd.calls kj9 _ _ t266 t282 t283 _ ?side1 ?side2 A36.out).mono ?_); (case side1 => repeat (first | exact (Kd.R_reads' HO_9.out).2.2 | (with_reducible refine Kd.C_alloc ?_ _) | (with_reducible refine Kd.C_drewN ?_ _) | (with_reducible refine Kd.C_drew ?_))); (case side2 => exact (Kd.R_reads' HO_9.out).2.1); rintro e w43 ⟨rfl, hb⟩; refine ⟨_, rfl, ?_⟩; have n0_ := Aside0.mk (Kd.R_below (by (with_reducible repeat (first | apply Kd.R_alloc | apply Kd.R_drewN | apply Kd.R_drew)); exact HO_3.out) hb); have n1_ := Aside0.mk (Kd.R_below (by (with_reducible repeat (first | apply Kd.R_alloc | apply Kd.R_drewN | apply Kd.R_drew)); exact HO_5.out) hb); have n2_ := Aside0.mk (Kd.R_below (by (with_reducible repeat (first | apply Kd.R_alloc | apply Kd.R_drewN | apply Kd.R_drew)); exact HO_9.out) hb); have n3_ := Aside0.mk (Kd.R_below (by (with_reducible repeat (first | apply Kd.R_alloc | apply Kd.R_drewN | apply Kd.R_drew)); exact HO_10.out) hb); have n4_ := Aside0.mk (Kd.R_below (by (with_reducible repeat (first | apply Kd.R_alloc | apply Kd.R_drewN | apply Kd.R_drew)); exact HO_11.out) hb); have n5_ := Aside0.mk (below_step (by repeat (first | (with_reducible first | exact HB.out | apply below_alloc | apply pw_below_drewN | apply below_drew1) | exact HB.out)) hb); clear HO_3; clear HO_5; clear HO_9; clear HO_10; clear HO_11; clear HB; have HO_3 := n0_; have HO_5 := n1_; have HO_9 := n2_; have HO_10 := n3_; have HO_11 := n4_; have HB := n5_; clear n0_ n1_ n2_ n3_ n4_ n5_; (try clear hb); (try clear hb2); (try clear hk); (try clear hi)) | ((with_reducible refine gate_callee (f := 14) rfl ?_); refine goesL_ (some 90) rfl rfl Try.func14 (by kernel_rfl) rfl #[.slice Ao17 t267.length co17] rfl (by (try simp only [List.map_toArray, List.map_cons, List.map_nil]); first | done | rfl | (simp only [List.length_drop, List.length_take]; rfl)) ?_; (with_reducible refine (impl_ScoreEnd.calls kj9 _ _ t267 t284 t285 _ ?side1 ?side2 A37.out).mono ?_); (case side1 => repeat (first | exact (Kd.R_reads' HO_10.out).2.2 | (with_reducible refine Kd.C_alloc ?_ _) | (with_reducible refine Kd.C_drewN ?_ _) | (with_reducible refine Kd.C_drew ?_))); (case side2 => exact (Kd.R_reads' HO_10.out).2.1); rintro e w44 ⟨rfl, hb⟩; refine ⟨_, rfl, ?_⟩; have n0_ := Aside0.mk (Kd.R_below (by (with_reducible repeat (first | apply Kd.R_alloc | apply Kd.R_drewN | apply Kd.R_drew)); exact HO_3.out) hb); have n1_ := Aside0.mk (Kd.R_below (by (with_reducible repeat (first | apply Kd.R_alloc | apply Kd.R_drewN | apply Kd.R_drew)); exact HO_5.out) hb); have n2_ := Aside0.mk (Kd.R_below (by (with_reducible repeat (first | apply Kd.R_alloc | apply Kd.R_drewN | apply Kd.R_drew)); exact HO_9.out) hb); have n3_ := Aside0.mk (Kd.R_below (by (with_reducible repeat (first | apply Kd.R_alloc | apply Kd.R_drewN | apply Kd.R_drew)); exact HO_10.out) hb); have n4_ := Aside0.mk (Kd.R_below (by (with_reducible repeat (first | apply Kd.R_alloc | apply Kd.R_drewN | apply Kd.R_drew)); exact HO_11.out) hb); have n5_ := Aside0.mk (below_step (by repeat (first | (with_reducible first | exact HB.out | apply below_alloc | apply pw_below_drewN | apply below_drew1) | exact HB.out)) hb); clear HO_3; clear HO_5; clear HO_9; clear HO_10; clear HO_11; clear HB; have HO_3 := n0_; have HO_5 := n1_; have HO_9 := n2_; have HO_10 := n3_; have HO_11 := n4_; have HB := n5_; clear n0_ n1_ n2_ n3_ n4_ n5_; (try clear hb); (try clear hb2); (try clear hk); (try clear hi); obtain ⟨Ao45, co45, eo45⟩ := Kd.R_slice HO_11.out; subst eo45) | ((with_reducible refine gate_callee (f := 14) rfl ?_); refine goesL_ (some 95) rfl rfl Try.func14 (by kernel_rfl) rfl #[.slice Ao45 t272.length co45] rfl (by (try simp only [List.map_toArray, List.map_cons, List.map_nil]); first | done | rfl | (simp only [List.length_drop, List.length_take]; rfl)) ?_; (with_reducible refine (impl_ScoreEnd.calls kj9 _ _ t272 t286 t287 _ ?side1 ?side2 A38.out).mono ?_); (case side1 => repeat (first | exact (Kd.R_reads' HO_11.out).2.2 | (with_reducible refine Kd.C_alloc ?_ _) | (with_reducible refine Kd.C_drewN ?_ _) | (with_reducible refine Kd.C_drew ?_))); (case side2 => exact (Kd.R_reads' HO_11.out).2.1); rintro e w46 ⟨rfl, hb⟩; refine ⟨_, rfl, ?_⟩; have n0_ := Aside0.mk (Kd.R_below (by (with_reducible repeat (first | apply Kd.R_alloc | apply Kd.R_drewN | apply Kd.R_drew)); exact HO_3.out) hb); have n1_ := Aside0.mk (Kd.R_below (by (with_reducible repeat (first | apply Kd.R_alloc | apply Kd.R_drewN | apply Kd.R_drew)); exact HO_5.out) hb); have n2_ := Aside0.mk (Kd.R_below (by (with_reducible repeat (first | apply Kd.R_alloc | apply Kd.R_drewN | apply Kd.R_drew)); exact HO_9.out) hb); have n3_ := Aside0.mk (Kd.R_below (by (with_reducible repeat (first | apply Kd.R_alloc | apply Kd.R_drewN | apply Kd.R_drew)); exact HO_10.out) hb); have n4_ := Aside0.mk (Kd.R_below (by (with_reducible repeat (first | apply Kd.R_alloc | apply Kd.R_drewN | apply Kd.R_drew)); exact HO_11.out) hb); have n5_ := Aside0.mk (below_step (by repeat (first | (with_reducible first | exact HB.out | apply below_alloc | apply pw_below_drewN | apply below_drew1) | exact HB.out)) hb); clear HO_3; clear HO_5; clear HO_9; clear HO_10; clear HO_11; clear HB; have HO_3 := n0_; have HO_5 := n1_; have HO_9 := n2_; have HO_10 := n3_; have HO_11 := n4_; have HB := n5_; clear n0_ n1_ n2_ n3_ n4_ n5_; (try clear hb); (try clear hb2); (try clear hk); (try clear hi)))
           go_meet
           case rel => exact ⟨_, H', ⟨by have := HJ9.out; first | omega | exact Nat.le_refl _⟩, ⟨by (with_reducible repeat (first | apply Kd.R_alloc | apply Kd.R_drewN | apply Kd.R_drew)); exact Kd.R_mono HO_3.out (fun _ hk => hk.1)⟩, ⟨by (with_reducible repeat (first | apply Kd.R_alloc | apply Kd.R_drewN | apply Kd.R_drew)); exact Kd.R_mono HO_5.out (fun _ hk => hk.1)⟩, ⟨by repeat (first | (with_reducible first | exact HB.out | apply below_alloc | apply pw_below_drewN | apply below_drew1) | exact HB.out)⟩⟩
          ·rw [if_neg c42] at H
           have c42b0 : ((wrap64 (t282 + t284)) == t286) = false := beq_eq_false_iff_ne.mpr c42
           have c42b1 : ((wrap64 (t282 + t284)) != t286) = true := bne_iff_ne.mpr c42
           exact absurd ((Option.some.inj H).trans HR_.out) (by decide)
         ·rw [if_neg c41] at H
          have c41b0 : (t287 == 0) = false := beq_eq_false_iff_ne.mpr c41
          have c41b1 : (t287 != 0) = true := bne_iff_ne.mpr c41
          exact absurd ((Option.some.inj H).trans HR_.out) (by decide)
        ·rw [if_neg c40] at H
         have c40b0 : (t285 == 0) = false := beq_eq_false_iff_ne.mpr c40
         have c40b1 : (t285 != 0) = true := bne_iff_ne.mpr c40
         exact absurd ((Option.some.inj H).trans HR_.out) (by decide)
       ·rw [if_neg c39] at H
        have c39b0 : (t283 == 0) = false := beq_eq_false_iff_ne.mpr c39
        have c39b1 : (t283 != 0) = true := bne_iff_ne.mpr c39
        exact absurd ((Option.some.inj H).trans HR_.out) (by decide)
      ·rw [if_neg c35] at H
       have c35b0 : (t273 == 0) = false := beq_eq_false_iff_ne.mpr c35
       have c35b1 : (t273 != 0) = true := bne_iff_ne.mpr c35
       (first | rw [c35b0] | (simp only [i64_w, i32_w]; rw [c35b0]) | skip)
       have H' := Aside0.mk H
       clear H
       go_wp2
       go_meet
       case rel => exact ⟨_, H', ⟨by have := HJ9.out; first | omega | exact Nat.le_refl _⟩, ⟨by (with_reducible repeat (first | apply Kd.R_alloc | apply Kd.R_drewN | apply Kd.R_drew)); exact Kd.R_mono HO_3.out (fun _ hk => hk.1)⟩, ⟨by (with_reducible repeat (first | apply Kd.R_alloc | apply Kd.R_drewN | apply Kd.R_drew)); exact Kd.R_mono HO_5.out (fun _ hk => hk.1)⟩, ⟨by repeat (first | (with_reducible first | exact HB.out | apply below_alloc | apply pw_below_drewN | apply below_drew1) | exact HB.out)⟩⟩
     case rest =>
      clear HC34
      try clear c1
      try clear c2
      try clear p2
      try clear c3
      try clear c4
      try clear c6
      try clear p6
      try clear c7
      try clear c8
      try clear c9
      try clear c10
      try clear c11
      try clear c12
      try clear c14
      try clear c20
      try clear c20b0
      try clear c20b1
      try clear c22
      try clear c23
      try clear c23b0
      try clear c23b1
      try clear c33
      try clear c35
      try clear c35b0
      try clear c35b1
      try clear c39
      try clear c39b0
      try clear c39b1
      try clear c40
      try clear c40b0
      try clear c40b1
      try clear c41
      try clear c41b0
      try clear c41b1
      try clear c42
      try clear c42b0
      try clear c42b1
      try clear p2
      obtain ⟨kq, HA, HJ33, HO_3, HO_5, HB⟩ := hcut
      cases kq with
      | zero => exact absurd HA.out (by simp [laws_FnStretched.j1])
      | succ kj33 =>
       have H := HA.out
       clear HA
       simp only [laws_FnStretched.j1] at H
       by_cases c63 : t259 = 0
       ·rw [if_pos c63] at H
        have c63b0 : (t259 == 0) = true := beq_iff_eq.mpr c63
        have c63b1 : (t259 != 0) = false := bne_eq_false_iff_eq.mpr c63
        clear c63
        replace H := Option.bind_eq_some_iff.mp H
        obtain ⟨⟨t288, t289⟩, A640, H⟩ := H
        replace H : ((impl_ScoreEnd.f kj33 t258).bind fun bt290 => (if t289 = 0 then (if bt290.2 = 0 then (if (t258.length : Int) = (t254.length : Int) then (if t255 = 100 then (some ((wrap64 (bt290.1 * 100)) == (wrap64 (t288 * t255)))) else (if t255 = 200 then (some ((wrap64 (bt290.1 * 100)) == (wrap64 (t288 * t255)))) else (some true))) else (some false)) else (some false)) else (some false))) = some r := H
        have A64 := Aside0.mk A640
        clear A640
        replace H := Option.bind_eq_some_iff.mp H
        obtain ⟨⟨t290, t291⟩, A650, H⟩ := H
        replace H : (if t289 = 0 then (if t291 = 0 then (if (t258.length : Int) = (t254.length : Int) then (if t255 = 100 then (some ((wrap64 (t290 * 100)) == (wrap64 (t288 * t255)))) else (if t255 = 200 then (some ((wrap64 (t290 * 100)) == (wrap64 (t288 * t255)))) else (some true))) else (some false)) else (some false)) else (some false)) = some r := H
        have A65 := Aside0.mk A650
        clear A650
        by_cases c66 : t289 = 0
        ·rw [if_pos c66] at H
         have c66b0 : (t289 == 0) = true := beq_iff_eq.mpr c66
         have c66b1 : (t289 != 0) = false := bne_eq_false_iff_eq.mpr c66
         clear c66
         by_cases c67 : t291 = 0
         ·rw [if_pos c67] at H
          have c67b0 : (t291 == 0) = true := beq_iff_eq.mpr c67
          have c67b1 : (t291 != 0) = false := bne_eq_false_iff_eq.mpr c67
          clear c67
          by_cases c68 : (t258.length : Int) = (t254.length : Int)
          ·rw [if_pos c68] at H
           have c68b0 : ((t258.length : Int) == (t254.length : Int)) = true := beq_iff_eq.mpr c68
           have c68b1 : ((t258.length : Int) != (t254.length : Int)) = false := bne_eq_false_iff_eq.mpr c68
           have c68b2 : (t258.length == t254.length) = true := by first | simpa using c68 | (simp at c68 ⊢; omega)
           clear c68
           by_cases c69 : t255 = 100
           ·rw [if_pos c69] at H
            have c69b0 : (t255 == 100) = true := beq_iff_eq.mpr c69
            have c69b1 : (t255 != 100) = false := bne_eq_false_iff_eq.mpr c69
            clear c69
            obtain rfl := Option.some.inj H
            go_wp2_with (first | ((with_reducible refine gate_callee (f := 14) rfl ?_); refine goesL_ (some 119) rfl rfl Try.func14 (by kernel_rfl) rfl #[.slice Ao12 t254.length co12] rfl (by (try simp only [List.map_toArray, List.map_cons, List.map_nil]); first | done | rfl | (simp only [List.length_drop, List.length_take]; rfl)) ?_; (with_reducible refine (impl_ScoreEnd.calls kj33 _ _ t254 t288 t289 _ ?side1 ?side2 A64.out).mono ?_); (case side1 => repeat (first | exact (Kd.R_reads' HO_3.out).2.2 | (with_reducible refine Kd.C_alloc ?_ _) | (with_reducible refine Kd.C_drewN ?_ _) | (with_reducible refine Kd.C_drew ?_))); (case side2 => exact (Kd.R_reads' HO_3.out).2.1); rintro e w70 ⟨rfl, hb⟩; refine ⟨_, rfl, ?_⟩; have n0_ := Aside0.mk (Kd.R_below (by (with_reducible repeat (first | apply Kd.R_alloc | apply Kd.R_drewN | apply Kd.R_drew)); exact HO_3.out) hb); have n1_ := Aside0.mk (Kd.R_below (by (with_reducible repeat (first | apply Kd.R_alloc | apply Kd.R_drewN | apply Kd.R_drew)); exact HO_5.out) hb); have n2_ := Aside0.mk (below_step (by repeat (first | (with_reducible first | exact HB.out | apply below_alloc | apply pw_below_drewN | apply below_drew1) | exact HB.out)) hb); clear HO_3; clear HO_5; clear HB; have HO_3 := n0_; have HO_5 := n1_; have HB := n2_; clear n0_ n1_ n2_; (try clear hb); (try clear hb2); (try clear hk); (try clear hi); obtain ⟨Ao71, co71, eo71⟩ := Kd.R_slice HO_5.out; subst eo71) | ((with_reducible refine gate_callee (f := 14) rfl ?_); refine goesL_ (some 124) rfl rfl Try.func14 (by kernel_rfl) rfl #[.slice Ao71 t258.length co71] rfl (by (try simp only [List.map_toArray, List.map_cons, List.map_nil]); first | done | rfl | (simp only [List.length_drop, List.length_take]; rfl)) ?_; (with_reducible refine (impl_ScoreEnd.calls kj33 _ _ t258 t290 t291 _ ?side1 ?side2 A65.out).mono ?_); (case side1 => repeat (first | exact (Kd.R_reads' HO_5.out).2.2 | (with_reducible refine Kd.C_alloc ?_ _) | (with_reducible refine Kd.C_drewN ?_ _) | (with_reducible refine Kd.C_drew ?_))); (case side2 => exact (Kd.R_reads' HO_5.out).2.1); rintro e w72 ⟨rfl, hb⟩; refine ⟨_, rfl, ?_⟩; have n0_ := Aside0.mk (Kd.R_below (by (with_reducible repeat (first | apply Kd.R_alloc | apply Kd.R_drewN | apply Kd.R_drew)); exact HO_3.out) hb); have n1_ := Aside0.mk (Kd.R_below (by (with_reducible repeat (first | apply Kd.R_alloc | apply Kd.R_drewN | apply Kd.R_drew)); exact HO_5.out) hb); have n2_ := Aside0.mk (below_step (by repeat (first | (with_reducible first | exact HB.out | apply below_alloc | apply pw_below_drewN | apply below_drew1) | exact HB.out)) hb); clear HO_3; clear HO_5; clear HB; have HO_3 := n0_; have HO_5 := n1_; have HB := n2_; clear n0_ n1_ n2_; (try clear hb); (try clear hb2); (try clear hk); (try clear hi)))
            go_ret
            exact ⟨by first | rfl | (simp [errW_none, errW_some] <;> rfl) | (simp [*, errW_none, errW_some] <;> rfl), by repeat (first | (with_reducible first | exact HB.out | apply below_alloc | apply pw_below_drewN | apply below_drew1) | exact HB.out)⟩
           ·rw [if_neg c69] at H
            have c69b0 : (t255 == 100) = false := beq_eq_false_iff_ne.mpr c69
            have c69b1 : (t255 != 100) = true := bne_iff_ne.mpr c69
            by_cases c73 : t255 = 200
            ·rw [if_pos c73] at H
             have c73b0 : (t255 == 200) = true := beq_iff_eq.mpr c73
             have c73b1 : (t255 != 200) = false := bne_eq_false_iff_eq.mpr c73
             clear c73
             obtain rfl := Option.some.inj H
             go_wp2_with (first | ((with_reducible refine gate_callee (f := 14) rfl ?_); refine goesL_ (some 119) rfl rfl Try.func14 (by kernel_rfl) rfl #[.slice Ao12 t254.length co12] rfl (by (try simp only [List.map_toArray, List.map_cons, List.map_nil]); first | done | rfl | (simp only [List.length_drop, List.length_take]; rfl)) ?_; (with_reducible refine (impl_ScoreEnd.calls kj33 _ _ t254 t288 t289 _ ?side1 ?side2 A64.out).mono ?_); (case side1 => repeat (first | exact (Kd.R_reads' HO_3.out).2.2 | (with_reducible refine Kd.C_alloc ?_ _) | (with_reducible refine Kd.C_drewN ?_ _) | (with_reducible refine Kd.C_drew ?_))); (case side2 => exact (Kd.R_reads' HO_3.out).2.1); rintro e w74 ⟨rfl, hb⟩; refine ⟨_, rfl, ?_⟩; have n0_ := Aside0.mk (Kd.R_below (by (with_reducible repeat (first | apply Kd.R_alloc | apply Kd.R_drewN | apply Kd.R_drew)); exact HO_3.out) hb); have n1_ := Aside0.mk (Kd.R_below (by (with_reducible repeat (first | apply Kd.R_alloc | apply Kd.R_drewN | apply Kd.R_drew)); exact HO_5.out) hb); have n2_ := Aside0.mk (below_step (by repeat (first | (with_reducible first | exact HB.out | apply below_alloc | apply pw_below_drewN | apply below_drew1) | exact HB.out)) hb); clear HO_3; clear HO_5; clear HB; have HO_3 := n0_; have HO_5 := n1_; have HB := n2_; clear n0_ n1_ n2_; (try clear hb); (try clear hb2); (try clear hk); (try clear hi); obtain ⟨Ao75, co75, eo75⟩ := Kd.R_slice HO_5.out; subst eo75) | ((with_reducible refine gate_callee (f := 14) rfl ?_); refine goesL_ (some 124) rfl rfl Try.func14 (by kernel_rfl) rfl #[.slice Ao75 t258.length co75] rfl (by (try simp only [List.map_toArray, List.map_cons, List.map_nil]); first | done | rfl | (simp only [List.length_drop, List.length_take]; rfl)) ?_; (with_reducible refine (impl_ScoreEnd.calls kj33 _ _ t258 t290 t291 _ ?side1 ?side2 A65.out).mono ?_); (case side1 => repeat (first | exact (Kd.R_reads' HO_5.out).2.2 | (with_reducible refine Kd.C_alloc ?_ _) | (with_reducible refine Kd.C_drewN ?_ _) | (with_reducible refine Kd.C_drew ?_))); (case side2 => exact (Kd.R_reads' HO_5.out).2.1); rintro e w76 ⟨rfl, hb⟩; refine ⟨_, rfl, ?_⟩; have n0_ := Aside0.mk (Kd.R_below (by (with_reducible repeat (first | apply Kd.R_alloc | apply Kd.R_drewN | apply Kd.R_drew)); exact HO_3.out) hb); have n1_ := Aside0.mk (Kd.R_below (by (with_reducible repeat (first | apply Kd.R_alloc | apply Kd.R_drewN | apply Kd.R_drew)); exact HO_5.out) hb); have n2_ := Aside0.mk (below_step (by repeat (first | (with_reducible first | exact HB.out | apply below_alloc | apply pw_below_drewN | apply below_drew1) | exact HB.out)) hb); clear HO_3; clear HO_5; clear HB; have HO_3 := n0_; have HO_5 := n1_; have HB := n2_; clear n0_ n1_ n2_; (try clear hb); (try clear hb2); (try clear hk); (try clear hi)))
             go_ret
             exact ⟨by first | rfl | (simp [errW_none, errW_some] <;> rfl) | (simp [*, errW_none, errW_some] <;> rfl), by repeat (first | (with_reducible first | exact HB.out | apply below_alloc | apply pw_below_drewN | apply below_drew1) | exact HB.out)⟩
            ·rw [if_neg c73] at H
             have c73b0 : (t255 == 200) = false := beq_eq_false_iff_ne.mpr c73
             have c73b1 : (t255 != 200) = true := bne_iff_ne.mpr c73
             obtain rfl := Option.some.inj H
             go_wp2_with (first | ((with_reducible refine gate_callee (f := 14) rfl ?_); refine goesL_ (some 119) rfl rfl Try.func14 (by kernel_rfl) rfl #[.slice Ao12 t254.length co12] rfl (by (try simp only [List.map_toArray, List.map_cons, List.map_nil]); first | done | rfl | (simp only [List.length_drop, List.length_take]; rfl)) ?_; (with_reducible refine (impl_ScoreEnd.calls kj33 _ _ t254 t288 t289 _ ?side1 ?side2 A64.out).mono ?_); (case side1 => repeat (first | exact (Kd.R_reads' HO_3.out).2.2 | (with_reducible refine Kd.C_alloc ?_ _) | (with_reducible refine Kd.C_drewN ?_ _) | (with_reducible refine Kd.C_drew ?_))); (case side2 => exact (Kd.R_reads' HO_3.out).2.1); rintro e w77 ⟨rfl, hb⟩; refine ⟨_, rfl, ?_⟩; have n0_ := Aside0.mk (Kd.R_below (by (with_reducible repeat (first | apply Kd.R_alloc | apply Kd.R_drewN | apply Kd.R_drew)); exact HO_3.out) hb); have n1_ := Aside0.mk (Kd.R_below (by (with_reducible repeat (first | apply Kd.R_alloc | apply Kd.R_drewN | apply Kd.R_drew)); exact HO_5.out) hb); have n2_ := Aside0.mk (below_step (by repeat (first | (with_reducible first | exact HB.out | apply below_alloc | apply pw_below_drewN | apply below_drew1) | exact HB.out)) hb); clear HO_3; clear HO_5; clear HB; have HO_3 := n0_; have HO_5 := n1_; have HB := n2_; clear n0_ n1_ n2_; (try clear hb); (try clear hb2); (try clear hk); (try clear hi); obtain ⟨Ao78, co78, eo78⟩ := Kd.R_slice HO_5.out; subst eo78) | ((with_reducible refine gate_callee (f := 14) rfl ?_); refine goesL_ (some 124) rfl rfl Try.func14 (by kernel_rfl) rfl #[.slice Ao78 t258.length co78] rfl (by (try simp only [List.map_toArray, List.map_cons, List.map_nil]); first | done | rfl | (simp only [List.length_drop, List.length_take]; rfl)) ?_; (with_reducible refine (impl_ScoreEnd.calls kj33 _ _ t258 t290 t291 _ ?side1 ?side2 A65.out).mono ?_); (case side1 => repeat (first | exact (Kd.R_reads' HO_5.out).2.2 | (with_reducible refine Kd.C_alloc ?_ _) | (with_reducible refine Kd.C_drewN ?_ _) | (with_reducible refine Kd.C_drew ?_))); (case side2 => exact (Kd.R_reads' HO_5.out).2.1); rintro e w79 ⟨rfl, hb⟩; refine ⟨_, rfl, ?_⟩; have n0_ := Aside0.mk (Kd.R_below (by (with_reducible repeat (first | apply Kd.R_alloc | apply Kd.R_drewN | apply Kd.R_drew)); exact HO_3.out) hb); have n1_ := Aside0.mk (Kd.R_below (by (with_reducible repeat (first | apply Kd.R_alloc | apply Kd.R_drewN | apply Kd.R_drew)); exact HO_5.out) hb); have n2_ := Aside0.mk (below_step (by repeat (first | (with_reducible first | exact HB.out | apply below_alloc | apply pw_below_drewN | apply below_drew1) | exact HB.out)) hb); clear HO_3; clear HO_5; clear HB; have HO_3 := n0_; have HO_5 := n1_; have HB := n2_; clear n0_ n1_ n2_; (try clear hb); (try clear hb2); (try clear hk); (try clear hi)))
             go_ret
             exact ⟨by first | rfl | (simp [errW_none, errW_some] <;> rfl) | (simp [*, errW_none, errW_some] <;> rfl), by repeat (first | (with_reducible first | exact HB.out | apply below_alloc | apply pw_below_drewN | apply below_drew1) | exact HB.out)⟩
          ·rw [if_neg c68] at H
           have c68b0 : ((t258.length : Int) == (t254.length : Int)) = false := beq_eq_false_iff_ne.mpr c68
           have c68b1 : ((t258.length : Int) != (t254.length : Int)) = true := bne_iff_ne.mpr c68
           have c68b2 : (t258.length == t254.length) = false := by first | simpa using c68 | (simp at c68 ⊢; omega)
           exact absurd ((Option.some.inj H).trans HR_.out) (by decide)
         ·rw [if_neg c67] at H
          have c67b0 : (t291 == 0) = false := beq_eq_false_iff_ne.mpr c67
          have c67b1 : (t291 != 0) = true := bne_iff_ne.mpr c67
          exact absurd ((Option.some.inj H).trans HR_.out) (by decide)
        ·rw [if_neg c66] at H
         have c66b0 : (t289 == 0) = false := beq_eq_false_iff_ne.mpr c66
         have c66b1 : (t289 != 0) = true := bne_iff_ne.mpr c66
         exact absurd ((Option.some.inj H).trans HR_.out) (by decide)
       ·rw [if_neg c63] at H
        have c63b0 : (t259 == 0) = false := beq_eq_false_iff_ne.mpr c63
        have c63b1 : (t259 != 0) = true := bne_iff_ne.mpr c63
        obtain rfl := Option.some.inj H
        go_wp2
        go_ret
        exact ⟨by first | rfl | (simp [errW_none, errW_some] <;> rfl) | (simp [*, errW_none, errW_some] <;> rfl), by repeat (first | (with_reducible first | exact HB.out | apply below_alloc | apply pw_below_drewN | apply below_drew1) | exact HB.out)⟩
def laws_FnStretched.Pure : Prop := ∀ (l0 : List Int), l0.length ≤ maxLen → l0.length * 1 ≤ 140737488351232 → (∀ x ∈ l0, (Lit.int .u8 x).wf = true) → ∃ k, laws_FnStretched.f k l0 = some true
theorem laws_FnStretched.walk (P : laws_FnStretched.Pure) (a0 : Option Addr) (len0 cap0 : Nat) (z0 : List Int) (w : World) (w0 : (a0 = none ∧ len0 = 0 ∧ cap0 = 0 ∧ z0 = []) ∨ ∃ x, a0 = some x ∧ len0 ≤ cap0 ∧ cap0 ≤ maxLen ∧ z0.length = cap0 ∧ (∀ i, i < z0.length → w.cell? (x.add i) = some (.int .u8 (z0.getD i 0))) ∧ ∀ n ∈ z0, (Lit.int .u8 n).wf = true) (y0 : len0 * 1 ≤ 140737488351232) :
  Calls Try.prog 3 #[.slice a0 len0 cap0] w fun e w' => e = .returned (.bool true) ∧ Below w.heap.size w w' := by
 obtain ⟨l0, rfl, hr0, hm0, hw0, hc0⟩ := ReadsInt.ofRowC w0
 obtain ⟨k, h⟩ := P l0 hm0 y0 hw0
 refine (laws_FnStretched.calls k _ _ l0 true w (Kd.C_of_reads (d := (0 : Int)) (h1 := fun _ => rfl) hr0) hc0 h rfl).mono ?_
 rintro e w' ⟨rfl, hd⟩
 exact ⟨rfl, hd⟩
end Go.Proofs.Ytigkgihnijaefaa.F
namespace Go.Proofs.Ytigkgihnijaefaa.F
open Go.RowKit Go.Proofs.YtigkgihnijaefaaW.PrintWords Go.Proofs.YtigkgihnijaefaaW.PrintLast Go.Proofs.YtigkgihnijaefaaW.PrintMore
set_option linter.unusedVariables false
set_option linter.unusedSimpArgs false
def Evt (P : Nat → Prop) : Prop := ∃ K, ∀ k, K ≤ k → P k
theorem Evt.mono {P Q : Nat → Prop} (h : Evt P) (hq : ∀ k, P k → Q k) : Evt Q := by
 obtain ⟨K, h⟩ := h
 exact ⟨K, fun k hk => hq k (h k hk)⟩
theorem Evt.succ {P : Nat → Prop} (h : Evt (fun k => P (k + 1))) : Evt P := by
 obtain ⟨K, h⟩ := h
 refine ⟨K + 1, fun k hk => ?_⟩
 obtain ⟨m, rfl⟩ : ∃ m, k = m + 1 := ⟨k - 1, by omega⟩
 exact h m (by omega)
theorem w64 {n : Int} (h : -9223372036854775808 ≤ n ∧ n ≤ 9223372036854775807) : wrap64 n = n := by unfold wrap64; omega
def allF (p : Nat → Bool) : Nat → Nat → Bool
 | _, 0 => true
 | i, d + 1 => p i && allF p (i + 1) d
theorem allF_true {p : Nat → Bool} : ∀ (d i : Nat), allF p i d = true ↔ ∀ j, i ≤ j → j < i + d → p j = true
 | 0, i => by simp [allF]; intro j h1 h2; omega
 | d + 1, i => by
  unfold allF
  rw [Bool.and_eq_true, allF_true d (i + 1)]
  constructor
  ·rintro ⟨h1, h2⟩ j h3 h4
   rcases Nat.eq_or_lt_of_le h3 with e | e
   ·exact e ▸ h1
   ·exact h2 j e (by omega)
  ·exact fun h => ⟨h i (Nat.le_refl _) (by omega), fun j h1 h2 => h j (by omega) (by omega)⟩
theorem all_loopF {f : Nat → Nat → Option Bool} {p : Nat → Bool} {e : Bool} (a n : Nat) (hs : ∀ k i, a ≤ i → i < n → f (k + 1) i = if p i = true then f k (i + 1) else some false) (he : ∀ k, f (k + 1) n = some e) :
  ∀ d k i, a ≤ i → n - i = d → i ≤ n → d < k → f k i = some (allF p i d && e) := by
 intro d
 induction d with
 | zero =>
  intro k i ha hd hi hk
  obtain ⟨k, rfl⟩ : ∃ m, k = m + 1 := ⟨k - 1, by omega⟩
  have : i = n := by omega
  subst this
  rw [he]
  rfl
 | succ d ih =>
  intro k i ha hd hi hk
  obtain ⟨k, rfl⟩ : ∃ m, k = m + 1 := ⟨k - 1, by omega⟩
  rw [hs k i ha (by omega)]
  unfold allF
  by_cases hp : p i = true
  ·rw [if_pos hp, ih k (i + 1) (by omega) (by omega) (by omega) (by omega), hp, Bool.true_and]
  ·rw [if_neg hp]
   replace hp := Bool.eq_false_iff.mpr hp
   rw [hp, Bool.false_and, Bool.false_and]
theorem all_loop {f : Nat → Nat → Option Bool} {p : Nat → Bool} {e : Bool} (n : Nat) (hs : ∀ k i, i < n → f (k + 1) i = if p i = true then f k (i + 1) else some false) (he : ∀ k, f (k + 1) n = some e) :
  ∀ d k i, n - i = d → i ≤ n → d < k → f k i = some (allF p i d && e) := fun d k i => all_loopF 0 n (fun k i _ h => hs k i h) he d k i (Nat.zero_le _)
def foldF {σ : Type} (step : Nat → σ → σ) : Nat → Nat → σ → σ
 | _, 0, s => s
 | i, d + 1, s => foldF step (i + 1) d (step i s)
theorem foldF_snoc {σ : Type} (f : Nat → σ → σ) : ∀ (d i : Nat) (s : σ), foldF f i (d + 1) s = f (i + d) (foldF f i d s)
 | 0, i, s => rfl
 | d + 1, i, s => by
  have h := foldF_snoc f d (i + 1) (f i s)
  rw [show i + 1 + d = i + (d + 1) by omega] at h
  exact h
theorem fold_loop {σ β : Type} {f : Nat → Nat → σ → Option β} {step : Nat → σ → σ} {I : Nat → σ → Prop} {e : σ → Option β} (n : Nat) (hs : ∀ k i s, i < n → I i s → f (k + 1) i s = f k (i + 1) (step i s)) (hI : ∀ i s, i < n → I i s → I (i + 1) (step i s)) (he : ∀ k s, I n s → f (k + 1) n s = e s) :
  ∀ d k i s, n - i = d → i ≤ n → I i s → d < k → f k i s = e (foldF step i d s) := by
 intro d
 induction d with
 | zero =>
  intro k i s hd hi h0 hk
  obtain ⟨k, rfl⟩ : ∃ m, k = m + 1 := ⟨k - 1, by omega⟩
  have : i = n := by omega
  subst this
  exact he k s h0
 | succ d ih =>
  intro k i s hd hi h0 hk
  obtain ⟨k, rfl⟩ : ∃ m, k = m + 1 := ⟨k - 1, by omega⟩
  rw [hs k i s (by omega) h0]
  exact ih k (i + 1) _ (by omega) (by omega) (hI i s (by omega) h0) (by omega)
def inB (n lo hi : Int) : Bool := decide (lo ≤ n ∧ n ≤ hi)
theorem inB_true {n lo hi : Int} : inB n lo hi = true ↔ lo ≤ n ∧ n ≤ hi := by unfold inB; exact decide_eq_true_iff
theorem inB_false {n lo hi : Int} : inB n lo hi = false ↔ ¬ (lo ≤ n ∧ n ≤ hi) := by unfold inB; exact decide_eq_false_iff_not
theorem getD_take {α : Type} (xs : List α) (z : α) (n i : Nat) (h : i < n) : (xs.take n).getD i z = xs.getD i z := by
 rw [List.getD_eq_getElem?_getD, List.getD_eq_getElem?_getD, List.getElem?_take, if_pos h]
end Go.Proofs.Ytigkgihnijaefaa.F
namespace Go.Proofs.Ytigkgihnijaefaa.F
open Go.RowKit Go.Proofs.YtigkgihnijaefaaW.PrintWords Go.Proofs.YtigkgihnijaefaaW.PrintLast Go.Proofs.YtigkgihnijaefaaW.PrintMore
set_option linter.unusedVariables false
set_option linter.unusedSimpArgs false
def Code (c : List Int) : Prop := c.length ≤ 4096 ∧ ∀ x ∈ c, 0 ≤ x ∧ x ≤ 255
def St (c : List Int) (a s : Int) : Prop := 0 ≤ a ∧ a ≤ (c.length : Int) ∧ 0 ≤ s ∧ s < 2147483647
theorem rd_code {c : List Int} (hc : Code c) (i : Int) : 0 ≤ rd c i ∧ rd c i ≤ 255 := by
 unfold rd
 rw [List.getD_eq_getElem?_getD]
 cases h : c[i.toNat]? with
 | none => exact ⟨Int.le_refl _, by decide⟩
 | some x => exact hc.2 x (List.mem_of_getElem? h)
theorem tmod_nn {a b : Int} (ha : 0 ≤ a) (hb : 0 < b) : 0 ≤ Int.tmod a b ∧ Int.tmod a b < b := by
 rw [Int.tmod_eq_emod_of_nonneg ha]
 exact ⟨Int.emod_nonneg _ (by omega), Int.emod_lt_of_pos _ hb⟩
theorem next_ok {c : List Int} (hc : Code c) {a s : Int} (h : St c a s) (n : Int) (hn : n ≤ 4611686018427387904) : ∃ r a' s', spec_l01Next.f c a s n = some (r, a', s') ∧ St c a' s' ∧ 0 ≤ r ∧ (r < n ∨ (n ≤ 1 ∧ r = 0)) := by
 obtain ⟨h1, h2, h3, h4⟩ := h
 have hl := hc.1
 unfold spec_l01Next.f
 by_cases c1 : n ≤ 1
 ·rw [if_pos c1]
  exact ⟨0, a, s, rfl, ⟨h1, h2, h3, h4⟩, Int.le_refl _, .inr ⟨c1, rfl⟩⟩
 ·have hs := tmod_nn (a := s * 48271 + 29) (b := 2147483647) (by omega) (by omega)
  rw [if_neg c1, w64 (n := s * 48271) (by omega), w64 (n := s * 48271 + 29) (by omega)]
  generalize Int.tmod (s * 48271 + 29) 2147483647 = z at hs ⊢
  have hd : Int.tdiv z 31 = z / 31 := Int.tdiv_eq_ediv_of_nonneg hs.1
  rw [hd]
  have n0 : ¬ n = 0 := by omega
  by_cases c2 : a < (c.length : Int)
  ·have hr := rd_code hc a
   have p := tmod_nn (a := z / 31 + rd c a) (b := n) (by omega) (by omega)
   have q := tmod_nn (a := rd c a) (b := n) (by omega) (by omega)
   simp only [if_neg n0]
   rw [if_pos c2, if_pos h1, w64 (n := a + 1) (by omega), w64 (n := z / 31) (by omega), w64 (n := rd c a) (by omega), w64 (n := z / 31 + rd c a) (by omega), w64 (n := a + 1 - 1) (by omega), show a + 1 - 1 = a by omega, w64 (n := rd c a) (by omega)]
   by_cases c3 : n ≤ 256
   ·rw [if_pos c3]
    by_cases c4 : Int.tmod (a + 1) 2 = 0
    ·rw [if_pos c4, if_pos h1, if_pos c2]
     exact ⟨_, _, _, rfl, ⟨by omega, by omega, hs.1, hs.2⟩, q.1, .inl q.2⟩
    ·rw [if_neg c4]
     exact ⟨_, _, _, rfl, ⟨by omega, by omega, hs.1, hs.2⟩, p.1, .inl p.2⟩
   ·rw [if_neg c3]
    exact ⟨_, _, _, rfl, ⟨by omega, by omega, hs.1, hs.2⟩, p.1, .inl p.2⟩
  ·have p := tmod_nn (a := z / 31) (b := n) (by omega) (by omega)
   simp only [if_neg n0]
   rw [if_neg c2, w64 (n := z / 31) (by omega)]
   exact ⟨_, _, _, rfl, ⟨h1, h2, hs.1, hs.2⟩, p.1, .inl p.2⟩
theorem pick_ok {c : List Int} (hc : Code c) {a s : Int} (h : St c a s) (l : List Int) (hl : 0 < l.length) (hl2 : l.length ≤ 1000) : ∃ r a' s', spec_l01Pick.f c a s l = some (r, a', s') ∧ St c a' s' ∧ r ∈ l := by
 obtain ⟨r, a', s', e, h', h0, h1⟩ := next_ok hc h (l.length : Int) (by omega)
 refine ⟨rd l r, a', s', ?_, h', ?_⟩
 ·unfold spec_l01Pick.f
  rw [e]
  simp only [Option.bind_some]
  rw [if_pos h0, if_pos (by omega)]
 ·have hr : r.toNat < l.length := by omega
  unfold rd
  rw [List.getD_eq_getElem?_getD, List.getElem?_eq_getElem hr]
  exact List.getElem_mem hr
theorem from_ok {c : List Int} (hc : Code c) : ∃ s, (∀ k, 70 ≤ k → spec_l01From.f k c = some (c, 0, s)) ∧ St c 0 s := by
 have loop : ∀ (d : Nat) (i s : Int), 0 ≤ i → i ≤ 64 → 64 - i ≤ d → 0 ≤ s → s < 2147483647 → ∃ s', (∀ k, d < k → spec_l01From.l0 k c i c 0 s = some (c, 0, s')) ∧ St c 0 s' := by
  intro d
  induction d with
  | zero =>
   intro i s h1 h2 h3 h4 h5
   refine ⟨s, fun k hk => ?_, by omega, by omega, h4, h5⟩
   obtain ⟨k, rfl⟩ : ∃ m, k = m + 1 := ⟨k - 1, by omega⟩
   simp only [spec_l01From.l0]
   rw [if_neg (show ¬ i < 64 by omega)]
   split <;> rfl
  | succ d ih =>
   intro i s h1 h2 h3 h4 h5
   by_cases c1 : i < (c.length : Int) ∧ i < 64
   ·have hr := rd_code hc i
    have hm := tmod_nn (a := s * 83 + rd c i) (b := 2147483647) (by omega) (by omega)
    obtain ⟨s', e, hs⟩ := ih (i + 1) (Int.tmod (s * 83 + rd c i) 2147483647) (by omega) (by omega) (by omega) hm.1 hm.2
    refine ⟨s', fun k hk => ?_, hs⟩
    obtain ⟨k, rfl⟩ : ∃ m, k = m + 1 := ⟨k - 1, by omega⟩
    simp only [spec_l01From.l0]
    rw [if_pos c1.1, if_pos c1.2, if_pos h1, w64 (n := i + 1) (by omega), w64 (n := s * 83) (by omega), w64 (n := rd c i) (by omega), w64 (n := s * 83 + rd c i) (by omega)]
    exact e k (by omega)
   ·refine ⟨s, fun k hk => ?_, by omega, by omega, h4, h5⟩
    obtain ⟨k, rfl⟩ : ∃ m, k = m + 1 := ⟨k - 1, by omega⟩
    simp only [spec_l01From.l0]
    by_cases c2 : i < (c.length : Int)
    ·rw [if_pos c2, if_neg (fun x => c1 ⟨c2, x⟩)]
    ·rw [if_neg c2]
 obtain ⟨s', e, hs⟩ := loop 64 0 61043 (by omega) (by omega) (by omega) (by omega) (by omega)
 exact ⟨s', fun k hk => e k (by omega), hs⟩
theorem code_of {l : List Int} (h : ¬ (l.length : Int) > 4096) (hb : ∀ x ∈ l, (Go.Lit.int .u8 x).wf = true) : Code l := ⟨by omega, fun x hx => by
 have h := hb x hx
 simp [Go.Lit.wf, Go.IntKind.min, Go.IntKind.max, Go.IntKind.signed, Go.IntKind.bits] at h
 omega⟩
end Go.Proofs.Ytigkgihnijaefaa.F
namespace Go.Proofs.Ytigkgihnijaefaa.F
open Go.RowKit Go.Proofs.YtigkgihnijaefaaW.PrintWords Go.Proofs.YtigkgihnijaefaaW.PrintLast Go.Proofs.YtigkgihnijaefaaW.PrintMore
set_option linter.unusedVariables false
set_option linter.unusedSimpArgs false
theorem In_eq (n lo hi : Int) : spec_l01In.f n lo hi = some (inB n lo hi) := by
 unfold spec_l01In.f inB
 by_cases h : n ≥ lo
 ·rw [if_pos h]; congr 1; simp; omega
 ·rw [if_neg h]; congr 1; simp; omega
theorem Wi_eq (n lo hi : Int) : impl_within.f n lo hi = some (inB n lo hi) := by
 unfold impl_within.f inB
 by_cases h : lo ≤ n
 ·rw [if_pos h]; congr 1; simp; omega
 ·rw [if_neg h]; congr 1; simp; omega
end Go.Proofs.Ytigkgihnijaefaa.F
namespace Go.Proofs.Ytigkgihnijaefaa.F
open Go.RowKit Go.Proofs.YtigkgihnijaefaaW.PrintWords Go.Proofs.YtigkgihnijaefaaW.PrintLast Go.Proofs.YtigkgihnijaefaaW.PrintMore
set_option linter.unusedVariables false
set_option linter.unusedSimpArgs false
def bt_at (xs : List S56) (i : Nat) : Int := (xs.getD i z56).f0
def ln_at (xs : List S56) (i : Nat) : Int := (xs.getD i z56).f1
def barAt (xs : List S56) (i : Nat) : Bool := inB (bt_at xs i) 1 16 && inB (ln_at xs i) 100 5000
def isScore (xs : List S56) : Bool := allF (barAt xs) 0 xs.length && inB (xs.length : Int) 1 20
theorem rd_bar (xs : List S56) (i : Nat) : rd_T56 xs (i : Int) = xs.getD i z56 := by unfold rd_T56; rw [Int.toNat_natCast]
theorem spec_score (xs : List S56) (hx : xs.length ≤ 4000000) (k : Nat) (hk : xs.length < k) : spec_IsScore.f k xs = some (isScore xs) := by
 refine all_loop (f := fun k i => spec_IsScore.l0 k xs (i : Int)) xs.length (fun k i hi => ?_) (fun k => ?_) xs.length k 0 (by omega) (by omega) (by omega)
 ·show spec_IsScore.l0 (k + 1) xs i = _
  simp only [spec_IsScore.l0, In_eq, Option.bind_some]
  rw [if_pos (by omega), if_pos (by omega), w64 (by omega), rd_bar]
  unfold barAt bt_at ln_at
  cases inB (xs.getD i z56).f0 1 16 <;> cases inB (xs.getD i z56).f1 100 5000 <;> rfl
 ·show spec_IsScore.l0 (k + 1) xs _ = _
  simp only [spec_IsScore.l0, In_eq, Option.bind_some]
  rw [if_neg (by omega)]
theorem impl_score (xs : List S56) (hx : xs.length ≤ 4000000) (k : Nat) (hk : xs.length + 1 < k) : impl_IsScore.f k xs = some (isScore xs) := by
 obtain ⟨k, rfl⟩ : ∃ m, k = m + 1 := ⟨k - 1, by omega⟩
 unfold impl_IsScore.f isScore
 simp only [impl_IsScore.j0]
 by_cases h1 : (xs.length : Int) < 1
 ·rw [if_pos h1, if_pos trivial, inB_false.2 (by omega), Bool.and_false]
 ·rw [if_neg h1]
  by_cases h2 : (xs.length : Int) > 20
  ·rw [if_pos (decide_eq_true h2), inB_false.2 (by omega), Bool.and_false]
  ·rw [if_neg (by simpa using h2), inB_true.2 (by omega)]
   refine all_loop (f := fun k i => impl_IsScore.l0 k xs (xs.length : Int) (i : Int)) xs.length (fun k i hi => ?_) (fun k => ?_) xs.length k 0 (by omega) (by omega) (by omega)
   ·show impl_IsScore.l0 (k + 1) xs (xs.length : Int) i = _
    simp only [impl_IsScore.l0, Wi_eq, Option.bind_some]
    rw [if_pos (by omega), if_pos (by omega), if_pos (by omega), w64 (by omega), rd_bar]
    unfold barAt bt_at ln_at
    cases inB (xs.getD i z56).f0 1 16 <;> cases inB (xs.getD i z56).f1 100 5000 <;> rfl
   ·show impl_IsScore.l0 (k + 1) xs (xs.length : Int) _ = _
    simp only [impl_IsScore.l0]
    rw [if_neg (by omega)]
theorem isScore_true {xs : List S56} (h : isScore xs = true) : 1 ≤ xs.length ∧ xs.length ≤ 20 ∧ ∀ i, i < xs.length → 1 ≤ bt_at xs i ∧ bt_at xs i ≤ 16 ∧ 100 ≤ ln_at xs i ∧ ln_at xs i ≤ 5000 := by
 unfold isScore at h
 rw [Bool.and_eq_true, allF_true, inB_true] at h
 refine ⟨by omega, by omega, fun i hi => ?_⟩
 have := h.1 i (by omega) (by omega)
 unfold barAt at this
 rw [Bool.and_eq_true, inB_true, inB_true] at this
 omega
def tm (xs : List S56) (i : Nat) : Int := foldF (fun j s => s + bt_at xs j * ln_at xs j) 0 i 0
theorem tm_succ (xs : List S56) (i : Nat) : tm xs (i + 1) = tm xs i + bt_at xs i * ln_at xs i := by
 unfold tm
 rw [foldF_snoc, Nat.zero_add]
theorem prod_le {a b : Int} (h : 1 ≤ a ∧ a ≤ 16 ∧ 100 ≤ b ∧ b ≤ 5000) : 100 ≤ a * b ∧ a * b ≤ 80000 := by
 have h1 : 1 * b ≤ a * b := Int.mul_le_mul_of_nonneg_right h.1 (by omega)
 have h2 : a * b ≤ 16 * b := Int.mul_le_mul_of_nonneg_right h.2.1 (by omega)
 omega
theorem tm_le {xs : List S56} (h : isScore xs = true) : ∀ i, i ≤ xs.length → 0 ≤ tm xs i ∧ tm xs i ≤ 80000 * i
 | 0, _ => by unfold tm foldF; omega
 | i + 1, hi => by
  have h1 := tm_le h i (by omega)
  have h2 := prod_le ((isScore_true h).2.2 i (by omega))
  rw [tm_succ]
  omega
end Go.Proofs.Ytigkgihnijaefaa.F
namespace Go.Proofs.Ytigkgihnijaefaa.F
open Go.RowKit Go.Proofs.YtigkgihnijaefaaW.PrintWords Go.Proofs.YtigkgihnijaefaaW.PrintLast Go.Proofs.YtigkgihnijaefaaW.PrintMore
set_option linter.unusedVariables false
set_option linter.unusedSimpArgs false
def GoodBars (xs : List S56) : Prop := ∀ x ∈ xs, (2 ≤ x.f0 ∧ x.f0 ≤ 5) ∧ 400 ≤ x.f1 ∧ x.f1 ≤ 999
theorem score_good {c : List Int} (hc : Code c) {a s : Int} (h : St c a s) : ∃ xs a' s', (∀ k, 20 ≤ k → spec_l07Good.f k c a s = some (xs, a', s')) ∧ St c a' s' ∧ 1 ≤ xs.length ∧ xs.length ≤ 6 ∧ GoodBars xs := by
 have loop : ∀ (d : Nat) (n : Int) (xs : List S56) (a s : Int), n = d → GoodBars xs → xs.length + d ≤ 6 → St c a s → ∃ r a' s', (∀ k, d < k → spec_l07Good.l0 k xs n c a s = some (r, a', s')) ∧ St c a' s' ∧ r.length = xs.length + d ∧ GoodBars r := by
  intro d
  induction d with
  | zero =>
   intro n xs a s hn hg hl h
   refine ⟨xs, a, s, fun k hk => ?_, h, rfl, hg⟩
   obtain ⟨k, rfl⟩ : ∃ m, k = m + 1 := ⟨k - 1, by omega⟩
   simp only [spec_l07Good.l0]
   rw [if_neg (by omega)]
  | succ d ih =>
   intro n xs a s hn hg hl h
   obtain ⟨r1, a1, s1, e1, h1, b1, c1⟩ := next_ok hc h 4 (by omega)
   obtain ⟨r2, a2, s2, e2, h2, b2, c2⟩ := next_ok hc h1 600 (by omega)
   obtain ⟨r, a', s', e, h', hr, hg'⟩ := ih (n - 1) (xs ++ [(⟨2 + r1, 400 + r2⟩ : S56)]) a2 s2 (by omega) (by
    intro x hx
    rcases List.mem_append.1 hx with y | y
    ·exact hg x y
    ·rw [List.mem_singleton.1 y]
     exact ⟨by show 2 ≤ 2 + r1 ∧ 2 + r1 ≤ 5; omega, by show 400 ≤ 400 + r2 ∧ 400 + r2 ≤ 999; omega⟩) (by rw [List.length_append]; show xs.length + 1 + d ≤ 6; omega) h2
   refine ⟨r, a', s', fun k hk => ?_, h', by rw [hr, List.length_append]; show xs.length + 1 + d = _; omega, hg'⟩
   obtain ⟨k, rfl⟩ : ∃ m, k = m + 1 := ⟨k - 1, by omega⟩
   simp only [spec_l07Good.l0]
   rw [if_pos (by omega)]
   simp only [e1, e2, Option.bind_some]
   rw [if_pos (by omega), w64 (n := 2 + r1) (by omega), w64 (n := 400 + r2) (by omega), w64 (n := n - 1) (by omega)]
   exact e k (by omega)
 obtain ⟨r1, a1, s1, e1, h1, b1, c1⟩ := next_ok hc h 6 (by omega)
 obtain ⟨r, a', s', e, h', hr, hg⟩ := loop (1 + r1).toNat (1 + r1) [] a1 s1 (by omega) (fun x hx => absurd hx (by simp)) (by show 0 + _ ≤ 6; omega) h1
 have hr' : r.length = (1 + r1).toNat := by rw [hr]; show 0 + _ = _; omega
 refine ⟨r, a', s', fun k hk => ?_, h', by omega, by omega, hg⟩
 unfold spec_l07Good.f
 rw [e1]
 simp only [Option.bind_some]
 rw [w64 (n := 1 + r1) (by omega)]
 exact e k (by omega)
theorem score_draw {c : List Int} (hc : Code c) {a s : Int} (h : St c a s) : ∃ xs a' s', (∀ k, 60 ≤ k → spec_l07Draw.f k c a s = some (xs, a', s')) ∧ St c a' s' ∧ xs.length ≤ 30 := by
 have loop : ∀ (d : Nat) (xs : List S56) (a s : Int), 21 - xs.length = d → xs.length ≤ 30 → St c a s → ∃ r a' s', (∀ k, d < k → spec_l07Draw.l0 k xs c a s = some (r, a', s')) ∧ St c a' s' ∧ r.length ≤ 30 := by
  intro d
  induction d with
  | zero =>
   intro xs a s hd hx h
   obtain ⟨r1, a1, s1, e1, h1, b1, b2⟩ := next_ok hc h 2 (by omega)
   refine ⟨xs, a1, s1, fun k hk => ?_, h1, hx⟩
   obtain ⟨k, rfl⟩ : ∃ m, k = m + 1 := ⟨k - 1, by omega⟩
   simp only [spec_l07Draw.l0, e1, Option.bind_some]
   rw [w64 (n := 20 + r1) (by omega), if_neg (by omega)]
  | succ d ih =>
   intro xs a s hd hx h
   obtain ⟨r1, a1, s1, e1, h1, b1, b2⟩ := next_ok hc h 2 (by omega)
   by_cases c1 : (xs.length : Int) < 20 + r1
   ·obtain ⟨r, a', s', e, h', hl⟩ := ih (xs ++ [(⟨4, 500⟩ : S56)]) a1 s1 (by rw [List.length_append]; show 21 - (xs.length + 1) = d; omega) (by rw [List.length_append]; show xs.length + 1 ≤ 30; omega) h1
    refine ⟨r, a', s', fun k hk => ?_, h', hl⟩
    obtain ⟨k, rfl⟩ : ∃ m, k = m + 1 := ⟨k - 1, by omega⟩
    simp only [spec_l07Draw.l0, e1, Option.bind_some]
    rw [w64 (n := 20 + r1) (by omega), if_pos c1, if_pos (by omega)]
    exact e k (by omega)
   ·refine ⟨xs, a1, s1, fun k hk => ?_, h1, hx⟩
    obtain ⟨k, rfl⟩ : ∃ m, k = m + 1 := ⟨k - 1, by omega⟩
    simp only [spec_l07Draw.l0, e1, Option.bind_some]
    rw [w64 (n := 20 + r1) (by omega), if_neg c1]
 obtain ⟨xs, a1, s1, e1, h1, l1, l2, hg⟩ := score_good hc h
 obtain ⟨r2, a2, s2, e2, h2, b2, c2⟩ := next_ok hc h1 40 (by omega)
 by_cases d0 : r2 = 0
 ·obtain ⟨r3, a3, s3, e3, h3, _⟩ := pick_ok hc h2 [0, 1, 16, 17] (by simp) (by simp)
  refine ⟨xs.set (0 : Int).toNat (⟨r3, (rd_T56 xs 0).f1⟩ : S56), a3, s3, fun k hk => ?_, h3, by rw [List.length_set]; omega⟩
  unfold spec_l07Draw.f
  simp only [e1 k (by omega), e2, e3, Option.bind_some]
  rw [if_pos d0, if_pos (by omega)]
 by_cases d1 : r2 = 1
 ·obtain ⟨r3, a3, s3, e3, h3, _⟩ := pick_ok hc h2 [99, 100, 5000, 5001] (by simp) (by simp)
  refine ⟨xs.set (0 : Int).toNat (⟨(rd_T56 xs 0).f0, r3⟩ : S56), a3, s3, fun k hk => ?_, h3, by rw [List.length_set]; omega⟩
  unfold spec_l07Draw.f
  simp only [e1 k (by omega), e2, e3, Option.bind_some]
  rw [if_neg d0, if_pos d1, if_pos (by omega)]
 by_cases d2 : r2 = 2
 ·obtain ⟨r, a', s', e, h', hl⟩ := loop (21 - xs.length) xs a2 s2 rfl (by omega) h2
  refine ⟨r, a', s', fun k hk => ?_, h', hl⟩
  unfold spec_l07Draw.f
  simp only [e1 k (by omega), e2, Option.bind_some]
  rw [if_neg d0, if_neg d1, if_pos d2]
  exact e k (by omega)
 by_cases d3 : r2 = 3
 ·refine ⟨xs.take (0 : Int).toNat, a2, s2, fun k hk => ?_, h2, Nat.zero_le _⟩
  unfold spec_l07Draw.f
  simp only [e1 k (by omega), e2, Option.bind_some]
  rw [if_neg d0, if_neg d1, if_neg d2, if_pos d3, if_pos (by omega)]
 ·refine ⟨xs, a2, s2, fun k hk => ?_, h2, by omega⟩
  unfold spec_l07Draw.f
  simp only [e1 k (by omega), e2, Option.bind_some]
  rw [if_neg d0, if_neg d1, if_neg d2, if_neg d3]
end Go.Proofs.Ytigkgihnijaefaa.F
namespace Go.Proofs.Ytigkgihnijaefaa.F
open Go.RowKit Go.Proofs.YtigkgihnijaefaaW.PrintWords Go.Proofs.YtigkgihnijaefaaW.PrintLast Go.Proofs.YtigkgihnijaefaaW.PrintMore
set_option linter.unusedVariables false
set_option linter.unusedSimpArgs false
theorem tdiv_pos {a b : Int} (hb : 0 < b) : (Int.tmod a b < 0 → Int.tdiv a b = a / b + 1) ∧ (¬ Int.tmod a b < 0 → Int.tdiv a b = a / b) := by
 have h1 := Int.emod_nonneg a (show b ≠ 0 by omega)
 have h2 := Int.emod_lt_of_pos a hb
 have h3 : Int.sign b = 1 := Int.sign_eq_one_of_pos hb
 rw [Int.tmod_eq_emod, Int.tdiv_eq_ediv, h3]
 by_cases h : 0 ≤ a ∨ b ∣ a
 ·rw [if_pos h, if_pos h]
  omega
 ·rw [if_neg h, if_neg h]
  omega
theorem ediv_small {a b : Int} (hb : 0 < b) (ha : -4611686018427387904 ≤ a ∧ a ≤ 4611686018427387904) : -4611686018427387904 ≤ a / b ∧ a / b ≤ 4611686018427387904 := by
 constructor
 ·exact (Int.le_ediv_iff_mul_le hb).2 (by
   have : -4611686018427387904 * b ≤ -4611686018427387904 * 1 := Int.mul_le_mul_of_nonpos_left (by omega) (by omega)
   omega)
 ·by_cases h : 0 ≤ a
  ·have := Int.ediv_le_self b h
   omega
  ·have := Int.ediv_neg_of_neg_of_pos (show a < 0 by omega) hb
   omega
theorem Fl_eq {a b : Int} (hb : 0 < b) (ha : -4611686018427387904 ≤ a ∧ a ≤ 4611686018427387904) : impl_floorDiv.f a b = some (a / b) := by
 have h := tdiv_pos (a := a) hb
 have hs := ediv_small hb ha
 unfold impl_floorDiv.f
 rw [if_neg (by omega)]
 by_cases hm : Int.tmod a b < 0
 ·rw [if_pos hm, h.1 hm, w64 (n := a / b + 1) (by omega), w64 (by omega)]
  congr 1; omega
 ·rw [if_neg hm, h.2 hm, w64 (by omega)]
theorem SFl_eq {a b : Int} (hb : 0 < b) (ha : -4611686018427387904 ≤ a ∧ a ≤ 4611686018427387904) : spec_l01Floor.f a b = some (a / b) := by
 have h := tdiv_pos (a := a) hb
 have hs := ediv_small hb ha
 unfold spec_l01Floor.f
 rw [if_neg (by omega), if_neg (by omega)]
 by_cases hm : Int.tmod a b < 0
 ·rw [if_pos hm, h.1 hm, w64 (n := a / b + 1) (by omega), w64 (by omega)]
  congr 1; omega
 ·rw [if_neg hm, h.2 hm, w64 (by omega)]
theorem prod_nn {a b A B : Int} (ha : 0 ≤ a ∧ a ≤ A) (hb : 0 ≤ b ∧ b ≤ B) : 0 ≤ a * b ∧ a * b ≤ A * B := ⟨Int.mul_nonneg ha.1 hb.1, Int.mul_le_mul ha.2 hb.2 hb.1 (by omega)⟩
end Go.Proofs.Ytigkgihnijaefaa.F
namespace Go.Proofs.Ytigkgihnijaefaa.F
open Go.RowKit Go.Proofs.YtigkgihnijaefaaW.PrintWords Go.Proofs.YtigkgihnijaefaaW.PrintLast Go.Proofs.YtigkgihnijaefaaW.PrintMore
set_option linter.unusedVariables false
set_option linter.unusedSimpArgs false
def nst (b p : Int) : Int := (2 * (b * p) + 100) / 200
theorem near_s {a : Int} (h : -10000000 ≤ a ∧ a ≤ 10000000) : spec_l01Nearest.f a 100 = some ((2 * a + 100) / 200) := by
 unfold spec_l01Nearest.f
 rw [w64 (n := 2 * a) (by omega), w64 (n := 2 * a + 100) (by omega), show wrap64 (2 * 100) = 200 by have := w64 (n := 2 * 100) (by omega); omega, SFl_eq (by omega) (by omega)]
 rfl
theorem near_i {a : Int} (h : -10000000 ≤ a ∧ a ≤ 10000000) : impl_nearest.f a 100 = some ((2 * a + 100) / 200) := by
 unfold impl_nearest.f
 rw [w64 (n := 2 * a) (by omega), w64 (n := 2 * a + 100) (by omega), show wrap64 (2 * 100) = 200 by have := w64 (n := 2 * 100) (by omega); omega, Fl_eq (by omega) (by omega)]
 rfl
def strd (xs : List S56) (p : Int) : Nat → List S56
 | 0 => []
 | i + 1 => strd xs p i ++ [(⟨bt_at xs i, nst (ln_at xs i) p⟩ : S56)]
theorem strd_len (xs : List S56) (p : Int) : ∀ i, (strd xs p i).length = i
 | 0 => rfl
 | i + 1 => by unfold strd; rw [List.length_append, strd_len xs p i]; rfl
theorem stretch_ex (M0 : List S56) (a1 : Int) (hM : M0.length ≤ 1000000) :
  ∃ q1 q2, q1.length ≤ 3000000 ∧ Evt (fun k => spec_StretchScore.f k M0 a1 = some (q1, q2)) ∧ Evt (fun k => impl_StretchScore.f k M0 a1 = some (q1, q2)) ∧ (q2 = 0 → isScore M0 = true ∧ (50 ≤ a1 ∧ a1 ≤ 200) ∧ q1 = strd M0 a1 M0.length ∧ isScore q1 = true) := by
 cases h : isScore M0 with
 | false =>
  refine ⟨[], 1, by simp, ⟨M0.length + 2, fun k hk => ?_⟩, ⟨M0.length + 2, fun k hk => ?_⟩, fun x => absurd x (by decide)⟩
  ·show spec_StretchScore.f k M0 a1 = _
   unfold spec_StretchScore.f
   rw [spec_score M0 (by omega) k (by omega), h]; rfl
  ·show impl_StretchScore.f k M0 a1 = _
   unfold impl_StretchScore.f
   rw [impl_score M0 (by omega) k (by omega), h]; rfl
 | true =>
  have hs := isScore_true h
  cases g : inB a1 50 200 with
  | false =>
   refine ⟨[], 2, by simp, ⟨M0.length + 2, fun k hk => ?_⟩, ⟨M0.length + 2, fun k hk => ?_⟩, fun x => absurd x (by decide)⟩
   ·show spec_StretchScore.f k M0 a1 = _
    unfold spec_StretchScore.f
    rw [spec_score M0 (by omega) k (by omega), h]
    simp only [Option.bind_some]
    rw [In_eq, g]; rfl
   ·show impl_StretchScore.f k M0 a1 = _
    unfold impl_StretchScore.f
    rw [impl_score M0 (by omega) k (by omega), h]
    simp only [Option.bind_some]
    rw [Wi_eq, g]; rfl
  | true =>
   rw [inB_true] at g
   have hn : ∀ i, i < M0.length → 0 ≤ ln_at M0 i * a1 ∧ ln_at M0 i * a1 ≤ 5000 * 200 := fun i hi => prod_nn (a := ln_at M0 i) (b := a1) (A := 5000) (B := 200) (by have := hs.2.2 i hi; omega) (by omega)
   have sl : ∀ (r : Option (List S56 × Int)), (∀ k, M0.length + 3 ≤ k → (if isScore (strd M0 a1 M0.length) = true then some (strd M0 a1 M0.length, (0 : Int)) else some (([] : List S56), 5)) = r) → ∀ (d i k : Nat), M0.length - i = d → i ≤ M0.length → d + M0.length + 5 < k → spec_StretchScore.l0 k M0 a1 (strd M0 a1 i) (i : Int) = r := by
    intro r hr d
    induction d with
    | zero =>
     intro i k hd hi hk
     obtain ⟨k, rfl⟩ : ∃ m, k = m + 1 := ⟨k - 1, by omega⟩
     unfold spec_StretchScore.l0
     rw [if_neg (by omega), show i = M0.length by omega, spec_score _ (by rw [strd_len]; omega) k (by rw [strd_len]; omega)]
     simp only [Option.bind_some]
     exact hr k (by omega)
    | succ d ih =>
     intro i k hd hi hk
     obtain ⟨k, rfl⟩ : ∃ m, k = m + 1 := ⟨k - 1, by omega⟩
     have e := ih (i + 1) k (by omega) (by omega) (by omega)
     have hp := hn i (by omega)
     unfold ln_at at hp
     unfold spec_StretchScore.l0
     rw [rd_bar, if_pos (by omega), if_pos (by omega), w64 (n := (M0.getD i z56).f1 * a1) (by omega), near_s (by omega)]
     simp only [Option.bind_some]
     rw [if_pos (by rw [strd_len]; omega), w64 (by omega)]
     exact e
   have il : ∀ (r : Option (List S56 × Int)), (∀ k, M0.length + 3 ≤ k → (if isScore (strd M0 a1 M0.length) = true then some (strd M0 a1 M0.length, (0 : Int)) else some (([] : List S56), 5)) = r) → ∀ (d i k : Nat), M0.length - i = d → i ≤ M0.length → d + M0.length + 5 < k → impl_StretchScore.l0 k a1 (strd M0 a1 i) M0 (M0.length : Int) (i : Int) = r := by
    intro r hr d
    induction d with
    | zero =>
     intro i k hd hi hk
     obtain ⟨k, rfl⟩ : ∃ m, k = m + 1 := ⟨k - 1, by omega⟩
     unfold impl_StretchScore.l0
     rw [if_neg (by omega), show i = M0.length by omega, impl_score _ (by rw [strd_len]; omega) k (by rw [strd_len]; omega)]
     simp only [Option.bind_some]
     exact hr k (by omega)
    | succ d ih =>
     intro i k hd hi hk
     obtain ⟨k, rfl⟩ : ∃ m, k = m + 1 := ⟨k - 1, by omega⟩
     have e := ih (i + 1) k (by omega) (by omega) (by omega)
     have hp := hn i (by omega)
     unfold ln_at at hp
     unfold impl_StretchScore.l0
     rw [rd_bar, if_pos (by omega), if_pos (by omega), if_pos (by omega), w64 (n := (M0.getD i z56).f1 * a1) (by omega), near_i (by omega)]
     simp only [Option.bind_some]
     rw [if_pos (by rw [strd_len]; omega), w64 (by omega)]
     exact e
   cases e : isScore (strd M0 a1 M0.length) with
   | false =>
    refine ⟨[], 5, by simp, ⟨M0.length + M0.length + 6, fun k hk => ?_⟩, ⟨M0.length + M0.length + 6, fun k hk => ?_⟩, fun x => absurd x (by decide)⟩
    ·show spec_StretchScore.f k M0 a1 = _
     unfold spec_StretchScore.f
     rw [spec_score M0 (by omega) k (by omega), h]
     simp only [Option.bind_some]
     rw [In_eq, inB_true.2 g]
     exact sl _ (fun k _ => by rw [e]; rfl) M0.length 0 k (by omega) (by omega) (by omega)
    ·show impl_StretchScore.f k M0 a1 = _
     unfold impl_StretchScore.f
     rw [impl_score M0 (by omega) k (by omega), h]
     simp only [Option.bind_some]
     rw [Wi_eq, inB_true.2 g]
     exact il _ (fun k _ => by rw [e]; rfl) M0.length 0 k (by omega) (by omega) (by omega)
   | true =>
    refine ⟨strd M0 a1 M0.length, 0, by rw [strd_len]; omega, ⟨M0.length + M0.length + 6, fun k hk => ?_⟩, ⟨M0.length + M0.length + 6, fun k hk => ?_⟩, fun _ => ⟨rfl, g, rfl, e⟩⟩
    ·show spec_StretchScore.f k M0 a1 = _
     unfold spec_StretchScore.f
     rw [spec_score M0 (by omega) k (by omega), h]
     simp only [Option.bind_some]
     rw [In_eq, inB_true.2 g]
     exact sl _ (fun k _ => by rw [e]; rfl) M0.length 0 k (by omega) (by omega) (by omega)
    ·show impl_StretchScore.f k M0 a1 = _
     unfold impl_StretchScore.f
     rw [impl_score M0 (by omega) k (by omega), h]
     simp only [Option.bind_some]
     rw [Wi_eq, inB_true.2 g]
     exact il _ (fun k _ => by rw [e]; rfl) M0.length 0 k (by omega) (by omega) (by omega)
end Go.Proofs.Ytigkgihnijaefaa.F
namespace Go.Proofs.Ytigkgihnijaefaa.F
open Go.RowKit Go.Proofs.YtigkgihnijaefaaW.PrintWords Go.Proofs.YtigkgihnijaefaaW.PrintLast Go.Proofs.YtigkgihnijaefaaW.PrintMore
set_option linter.unusedVariables false
set_option linter.unusedSimpArgs false
theorem join_ex (M0 M1 : List S56) (hM : M0.length ≤ 1000000) (hM1 : M1.length ≤ 1000000) :
  ∃ q1 q2, q1.length ≤ 3000000 ∧ Evt (fun k => spec_JoinScores.f k M0 M1 = some (q1, q2)) ∧ Evt (fun k => impl_JoinScores.f k M0 M1 = some (q1, q2)) ∧ (q2 = 0 → isScore M0 = true ∧ isScore M1 = true ∧ M0.length + M1.length ≤ 20 ∧ q1 = M0 ++ M1) := by
 have hw : wrap64 ((M0.length : Int) + (M1.length : Int)) = (M0.length : Int) + M1.length := w64 (by omega)
 by_cases h : isScore M0 = true ∧ isScore M1 = true
 ·by_cases hl : (M0.length : Int) + M1.length > 20
  ·refine ⟨[], 3, by simp, ⟨M0.length + M1.length + 3, fun k hk => ?_⟩, ⟨M0.length + M1.length + 3, fun k hk => ?_⟩, fun x => absurd x (by decide)⟩
   ·obtain ⟨k, rfl⟩ : ∃ m, k = m + 1 := ⟨k - 1, by omega⟩
    show spec_JoinScores.f (k + 1) M0 M1 = _
    unfold spec_JoinScores.f
    rw [spec_score M0 (by omega) _ (by omega), spec_score M1 (by omega) _ (by omega), h.1, h.2]
    simp only [Option.bind_some, spec_JoinScores.j0, hw, Bool.not_true, if_true]
    rw [if_neg (by decide), if_pos hl]
   ·obtain ⟨k, rfl⟩ : ∃ m, k = m + 1 := ⟨k - 1, by omega⟩
    show impl_JoinScores.f (k + 1) M0 M1 = _
    unfold impl_JoinScores.f
    rw [impl_score M0 (by omega) _ (by omega), impl_score M1 (by omega) _ (by omega), h.1, h.2]
    simp only [Option.bind_some, impl_JoinScores.j0, hw, Bool.not_true, if_true]
    rw [if_neg (by decide), if_pos hl]
  ·refine ⟨M0 ++ M1, 0, by rw [List.length_append]; omega, ⟨M0.length + M1.length + 3, fun k hk => ?_⟩, ⟨M0.length + M1.length + 3, fun k hk => ?_⟩, fun _ => ⟨h.1, h.2, by omega, rfl⟩⟩
   ·obtain ⟨k, rfl⟩ : ∃ m, k = m + 1 := ⟨k - 1, by omega⟩
    show spec_JoinScores.f (k + 1) M0 M1 = _
    unfold spec_JoinScores.f
    rw [spec_score M0 (by omega) _ (by omega), spec_score M1 (by omega) _ (by omega), h.1, h.2]
    simp only [Option.bind_some, spec_JoinScores.j0, hw, Bool.not_true, if_true, List.nil_append, List.length_nil]
    rw [if_neg (by decide), if_neg hl, if_pos (by omega), if_pos (by omega)]
   ·obtain ⟨k, rfl⟩ : ∃ m, k = m + 1 := ⟨k - 1, by omega⟩
    show impl_JoinScores.f (k + 1) M0 M1 = _
    unfold impl_JoinScores.f
    rw [impl_score M0 (by omega) _ (by omega), impl_score M1 (by omega) _ (by omega), h.1, h.2]
    simp only [Option.bind_some, impl_JoinScores.j0, hw, Bool.not_true, if_true, List.nil_append, List.length_nil]
    rw [if_neg (by decide), if_neg hl, if_pos (by omega), if_pos (by omega)]
 ·refine ⟨[], 1, by simp, ⟨M0.length + M1.length + 3, fun k hk => ?_⟩, ⟨M0.length + M1.length + 3, fun k hk => ?_⟩, fun x => absurd x (by decide)⟩
  ·obtain ⟨k, rfl⟩ : ∃ m, k = m + 1 := ⟨k - 1, by omega⟩
   show spec_JoinScores.f (k + 1) M0 M1 = _
   unfold spec_JoinScores.f
   rw [spec_score M0 (by omega) _ (by omega), spec_score M1 (by omega) _ (by omega)]
   simp only [Option.bind_some, spec_JoinScores.j0]
   cases h0 : isScore M0 <;> cases h1 : isScore M1 <;> first | rfl | exact absurd ⟨h0, h1⟩ h
  ·obtain ⟨k, rfl⟩ : ∃ m, k = m + 1 := ⟨k - 1, by omega⟩
   show impl_JoinScores.f (k + 1) M0 M1 = _
   unfold impl_JoinScores.f
   rw [impl_score M0 (by omega) _ (by omega), impl_score M1 (by omega) _ (by omega)]
   simp only [Option.bind_some, impl_JoinScores.j0]
   cases h0 : isScore M0 <;> cases h1 : isScore M1 <;> first | rfl | exact absurd ⟨h0, h1⟩ h
end Go.Proofs.Ytigkgihnijaefaa.F
namespace Go.Proofs.Ytigkgihnijaefaa.F
open Go.RowKit Go.Proofs.YtigkgihnijaefaaW.PrintWords Go.Proofs.YtigkgihnijaefaaW.PrintLast Go.Proofs.YtigkgihnijaefaaW.PrintMore
attribute [local go_sem] max2_int min2_int max_two min_two max_three min_three max_four min_four   -- for this text's walks alone
set_option linter.unusedVariables false
set_option linter.unusedSimpArgs false
def spec_l07Time.l0 : Nat → List (S56) → Int → Int → Int → Int → Option (Int)
 | 0, _, _, _, _, _ => none
 | k + 1, x0, x1, x2, x7, x8 => if x8 < x1 then (if 0 ≤ x8 then (if x8 < (x0.length : Int) then (spec_l07Time.l0 k x0 x1 x2 (wrap64 (x7 + (wrap64 (((rd_T56 x0 x8).f0) * ((rd_T56 x0 x8).f1))))) (wrap64 (x8 + 1))) else (none)) else (none)) else (if 0 ≤ x1 then (if x1 < (x0.length : Int) then (some (wrap64 (x7 + (wrap64 (x2 * ((rd_T56 x0 x1).f1)))))) else (none)) else (none))
def spec_l07Time.f (k : Nat) (l0 : List (S56)) (a1 : Int) (a2 : Int) : Option (Int) := spec_l07Time.l0 k l0 a1 a2 0 0
theorem spec_l07Time.mono_l : ∀ k, (∀ y0 y1 y2 y3 y4, LeO (spec_l07Time.l0 k y0 y1 y2 y3 y4) (spec_l07Time.l0 (k + 1) y0 y1 y2 y3 y4))
 | 0 => fun _ _ _ _ _ r h => by simp [spec_l07Time.l0] at h
 | k + 1 => by
  have ih0 := spec_l07Time.mono_l k
  ·intro y0 y1 y2 y3 y4
   unfold spec_l07Time.l0
   repeat' first
   | (with_reducible exact ih0 _ _ _ _ _)
   | (with_reducible exact LeO.refl _)
   | (with_reducible exact LeO.none _)
   | (with_reducible refine LeO.ite ?_ ?_)
   | (with_reducible refine LeO.bind ?_ (fun _ => ?_))
   | exact ih0 _ _ _ _ _
   | exact LeO.none _
   | refine LeO.ite ?_ ?_
   | refine LeO.bind ?_ (fun _ => ?_)
theorem spec_l07Time.mono : ∀ a0 a1 a2 k, LeO (spec_l07Time.f k a0 a1 a2) (spec_l07Time.f (k + 1) a0 a1 a2) := by
 intro a0 a1 a2 k
 have ih0 := spec_l07Time.mono_l k
 unfold spec_l07Time.f
 repeat' first
   | (with_reducible exact ih0 _ _ _ _ _)
   | (with_reducible exact LeO.refl _)
   | (with_reducible exact LeO.none _)
   | (with_reducible refine LeO.ite ?_ ?_)
   | (with_reducible refine LeO.bind ?_ (fun _ => ?_))
   | exact ih0 _ _ _ _ _
   | exact LeO.none _
   | refine LeO.ite ?_ ?_
   | refine LeO.bind ?_ (fun _ => ?_)
set_option maxHeartbeats 8000000 in
set_option maxRecDepth 100000 in
theorem spec_l07Time.calls (k : Nat) (A0 : Option Addr) (c0 : Nat) (l0 : List (S56)) (a1 : Int) (a2 : Int) (r : Int) (w : World) (hr0 : Kd.C k56 w A0 l0.length l0) (hc0 : l0.length ≤ c0) (h : spec_l07Time.f k l0 a1 a2 = some r) :
  Calls Try.prog 47 #[.slice A0 l0.length c0, .int .i64 a1, .int .i64 a2] w fun e w' => e = .returned (.int .i64 r) ∧ Drawn0 w w' := by
 have HR0 := Aside0.mk hr0
 have HC0 := Aside0.mk hc0
 clear hr0 hc0
 have H : (spec_l07Time.l0 k l0 a1 a2 0 0) = some r := h
 clear h
 have H' := Aside0.mk H
 clear H
 go_enter Try.func47, Try.ntmps47
 go_wp2
 repeat (go_quiet (fail); try go_wp2)
 go_loopg [7, 8] k (fun kq v7 v8 w' => ∃ (x7_1 : Int) (x8_1 : Int), v7 = .int .i64 x7_1 ∧ v8 = .int .i64 x8_1 ∧ Aside0 (spec_l07Time.l0 kq l0 a1 a2 x7_1 x8_1 = some r) ∧ Aside0 (kq ≤ k) ∧ Drawn0 w w')
 case atStart => exact ⟨(0), (0), (by first | rfl | (simp; done) | (simp [*]; done)), (by first | rfl | (simp; done) | (simp [*]; done)), H', ⟨Nat.le_refl _⟩, by repeat (first | exact Drawn0.refl _ | apply Drawn0.step)⟩
 case round =>
  clear H'
  try clear p2
  obtain ⟨x7_1, x8_1, rfl, rfl, HA, HK1, ⟨m1, rfl⟩⟩ := hrel
  cases gk with
  | zero => exact absurd HA.out (by simp [spec_l07Time.l0])
  | succ k1 =>
   have H := HA.out
   clear HA
   simp only [spec_l07Time.l0] at H
   by_cases c4 : x8_1 < a1
   ·rw [if_pos c4] at H
    have c4b0 : decide (x8_1 < a1) = true := decide_eq_true c4
    clear c4
    by_cases c5 : 0 ≤ x8_1
    ·rw [if_pos c5] at H
     have c5b0 : decide (0 ≤ x8_1) = true := decide_eq_true c5
     clear c5
     by_cases c6 : x8_1 < (l0.length : Int)
     ·rw [if_pos c6] at H
      have c6b0 : decide (x8_1 < (l0.length : Int)) = true := decide_eq_true c6
      clear c6
      have H' := Aside0.mk H
      clear H
      have p332 : 0 ≤ (x8_1 : Int) := of_decide_eq_true (by first | (with_reducible assumption) | assumption)
      have q332 : x8_1 < (l0.length : Int) := of_decide_eq_true (by first | (with_reducible assumption) | assumption)
      obtain ⟨ad332, e332, hx332_0, hx332_1⟩ := at_T56 HR0.out x8_1 p332 q332
      cases e332
      replace p332 := eq_true p332
      replace q332 := eq_true q332
      have p333 : 0 ≤ (x8_1 : Int) := of_decide_eq_true (by first | (with_reducible assumption) | assumption)
      have q333 : x8_1 < (l0.length : Int) := of_decide_eq_true (by first | (with_reducible assumption) | assumption)
      obtain ⟨ad333, e333, hx333_0, hx333_1⟩ := at_T56 HR0.out x8_1 p333 q333
      obtain rfl : ad332 = ad333 := (by injection e333)
      replace p333 := eq_true p333
      replace q333 := eq_true q333
      go_wp2
      repeat (go_quiet (fail); try go_wp2)
      go_roundg k1
      case measure => have := HK1.out; omega
      case rel => exact ⟨(wrap64 (x7_1 + (wrap64 (((rd_T56 l0 x8_1).f0) * ((rd_T56 l0 x8_1).f1))))), (wrap64 (x8_1 + 1)), (by first | rfl | (simp; done) | (simp [*]; done)), (by first | rfl | (simp; done) | (simp [*]; done)), H', ⟨by have := HK1.out; omega⟩, by repeat (first | exact Drawn0.refl _ | apply Drawn0.step)⟩
     ·rw [if_neg c6] at H
      exact absurd H (by simp)
    ·rw [if_neg c5] at H
     exact absurd H (by simp)
   ·rw [if_neg c4] at H
    have c4b0 : decide (x8_1 < a1) = false := decide_eq_false c4
    clear c4
    by_cases c7 : 0 ≤ a1
    ·rw [if_pos c7] at H
     have c7b0 : decide (0 ≤ a1) = true := decide_eq_true c7
     clear c7
     by_cases c8 : a1 < (l0.length : Int)
     ·rw [if_pos c8] at H
      have c8b0 : decide (a1 < (l0.length : Int)) = true := decide_eq_true c8
      clear c8
      obtain rfl := Option.some.inj H
      have p334 : 0 ≤ (a1 : Int) := of_decide_eq_true (by first | (with_reducible assumption) | assumption)
      have q334 : a1 < (l0.length : Int) := of_decide_eq_true (by first | (with_reducible assumption) | assumption)
      obtain ⟨ad334, e334, hx334_0, hx334_1⟩ := at_T56 HR0.out a1 p334 q334
      cases e334
      replace p334 := eq_true p334
      replace q334 := eq_true q334
      go_wp2
      repeat (go_quiet (fail); try go_wp2)
      go_ret
      exact ⟨by first | rfl | (simp; done) | (simp [*]; done), by repeat (first | exact Drawn0.refl _ | apply Drawn0.step)⟩
     ·rw [if_neg c8] at H
      exact absurd H (by simp)
    ·rw [if_neg c7] at H
     exact absurd H (by simp)
end Go.Proofs.Ytigkgihnijaefaa.F
namespace Go.Proofs.Ytigkgihnijaefaa.F
open Go.RowKit Go.Proofs.YtigkgihnijaefaaW.PrintWords Go.Proofs.YtigkgihnijaefaaW.PrintLast Go.Proofs.YtigkgihnijaefaaW.PrintMore
set_option linter.unusedVariables false
set_option linter.unusedSimpArgs false
theorem impl_time {xs : List S56} (h : isScore xs = true) (bar : Nat) (beat : Int) (hb : bar < xs.length ∨ (bar = xs.length ∧ beat = 0)) (h0 : 0 ≤ beat ∧ beat ≤ 16) (k : Nat) (hk : bar < k) : impl_beatTime.f k xs (bar : Int) beat = some (tm xs bar + beat * ln_at xs bar) := by
 have hs := isScore_true h
 have hlen : (xs.take bar).length = bar := by rw [List.length_take]; omega
 unfold impl_beatTime.f
 rw [if_pos (by omega), if_pos (by omega), Int.toNat_natCast]
 simp only [Option.bind_some]
 rw [hlen]
 refine fold_loop (f := fun k i s => impl_beatTime.l0 k xs (bar : Int) beat s (xs.take bar) (bar : Int) (i : Int)) (step := fun j s => s + bt_at xs j * ln_at xs j) (I := fun i s => s = tm xs i) (e := fun s => some (s + beat * ln_at xs bar)) bar (fun k i s hi hI => ?_) (fun i s hi hI => ?_) (fun k s hI => ?_) bar k 0 0 (by omega) (by omega) rfl hk
 ·have h1 := tm_le h i (by omega)
  have h2 := prod_le (hs.2.2 i (by omega))
  show impl_beatTime.l0 (k + 1) xs (bar : Int) beat s (xs.take bar) (bar : Int) (i : Int) = impl_beatTime.l0 k xs (bar : Int) beat (s + bt_at xs i * ln_at xs i) (xs.take bar) (bar : Int) ((i + 1 : Nat) : Int)
  simp only [impl_beatTime.l0]
  rw [if_pos (by omega), if_pos (by omega), if_pos (by rw [hlen]; omega), rd_bar, getD_take _ _ _ _ hi]
  show impl_beatTime.l0 k xs (bar : Int) beat (wrap64 (s + wrap64 (bt_at xs i * ln_at xs i))) (xs.take bar) (bar : Int) (wrap64 ((i : Int) + 1)) = _
  rw [w64 (n := bt_at xs i * ln_at xs i) (by omega), w64 (n := s + _) (by omega), w64 (by omega)]
  rfl
 ·show s + bt_at xs i * ln_at xs i = tm xs (i + 1)
  rw [tm_succ, hI]
 ·have h1 := tm_le h bar (by omega)
  show impl_beatTime.l0 (k + 1) xs (bar : Int) beat s (xs.take bar) (bar : Int) (bar : Int) = some (s + beat * ln_at xs bar)
  simp only [impl_beatTime.l0]
  rw [if_neg (by omega)]
  by_cases hp : beat > 0
  ·have hlt : bar < xs.length := by omega
   have hl := hs.2.2 bar hlt
   have hb2 : 0 ≤ beat * ln_at xs bar ∧ beat * ln_at xs bar ≤ 80000 := by
    have h1 : 0 * ln_at xs bar ≤ beat * ln_at xs bar := Int.mul_le_mul_of_nonneg_right h0.1 (by omega)
    have h2 : beat * ln_at xs bar ≤ 16 * ln_at xs bar := Int.mul_le_mul_of_nonneg_right h0.2 (by omega)
    omega
   rw [if_pos hp, if_pos (by omega), if_pos (by omega), rd_bar]
   show some (wrap64 (s + wrap64 (beat * ln_at xs bar))) = _
   rw [w64 (n := beat * ln_at xs bar) (by omega), w64 (by omega)]
  ·have e : beat = 0 := by omega
   rw [if_neg hp, e, Int.zero_mul, Int.add_zero]
end Go.Proofs.Ytigkgihnijaefaa.F
namespace Go.Proofs.Ytigkgihnijaefaa.F
open Go.RowKit Go.Proofs.YtigkgihnijaefaaW.PrintWords Go.Proofs.YtigkgihnijaefaaW.PrintLast Go.Proofs.YtigkgihnijaefaaW.PrintMore
set_option linter.unusedVariables false
set_option linter.unusedSimpArgs false
theorem impl_send {xs : List S56} (h : isScore xs = true) (k : Nat) (hk : xs.length + 2 ≤ k) : impl_ScoreEnd.f k xs = some (tm xs xs.length, 0) := by
 have hs := isScore_true h
 unfold impl_ScoreEnd.f impl_scoreEnd.f
 rw [impl_score xs (by omega) k (by omega), h]
 simp only [Option.bind_some, if_true]
 rw [impl_time h xs.length 0 (.inr ⟨rfl, rfl⟩) (by omega) k (by omega)]
 simp only [Option.bind_some, Int.zero_mul, Int.add_zero]
theorem isScore_intro {xs : List S56} (h1 : 1 ≤ xs.length) (h2 : xs.length ≤ 20) (h : ∀ i, i < xs.length → 1 ≤ bt_at xs i ∧ bt_at xs i ≤ 16 ∧ 100 ≤ ln_at xs i ∧ ln_at xs i ≤ 5000) : isScore xs = true := by
 unfold isScore
 rw [Bool.and_eq_true, allF_true, inB_true]
 refine ⟨fun i _ hi => ?_, by omega, by omega⟩
 have := h i (by omega)
 unfold barAt
 rw [Bool.and_eq_true, inB_true, inB_true]
 omega
theorem getD_left {α : Type} (a b : List α) (z : α) (i : Nat) (h : i < a.length) : (a ++ b).getD i z = a.getD i z := by
 rw [List.getD_eq_getElem?_getD, List.getD_eq_getElem?_getD, List.getElem?_append_left h]
theorem getD_right {α : Type} (a b : List α) (z : α) (i : Nat) : (a ++ b).getD (a.length + i) z = b.getD i z := by
 rw [List.getD_eq_getElem?_getD, List.getD_eq_getElem?_getD, List.getElem?_append_right (by omega), Nat.add_sub_cancel_left]
theorem tm_left (a b : List S56) : ∀ i, i ≤ a.length → tm (a ++ b) i = tm a i
 | 0, _ => rfl
 | i + 1, h => by
  rw [tm_succ, tm_succ, tm_left a b i (by omega)]
  unfold bt_at ln_at
  rw [getD_left a b _ i (by omega)]
theorem tm_right (a b : List S56) : ∀ i, tm (a ++ b) (a.length + i) = tm a a.length + tm b i
 | 0 => by rw [Nat.add_zero, tm_left a b _ (Nat.le_refl _)]; unfold tm foldF; omega
 | i + 1 => by
  rw [← Nat.add_assoc, tm_succ, tm_succ, tm_right a b i]
  unfold bt_at ln_at
  rw [getD_right a b _ i]
  omega
theorem isScore_join {a b : List S56} (ha : isScore a = true) (hb : isScore b = true) (h : a.length + b.length ≤ 20) : isScore (a ++ b) = true := by
 have sa := isScore_true ha
 have sb := isScore_true hb
 refine isScore_intro (by rw [List.length_append]; omega) (by rw [List.length_append]; omega) fun i hi => ?_
 rw [List.length_append] at hi
 by_cases c : i < a.length
 ·have := sa.2.2 i c
  unfold bt_at ln_at at this ⊢
  rw [getD_left a b _ i c]
  exact this
 ·have := sb.2.2 (i - a.length) (by omega)
  unfold bt_at ln_at at this ⊢
  rw [show i = a.length + (i - a.length) by omega, getD_right a b _ (i - a.length)]
  exact this
end Go.Proofs.Ytigkgihnijaefaa.F
namespace Go.Proofs.Ytigkgihnijaefaa.F
open Go.RowKit Go.Proofs.YtigkgihnijaefaaW.PrintWords Go.Proofs.YtigkgihnijaefaaW.PrintLast Go.Proofs.YtigkgihnijaefaaW.PrintMore
set_option linter.unusedVariables false
set_option linter.unusedSimpArgs false
theorem like_bars (xs : List S56) (hx : xs.length ≤ 4000000) (k : Nat) (hk : xs.length < k) : laws_likeBars.f k xs xs = some true := by
 have loop : ∀ d i k, xs.length - i = d → i ≤ xs.length → d < k → laws_likeBars.l0 k xs xs (i : Int) = some true := by
  intro d
  induction d with
  | zero =>
   intro i k hd hi hk
   obtain ⟨k, rfl⟩ : ∃ m, k = m + 1 := ⟨k - 1, by omega⟩
   simp only [laws_likeBars.l0]
   rw [if_neg (by omega)]
  | succ d ih =>
   intro i k hd hi hk
   obtain ⟨k, rfl⟩ : ∃ m, k = m + 1 := ⟨k - 1, by omega⟩
   simp only [laws_likeBars.l0]
   rw [if_pos (by omega), if_pos (by omega), if_pos (by omega), w64 (by omega)]
   simp only [BEq.rfl, Bool.not_true, Bool.or_self, Bool.false_eq_true, if_false]
   exact ih (i + 1) k (by omega) (by omega) (by omega)
 unfold laws_likeBars.f
 rw [if_pos rfl]
 exact loop xs.length 0 k (by omega) (by omega) hk
end Go.Proofs.Ytigkgihnijaefaa.F
namespace Go.Proofs.Ytigkgihnijaefaa.F
open Go.RowKit Go.Proofs.YtigkgihnijaefaaW.PrintWords Go.Proofs.YtigkgihnijaefaaW.PrintLast Go.Proofs.YtigkgihnijaefaaW.PrintMore
set_option linter.unusedVariables false
set_option linter.unusedSimpArgs false
theorem strd_at (xs : List S56) (p : Int) : ∀ n i, i < n → (strd xs p n).getD i z56 = (⟨bt_at xs i, nst (ln_at xs i) p⟩ : S56)
 | 0, i, h => absurd h (by omega)
 | n + 1, i, h => by
  unfold strd
  by_cases c : i < n
  ·rw [getD_left _ _ _ i (by rw [strd_len]; exact c)]
   exact strd_at xs p n i c
  ·have e : i = (strd xs p n).length + 0 := by rw [strd_len]; omega
   have e2 : i = n := by omega
   rw [e, getD_right, ← e, e2]
   rfl
theorem nst_is {b p : Int} (hp : p = 100 ∨ p = 200) : nst b p * 100 = b * p := by
 unfold nst
 rcases hp with rfl | rfl <;> omega
theorem tm_strd (xs : List S56) {p : Int} (hp : p = 100 ∨ p = 200) (n : Nat) : ∀ i, i ≤ n → tm (strd xs p n) i * 100 = tm xs i * p
 | 0, _ => by unfold tm foldF; rw [Int.zero_mul, Int.zero_mul]
 | i + 1, h => by
  have ih := tm_strd xs hp n i (by omega)
  have e : bt_at (strd xs p n) i * ln_at (strd xs p n) i = bt_at xs i * nst (ln_at xs i) p := by
   unfold bt_at ln_at
   rw [strd_at xs p n i (by omega)]
   rfl
  rw [tm_succ, tm_succ, e, Int.add_mul, Int.add_mul, ih, Int.mul_assoc (bt_at xs i) (nst (ln_at xs i) p) 100, nst_is hp, Int.mul_assoc]
theorem pure_FnStretched : laws_FnStretched.Pure := by
 intro c _ _ hb
 by_cases big : (c.length : Int) > 4096
 ·refine ⟨0, ?_⟩
  unfold laws_FnStretched.f laws_big.f
  simp only [Option.bind_some, decide_eq_true big, if_true]
 have hc : Code c := code_of big hb
 obtain ⟨z, e0, h0⟩ := from_ok hc
 obtain ⟨xs, a1, s1, e1, h1, lx⟩ := score_draw hc h0
 obtain ⟨r2, a2, s2, e2, h2, _⟩ := next_ok hc h1 151 (by omega)
 obtain ⟨p, a3, s3, e3, h3, _⟩ := pick_ok hc h2 [wrap64 (50 + r2), 50, 200, 49, 201, 100] (by simp) (by simp)
 obtain ⟨ys, a4, s4, e4, h4, ly⟩ := score_draw hc h1
 have d1 : ∀ k, 100 ≤ k → spec_DrawStretchScore.f k c = some (xs, p) := fun k hk => by
  unfold spec_DrawStretchScore.f
  simp only [e0 k (by omega), e1 k (by omega), e2, e3, Option.bind_some]
 have d2 : ∀ k, 100 ≤ k → spec_DrawJoinScores.f k c = some (xs, ys) := fun k hk => by
  unfold spec_DrawJoinScores.f
  simp only [e0 k (by omega), e1 k (by omega), e4 k (by omega), Option.bind_some]
 obtain ⟨q, bad, lq, ⟨K1, f1⟩, ⟨K2, f2⟩, hq⟩ := stretch_ex xs p (by omega)
 obtain ⟨j, one, lj, ⟨K3, f3⟩, ⟨K4, f4⟩, hj⟩ := join_ex xs ys (by omega) (by omega)
 obtain ⟨k, hk⟩ : ∃ k, k = K1 + K2 + K3 + K4 + 8000000 := ⟨_, rfl⟩
 refine ⟨k + 2, ?_⟩
 unfold laws_FnStretched.f laws_big.f
 simp only [Option.bind_some, decide_eq_false big, Bool.false_eq_true, if_false, d1 (k + 2) (by omega), d2 (k + 2) (by omega), show spec_StretchScore.f (k + 2) xs p = _ from f1 (k + 2) (by omega), show impl_StretchScore.f (k + 2) xs p = _ from f2 (k + 2) (by omega), show spec_JoinScores.f (k + 2) xs ys = _ from f3 (k + 2) (by omega), show impl_JoinScores.f (k + 2) xs ys = _ from f4 (k + 2) (by omega), if_true, like_bars q (by omega) (k + 2) (by omega), like_bars j (by omega) (k + 2) (by omega), Bool.not_true]
 have last : laws_FnStretched.j1 (k + 1) xs p q bad = some true := by
  simp only [laws_FnStretched.j1]
  by_cases c0 : bad = 0
  ·obtain ⟨g1, g2, g3, g4⟩ := hq c0
   have hs := isScore_true g1
   have ql : q.length = xs.length := by rw [g3, strd_len]
   rw [if_pos c0, impl_send g1 k (by omega), impl_send g4 k (by omega)]
   simp only [Option.bind_some, if_true]
   rw [if_pos (by omega)]
   have t1 := tm_le g1 xs.length (Nat.le_refl _)
   have t2 := tm_le g4 q.length (Nat.le_refl _)
   have fin : ∀ hp : p = 100 ∨ p = 200, ((wrap64 (tm q q.length * 100)) == (wrap64 (tm xs xs.length * p))) = true := fun hp => by
    have e := tm_strd xs hp xs.length xs.length (Nat.le_refl _)
    rw [← g3] at e
    rw [ql, e, beq_iff_eq]
   by_cases p1 : p = 100
   ·rw [if_pos p1, fin (.inl p1)]
   ·rw [if_neg p1]
    by_cases p2 : p = 200
    ·rw [if_pos p2, fin (.inr p2)]
    ·rw [if_neg p2]
  ·rw [if_neg c0]
 show laws_FnStretched.j0 (k + 1 + 1) xs p q bad xs ys j one false = _
 simp only [laws_FnStretched.j0, Bool.false_eq_true, if_false]
 by_cases c0 : one = 0
 ·obtain ⟨g1, g2, g3, g4⟩ := hj c0
  have hs1 := isScore_true g1
  have hs2 := isScore_true g2
  have g5 := isScore_join g1 g2 g3
  rw [if_pos c0, g4, impl_send g1 (k + 1) (by omega), impl_send g2 (k + 1) (by omega), impl_send g5 (k + 1) (by rw [List.length_append]; omega)]
  simp only [Option.bind_some, if_true]
  have t1 := tm_le g1 xs.length (Nat.le_refl _)
  have t2 := tm_le g2 ys.length (Nat.le_refl _)
  rw [w64 (by omega), if_pos (by rw [List.length_append, tm_right])]
  exact last
 ·rw [if_neg c0]
  exact last
end Go.Proofs.Ytigkgihnijaefaa.F
namespace Go.Proofs.Ytigkgihnijaefaa.Pure
theorem FnStretched : Go.Proofs.Ytigkgihnijaefaa.F.laws_FnStretched.Pure := Go.Proofs.Ytigkgihnijaefaa.F.pure_FnStretched
end Go.Proofs.Ytigkgihnijaefaa.Pure
namespace Go.Proofs.Ytigkgihnijaefaa.F
end Go.Proofs.Ytigkgihnijaefaa.F
