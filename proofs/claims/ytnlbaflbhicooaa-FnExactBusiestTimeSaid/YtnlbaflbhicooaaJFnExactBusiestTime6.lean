import Derived.Test.YtnlbaflbhicooaaJFnExactBusiestTime5
import Derived.Below
import Derived.Deep.Draws
import Derived.Deep.AppendLies
import Derived.Maps.AppendAt
import Derived.OwnWalk
import Derived.Laws.BytesArg
import Derived.Laws.MakeOwn
import Derived.Laws.OwnMore
import Derived.Deep.OwnRows
import Derived.Tactics
import Derived.Lib.ConvBytes
import Derived.Laws.Slices
import Derived.WalkKit
import Derived.KernelRfl
import Derived.RowKit3
import Derived.Deep.LoopGhost
import Derived.Deep.QuietTactic
import Derived.BigQuiet
import Derived.WideLaws
import Derived.Deep.DeepCutAuto
import Derived.Deep.CutBlock
import Derived.Deep.RegionHeld3
import Derived.Laws.Rows
import Derived.Lib.AppendStr
import Derived.ArgAppend
import Derived.Laws.IdiomCopy
import Derived.RowKit
import Derived.OrdersHeld
import Derived.Laws.BitsLemmas
import Derived.Laws.StructEq
import Derived.Test.YtnlbaflbhicooaaProg
import Derived.ChangeSlices
import Derived.OpenShut
import Derived.Laws.Cover1
import Derived.Test.YtnlbaflbhicooaaRows
import Derived.Test.YtnlbaflbhicooaaGcFnExactBusiestTime
import Derived.ProofKit
import Derived.ShutString
import Derived.ChangeOld
import Derived.SizedLaws
namespace Go.Proofs.Ytnlbaflbhicooaa.F
open Go.RowKit Go.Proofs.YtnlbaflbhicooaaW.PrintWords Go.Proofs.YtnlbaflbhicooaaW.PrintLast Go.Proofs.YtnlbaflbhicooaaW.PrintMore
set_option linter.unusedVariables false
set_option linter.unusedSimpArgs false
theorem main_FnExactBusiestTime (A : List S108) (B : List S92) (C : List S43) (s : Int) (hA : A.length ≤ 1000000) (hB : B.length ≤ 1000000) (hC : C.length ≤ 1000000) (hS : ∀ x ∈ B, x.f0.size ≤ 1000000) (_ : ∀ x ∈ C, x.f2.size ≤ 1000000) (_ : I64 s) : ∃ q1 q2 q3, Evt (fun k => spec_BusiestTime.f k A B C s = some (q1, q2, q3)) ∧ Evt (fun k => impl_BusiestTime.f k A B C s = some (q1, q2, q3)) := by
 obtain ⟨q1, q2, q3, a, b, _⟩ := busiest_ex 1000000 A B C hA hB hC ⟨Nat.le_refl _, hS⟩ s
 exact ⟨q1, q2, q3, a, b⟩
theorem pure_FnExactBusiestTime : Pure_FnExactBusiestTime := by
 intro l0_0 l0_1 l0_2 a1 n0_0 p0_0 n0_1 p0_1 n0_2 p0_2 b1
 obtain ⟨s1, zs1, z1⟩ := sz_Show l0_0 l0_1 l0_2 n0_0 n0_1 (fun x hx => (p0_1 x hx).1) n0_2 (fun x hx => (p0_2 x hx).2.2.1)
 rcases z1 with z1 | ⟨z1, z1b, u0, ⟨u1, v1⟩, u2, v2⟩
 ·obtain ⟨k, hk⟩ := zs1.ex
  exact ⟨k, s1, hk, Or.inl z1⟩
 obtain ⟨L0_0, t0_0, ne0_0, tk0_0, ln0_0, le0_0, rm0_0, jn0_0, fa0_0, ta0_0⟩ := to_BarS l0_0 (by omega)
 have eq0_0 := eq_BarS L0_0 (by omega)
 obtain ⟨L0_1, t0_1, ne0_1, tk0_1, ln0_1, le0_1, rm0_1, jn0_1, fa0_1, ta0_1⟩ := to_ArticleS l0_1 (by omega)
 have eq0_1 := eq_ArticleS L0_1 (by omega)
 obtain ⟨L0_2, t0_2, ne0_2, tk0_2, ln0_2, le0_2, rm0_2, jn0_2, fa0_2, ta0_2⟩ := to_CueS l0_2 (by omega)
 have eq0_2 := eq_CueS L0_2 (by omega)
 have fu0 := full_Show fa0_0 fa0_1 fa0_2
 have to0 := bare_Show ta0_0 ta0_1 ta0_2
 obtain ⟨q1, q2, q3, sp, im⟩ := main_FnExactBusiestTime (l0_0.map conv_BarS) (l0_1.map conv_ArticleS) (l0_2.map conv_CueS) a1 (by rw [ln0_0]; omega) (by rw [ln0_1]; omega) (by rw [ln0_2]; omega) (fun x hx => by obtain ⟨y, hy, rfl⟩ := List.mem_map.1 hx; exact v1 y hy) (fun x hx => by obtain ⟨y, hy, rfl⟩ := List.mem_map.1 hx; exact v2 y hy) b1
 obtain ⟨k, hzs1, heq0_0, heq0_1, heq0_2, hfu0, hto0, hsp, him⟩ := (zs1.and (eq0_0.and (eq0_1.and (eq0_2.and (fu0.and (to0.and (sp.and im))))))).ex
 exact ⟨k, ⟨s1, hzs1, Or.inr ⟨z1, ⟨L0_0, _, t0_0, L0_1, _, t0_1, L0_2, _, t0_2, q1, q2, q3, { ne0_0 := ne0_0, tk0_0 := tk0_0, ln0_0 := ln0_0, rm0_0 := rm0_0, jn0_0 := jn0_0, eq0_0 := heq0_0, ne0_1 := ne0_1, tk0_1 := tk0_1, ln0_1 := ln0_1, rm0_1 := rm0_1, jn0_1 := jn0_1, eq0_1 := heq0_1, ne0_2 := ne0_2, tk0_2 := tk0_2, ln0_2 := ln0_2, rm0_2 := rm0_2, jn0_2 := jn0_2, eq0_2 := heq0_2, fu0 := hfu0, to0 := hto0, sp := hsp, im := him }⟩⟩⟩⟩
end Go.Proofs.Ytnlbaflbhicooaa.F
namespace Go.Proofs.Ytnlbaflbhicooaa.fnExactBusiestTime
open Go.ChangeShapes Go.WideShapes Go.ChangeAt Go.RowKit Go.Proofs.Ytnlbaflbhicooaa.F Go.Proofs.YtnlbaflbhicooaaW.PrintWords
open Go.ChangeMaps (open_string shut_string)
set_option linter.unusedVariables false
theorem own : ownKnob Try.prog.godebug = none := by kernel_rfl
theorem laidOut : laidOutB Try.prog = true := by kernel_rfl
set_option maxRecDepth 100000 in
theorem lifted (os : Os) (started : os.Started) (H : Type) (enc : TypeId × Value → H) :
  ReturnsInHanded {} Try.checked os 10 .any (Rows.fnExactBusiestTimeSpec.pre6 enc Try.prog Try.f10 Rows.fnExactBusiestTimeRow.domain false) (Rows.fnExactBusiestTimeSpec.post enc Try.prog Try.f10 false true false false) := by
 refine returnsInHanded_of_change_sized (C := Try.checked) own started Zj Try.func10
  (ChangeSpec.witness6 (enc := enc) (C := Try.checked) false ⟨#[], #[.agg #[.slice none 0 0, .slice none 0 0, .slice none 0 0], .int .i64 0], []⟩ 8 Zj Zj Zj Zj) ?_
 intro W base args ds gs before hval0 hW hcnd hsz0 _
 have hval : ∀ (j : Nat) t v, Try.f10.params[j]? = some t → args[j]? = some v → Value.okWide Try.prog W .any base t v := hval0
 have hW' := hW
 obtain ⟨p, q, hA0, hV, rfl, hfz, hnd⟩ := hW
 have hA : DataW.TrodAll enc Try.prog W 0 (fun _ => true) true Try.f10.params.toList args.toList ds p := hA0
 rw [Try.params10] at hA hval
 obtain ⟨v0, vs0, d0, ds0, p0, q0, hargs, rfl, rfl, h0, r0⟩ := trodAll_cons hA
 obtain ⟨v1, vs1, d1, ds1, p1, q1, rfl, rfl, rfl, h1, r1⟩ := trodAll_cons r0
 obtain ⟨rfl, rfl, rfl⟩ := trodAll_nil r1
 obtain rfl : args = #[v0, v1] := by cases args; simp_all
 obtain ⟨rfl, rfl⟩ := trodVars_none hV
 have k0 := h0
 have lt0 : ∀ x ∈ p0, x.block < W.heap.size := by obtain ⟨m, hm⟩ := k0; exact DataW.trod_lt m _ _ _ hm
 obtain ⟨cs0, rfl, _⟩ := okWide_struct Try.underlying26 (hval 0 26 v0 rfl rfl)
 obtain ⟨A0_0, c0_0, l0_0, A0_1, c0_1, l0_1, A0_2, c0_2, l0_2, rfl, ⟨lc0_0, lm0_0, hC0_0, hP0_0⟩, ⟨lc0_1, lm0_1, hC0_1, hP0_1⟩, ⟨lc0_2, lm0_2, hC0_2, hP0_2⟩⟩ : ∃ (A0_0 : Option Addr) (c0_0 : Nat) (l0_0 : List S110) (A0_1 : Option Addr) (c0_1 : Nat) (l0_1 : List S105) (A0_2 : Option Addr) (c0_2 : Nat) (l0_2 : List S40), cs0 = #[.slice A0_0 l0_0.length c0_0, .slice A0_1 l0_1.length c0_1, .slice A0_2 l0_2.length c0_2] ∧ (l0_0.length ≤ c0_0 ∧ c0_0 ≤ maxLen ∧ Kd.C k110 W A0_0 l0_0.length l0_0 ∧ ∀ x ∈ l0_0, Pr110 x) ∧ (l0_1.length ≤ c0_1 ∧ c0_1 ≤ maxLen ∧ Kd.C k105 W A0_1 l0_1.length l0_1 ∧ ∀ x ∈ l0_1, Pr105 x) ∧ (l0_2.length ≤ c0_2 ∧ c0_2 ≤ maxLen ∧ Kd.C k40 W A0_2 l0_2.length l0_2 ∧ ∀ x ∈ l0_2, Pr40 x) := by
  obtain ⟨fuel, hf⟩ := h0
  obtain ⟨z0_0, y0_0, x0_0, z0_1, y0_1, x0_1, z0_2, y0_2, x0_2, hcs, hp⟩ := open_V26 hf
  simp only [Value.cells] at hcs
  exact ⟨z0_0, y0_0, x0_0, z0_1, y0_1, x0_1, z0_2, y0_2, x0_2, by rw [← hcs], hp⟩
 obtain ⟨a1, rfl, rfl, rfl, w1⟩ := open_int Try.underlying2 (hval 1 2 v1 rfl rfl) h1
 obtain ⟨k, hk⟩ := pure_FnExactBusiestTime l0_0 l0_1 l0_2 a1 (by omega) hP0_0 (by omega) hP0_1 (by omega) hP0_2 (I64_of w1)
 refine (law_FnExactBusiestTime k A0_0 c0_0 l0_0 A0_1 c0_1 l0_1 A0_2 c0_2 l0_2 a1 W hC0_0 lc0_0 hC0_1 lc0_1 hC0_2 lc0_2 hk).mono fun e W' ⟨he, bel⟩ => ?_
 subst he
 exact ⟨_, rfl, _, _, _, [], _, [], hW', trodAll_mk1 (shut_bool Try.underlying4 _), (trodAll_cons_mk (Below.trod laidOut Zj (of_decide_eq_true Zj) k0 bel lt0) (trodAll_cons_mk (shut_int Try.underlying2 w1) trodAll_mk0)), rfl, bel.frame _, fun h => by cases h⟩
theorem over : Rows.fnExactBusiestTimeRow.holds Try.pinned (OpenSpec.ofChange Rows.fnExactBusiestTimeSpec) :=
 OpenClaim.holds_of_wide 10 Try.f10 rfl rfl rfl rfl rfl rfl rfl ⟨rfl, rfl, rfl, rfl, rfl⟩ rfl rfl rfl rfl rfl Zj Try.func10 GcFnExactBusiestTime.closed
  (of_decide_eq_true Zj) (by unfold Func.isWrapper; first | (rw [if_pos (by decide +kernel)]; kernel_rfl) | (rw [if_neg (by decide +kernel)]; exact ⟨rfl, rfl⟩))
  (fun os started H enc _ => lifted os started H enc)
theorem proved : Rows.FnExactBusiestTimeSaid := over
end Go.Proofs.Ytnlbaflbhicooaa.fnExactBusiestTime
namespace Go.Proofs.Ytnlbaflbhicooaa
theorem fnExactBusiestTime_holds : Rows.FnExactBusiestTimeSaid := fnExactBusiestTime.proved
#print axioms fnExactBusiestTime_holds
end Go.Proofs.Ytnlbaflbhicooaa
