/- The law FnExactNearestMix holds for every input: it returns true, and each argument reads afterwards as it read before. No conditions. -/
import Derived.Test.YtgboijlipcimkaaRows
import Derived.Test.YtgboijlipcimkaaGcFnExactNearestMix
import Derived.Test.YtgboijlipcimkaaGlFnExactNearestMix
import Derived.Test.YtgboijlipcimkaaGpFnExactNearestMix
import Derived.WalkKit
import Derived.ProofKit
import Derived.OpenShut
import Derived.ShutString
import Derived.ChangeOld
import Derived.Below
import Derived.SizedLaws
namespace Go.Proofs.Ytgboijlipcimkaa.fnExactNearestMix
open Go.ChangeShapes Go.WideShapes Go.ChangeAt Go.RowKit Go.Proofs.Ytgboijlipcimkaa.F Go.Proofs.YtgboijlipcimkaaW.PrintWords
open Go.ChangeMaps (open_string shut_string)
set_option linter.unusedVariables false
theorem own : ownKnob Try.prog.godebug = none := by kernel_rfl
theorem laidOut : laidOutB Try.prog = true := by kernel_rfl
set_option maxRecDepth 100000 in
theorem lifted (os : Os) (started : os.Started) (H : Type) (enc : TypeId × Value → H) :
    ReturnsInHanded {} Try.checked os 3 .any (Rows.fnExactNearestMixSpec.pre6 enc Try.prog Try.f3 Rows.fnExactNearestMixRow.domain false) (Rows.fnExactNearestMixSpec.post enc Try.prog Try.f3 false true false false) := by
  refine returnsInHanded_of_change_sized (C := Try.checked) own started (by kernel_rfl) Try.func3
    (ChangeSpec.witness6 (enc := enc) (C := Try.checked) false ⟨#[], #[.slice none 0 0, .int .i64 0], []⟩ 8 (by kernel_rfl) (by kernel_rfl) (by kernel_rfl) (by kernel_rfl)) ?_
  intro W base args ds gs before hval0 hW hcnd hsz0 _
  have hval : ∀ (j : Nat) t v, Try.f3.params[j]? = some t → args[j]? = some v → Value.okWide Try.prog W .any base t v := hval0
  have hW' := hW
  obtain ⟨p, q, hA0, hV, rfl, hfz, hnd⟩ := hW
  have hA : DataW.TrodAll enc Try.prog W 0 (fun _ => true) true Try.f3.params.toList args.toList ds p := hA0
  rw [Try.params3] at hA hval
  obtain ⟨v0, vs0, d0, ds0, p0, q0, hargs, rfl, rfl, h0, r0⟩ := trodAll_cons hA
  obtain ⟨v1, vs1, d1, ds1, p1, q1, rfl, rfl, rfl, h1, r1⟩ := trodAll_cons r0
  obtain ⟨rfl, rfl, rfl⟩ := trodAll_nil r1
  obtain rfl : args = #[v0, v1] := by cases args; simp_all
  obtain ⟨rfl, rfl⟩ := trodVars_none hV
  have k0 := h0
  have lt0 : ∀ x ∈ p0, x.block < W.heap.size := by obtain ⟨m, hm⟩ := k0; exact DataW.trod_lt m _ _ _ hm
  obtain ⟨A0, n0, c0, rfl⟩ := okWide_slice Try.underlying22 (hval 0 22 v0 rfl rfl)
  obtain ⟨l0, rfl, lc0, lm0, hC0, hP0⟩ : ∃ xs : List Int, n0 = xs.length ∧ xs.length ≤ c0 ∧ c0 ≤ maxLen ∧ Kd.C (Kd.int .i64) W A0 xs.length xs ∧ ∀ x ∈ xs, I64 x := by
    obtain ⟨fuel, hf⟩ := h0
    obtain ⟨A, c, xs, hcs, h1, h2, h3, h4⟩ := open_rows (Kd.int .i64) (Pr := I64) Try.underlying22 (by kernel_rfl) (fun f_ c_ y_ hy_ => by obtain ⟨z_, rfl, _, hz_⟩ := DataW.trod_int Try.underlying2 hy_; exact ⟨z_, rfl, I64_of hz_⟩) hf
    simp [Value.cells] at hcs
    obtain ⟨rfl, rfl, rfl⟩ := hcs
    exact ⟨xs, rfl, h1, h2, h3, h4⟩
  obtain ⟨a1, rfl, rfl, rfl, w1⟩ := open_int Try.underlying2 (hval 1 2 v1 rfl rfl) h1
  obtain ⟨k, hk⟩ := pure_FnExactNearestMix l0 a1 (by omega) hP0 (I64_of w1)
  refine (law_FnExactNearestMix k A0 c0 l0 a1 W hC0 lc0 hk).mono fun e W' ⟨he, bel⟩ => ?_
  subst he
  exact ⟨_, rfl, _, _, _, [], _, [], hW', trodAll_mk1 (shut_bool Try.underlying4 _), (trodAll_cons_mk (Below.trod laidOut (by kernel_rfl) (of_decide_eq_true (by kernel_rfl)) k0 bel lt0) (trodAll_cons_mk (shut_int Try.underlying2 w1) trodAll_mk0)), rfl, bel.frame _, fun h => by cases h⟩
theorem over : Rows.fnExactNearestMixRow.holds Try.pinned (OpenSpec.ofChange Rows.fnExactNearestMixSpec) :=
  OpenClaim.holds_of_wide 3 Try.f3 rfl rfl rfl rfl rfl rfl rfl ⟨rfl, rfl, rfl, rfl, rfl⟩ rfl rfl rfl rfl rfl (by kernel_rfl) Try.func3 GcFnExactNearestMix.closed
    (of_decide_eq_true (by kernel_rfl)) (by unfold Func.isWrapper; first | (rw [if_pos (by decide +kernel)]; kernel_rfl) | (rw [if_neg (by decide +kernel)]; exact ⟨rfl, rfl⟩))
    (fun os started H enc _ => lifted os started H enc)
theorem proved : Rows.FnExactNearestMixSaid := over
end Go.Proofs.Ytgboijlipcimkaa.fnExactNearestMix
namespace Go.Proofs.Ytgboijlipcimkaa
/-- The row, under a short name, for the claim. -/
theorem fnExactNearestMix_holds : Rows.FnExactNearestMixSaid := fnExactNearestMix.proved
#print axioms fnExactNearestMix_holds
end Go.Proofs.Ytgboijlipcimkaa
