/- The law FnExactScoreText holds for every input: it returns true, and each argument reads afterwards as it read before. No conditions. -/
import Derived.Test.YtfhpgeohgdfgdaaRows
import Derived.Test.YtfhpgeohgdfgdaaGlFnExactScoreText
import Derived.Test.YtfhpgeohgdfgdaaGpFnExactScoreText
import Derived.WalkKit
import Derived.ProofKit
import Derived.OpenShut
import Derived.ShutString
import Derived.ChangeOld
import Derived.Below
import Derived.SizedLaws
namespace Go.Proofs.Ytfhpgeohgdfgdaa.fnExactScoreText
open Go.ChangeShapes Go.WideShapes Go.ChangeAt Go.RowKit Go.Proofs.Ytfhpgeohgdfgdaa.F Go.Proofs.YtfhpgeohgdfgdaaW.PrintWords
open Go.ChangeMaps (open_string shut_string)
set_option linter.unusedVariables false
theorem own : ownKnob Try.prog.godebug = none := by kernel_rfl
theorem laidOut : laidOutB Try.prog = true := by kernel_rfl
set_option maxRecDepth 100000 in
theorem lifted (os : Os) (started : os.Started) (H : Type) (enc : TypeId × Value → H) :
    ReturnsInHanded {} Try.checked os 7 .any (Rows.fnExactScoreTextSpec.pre6 enc Try.prog Try.f7 Rows.fnExactScoreTextRow.domain false) (Rows.fnExactScoreTextSpec.post enc Try.prog Try.f7 false true false false) := by
  refine returnsInHanded_of_change_sized (C := Try.checked) own started (by kernel_rfl) Try.func7
    (ChangeSpec.witness6 (enc := enc) (C := Try.checked) false ⟨#[], #[.slice none 0 0], []⟩ 8 (by kernel_rfl) (by kernel_rfl) (by kernel_rfl) (by kernel_rfl)) ?_
  intro W base args ds gs before hval0 hW hcnd hsz0 _
  have hval : ∀ (j : Nat) t v, Try.f7.params[j]? = some t → args[j]? = some v → Value.okWide Try.prog W .any base t v := hval0
  have hW' := hW
  obtain ⟨p, q, hA0, hV, rfl, hfz, hnd⟩ := hW
  have hA : DataW.TrodAll enc Try.prog W 0 (fun _ => true) true Try.f7.params.toList args.toList ds p := hA0
  rw [Try.params7] at hA hval
  obtain ⟨v0, vs0, d0, ds0, p0, q0, hargs, rfl, rfl, h0, r0⟩ := trodAll_cons hA
  obtain ⟨rfl, rfl, rfl⟩ := trodAll_nil r0
  obtain rfl : args = #[v0] := by cases args; simp_all
  obtain ⟨rfl, rfl⟩ := trodVars_none hV
  have k0 := h0
  have lt0 : ∀ x ∈ p0, x.block < W.heap.size := by obtain ⟨m, hm⟩ := k0; exact DataW.trod_lt m _ _ _ hm
  obtain ⟨A0, n0, c0, rfl⟩ := okWide_slice Try.underlying22 (hval 0 22 v0 rfl rfl)
  obtain ⟨l0, rfl, lc0, lm0, hC0, hP0⟩ : ∃ xs : List S82, n0 = xs.length ∧ xs.length ≤ c0 ∧ c0 ≤ maxLen ∧ Kd.C k82 W A0 xs.length xs ∧ ∀ x ∈ xs, Pr82 x := by
    obtain ⟨fuel, hf⟩ := h0
    obtain ⟨A, c, xs, hcs, h1, h2, h3, h4⟩ := open_rows k82 (Pr := Pr82) Try.underlying22 (by kernel_rfl) (fun f_ c_ y_ hy_ => open_S82 hy_ W) hf
    simp [Value.cells] at hcs
    obtain ⟨rfl, rfl, rfl⟩ := hcs
    exact ⟨xs, rfl, h1, h2, h3, h4⟩
  obtain ⟨k, hk⟩ := pure_FnExactScoreText l0 (by omega) hP0
  refine (law_FnExactScoreText k A0 c0 l0 W hC0 lc0 hk).mono fun e W' ⟨he, bel⟩ => ?_
  subst he
  exact ⟨_, rfl, _, _, _, [], _, [], hW', trodAll_mk1 (shut_bool Try.underlying4 _), (trodAll_cons_mk (Below.trod laidOut (by kernel_rfl) (of_decide_eq_true (by kernel_rfl)) k0 bel lt0) trodAll_mk0), rfl, bel.frame _, fun h => by cases h⟩
theorem over : Rows.fnExactScoreTextRow.holds Try.pinned (OpenSpec.ofChange Rows.fnExactScoreTextSpec) :=
  OpenClaim.holds_of_wide 7 Try.f7 rfl rfl rfl rfl rfl rfl rfl ⟨rfl, rfl, rfl, rfl, rfl⟩ rfl rfl rfl rfl rfl (by kernel_rfl) Try.func7 (by kernel_rfl)
    (of_decide_eq_true (by kernel_rfl)) (by unfold Func.isWrapper; first | (rw [if_pos (by decide +kernel)]; kernel_rfl) | (rw [if_neg (by decide +kernel)]; exact ⟨rfl, rfl⟩))
    (fun os started H enc _ => lifted os started H enc)
theorem proved : Rows.FnExactScoreTextSaid := over
end Go.Proofs.Ytfhpgeohgdfgdaa.fnExactScoreText
namespace Go.Proofs.Ytfhpgeohgdfgdaa
/-- The row, under a short name, for the claim. -/
theorem fnExactScoreText_holds : Rows.FnExactScoreTextSaid := fnExactScoreText.proved
#print axioms fnExactScoreText_holds
end Go.Proofs.Ytfhpgeohgdfgdaa
