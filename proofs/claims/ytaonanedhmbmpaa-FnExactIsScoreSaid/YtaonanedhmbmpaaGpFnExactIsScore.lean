import Derived.Test.YtaonanedhmbmpaaGlFnExactIsScore
import Derived.Test.YtaonanedhmbmpaaGq
import Derived.Test.YtaonanedhmbmpaaGqBarS
import Derived.Test.YtaonanedhmbmpaaFlaws0szBarS
import Derived.Test.YtaonanedhmbmpaaFspecIsScore
import Derived.Test.YtaonanedhmbmpaaFimplIsScore
import Derived.Test.YtaonanedhmbmpaaFlaws0toBarS
import Derived.Test.YtaonanedhmbmpaaGvscore
namespace Go.Proofs.Ytaonanedhmbmpaa.F
open Go.RowKit Go.Proofs.YtaonanedhmbmpaaW.PrintWords Go.Proofs.YtaonanedhmbmpaaW.PrintLast Go.Proofs.YtaonanedhmbmpaaW.PrintMore
set_option linter.unusedVariables false
set_option linter.unusedSimpArgs false
theorem main_FnExactIsScore (M0 : List S65) (hM : M0.length ≤ 1000000) (hP : ∀ x ∈ M0, PrI65 x) : ∃ q1, Evt (fun k => spec_IsScore.f k M0 = some q1) ∧ Evt (fun k => impl_IsScore.f k M0 = some q1) :=
  ⟨isScore M0, ⟨M0.length + 1, fun k hk => spec_score M0 (by omega) k (by omega)⟩, ⟨M0.length + 2, fun k hk => impl_score M0 (by omega) k (by omega)⟩⟩
theorem pure_FnExactIsScore : Pure_FnExactIsScore := by
  intro l0 n0 p0
  rcases sz_BarS l0 (1000000) (by omega) (by omega) n0 with ⟨z1, s1⟩ | s1
  rotate_left
  · exact ⟨0, ⟨-1, s1, Or.inl (by omega)⟩⟩
  obtain ⟨L0, t0, ne0, tk0, ln0, le0, rm0, jn0, fu0, to0⟩ := to_BarS l0 (by omega)
  have eq0 := eq_BarS L0 (by omega)
  obtain ⟨q1, sp, im⟩ := main_FnExactIsScore (l0.map conv_BarS) (by rw [ln0]; omega) (prc_BarS p0)
  obtain ⟨k, hfu0, hto0, heq0, hsp, him⟩ := (fu0.and (to0.and (eq0.and (sp.and im)))).ex
  exact ⟨k, ⟨1000000 - l0.length, s1, Or.inr ⟨by omega, ⟨L0, _, t0, q1, { ne0 := ne0, tk0 := tk0, ln0 := ln0, fu0 := hfu0, rm0 := rm0, jn0 := jn0, eq0 := heq0, sp := hsp, im := him, to0 := hto0 }⟩⟩⟩⟩

end Go.Proofs.Ytaonanedhmbmpaa.F
