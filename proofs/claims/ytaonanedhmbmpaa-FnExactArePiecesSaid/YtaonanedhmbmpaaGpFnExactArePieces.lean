import Derived.Test.YtaonanedhmbmpaaGlFnExactArePieces
import Derived.Test.YtaonanedhmbmpaaGq
import Derived.Test.YtaonanedhmbmpaaGqInt64S
import Derived.Test.YtaonanedhmbmpaaFspecArePieces
import Derived.Test.YtaonanedhmbmpaaFimplArePieces
import Derived.Test.YtaonanedhmbmpaaFlaws0toInt64S
import Derived.Test.YtaonanedhmbmpaaGvpieces
namespace Go.Proofs.Ytaonanedhmbmpaa.F
open Go.RowKit Go.Proofs.YtaonanedhmbmpaaW.PrintWords Go.Proofs.YtaonanedhmbmpaaW.PrintLast Go.Proofs.YtaonanedhmbmpaaW.PrintMore
set_option linter.unusedVariables false
set_option linter.unusedSimpArgs false
theorem main_FnExactArePieces (M0 : List Int) (hM : M0.length ≤ 1000000) (hP : ∀ x ∈ M0, I64 x) : ∃ q1, Evt (fun k => spec_ArePieces.f k M0 = some q1) ∧ Evt (fun k => impl_ArePieces.f k M0 = some q1) :=
  ⟨arePieces M0, ⟨M0.length + 1, fun k hk => spec_pieces M0 (by omega) k (by omega)⟩, ⟨M0.length + 2, fun k hk => impl_pieces M0 (by omega) k (by omega)⟩⟩
theorem pure_FnExactArePieces : Pure_FnExactArePieces := by
  intro l0 n0 p0
  by_cases z90 : (l0.length : Int) > 1000000
  · exact ⟨0, Or.inl z90⟩
  obtain ⟨L0, t0, ne0, tk0, ln0, le0, rm0, jn0, fu0, to0⟩ := to_Int64S l0 (by omega)
  have eq0 := eq_Int64S L0 (by omega)
  obtain ⟨q1, sp, im⟩ := main_FnExactArePieces (l0.map conv_Int64S) (by rw [ln0]; omega) (prc_Int64S p0)
  obtain ⟨k, hfu0, hto0, heq0, hsp, him⟩ := (fu0.and (to0.and (eq0.and (sp.and im)))).ex
  exact ⟨k, Or.inr ⟨z90, ⟨L0, _, t0, q1, { ne0 := ne0, tk0 := tk0, ln0 := ln0, fu0 := hfu0, rm0 := rm0, jn0 := jn0, eq0 := heq0, sp := hsp, im := him, to0 := hto0 }⟩⟩⟩

end Go.Proofs.Ytaonanedhmbmpaa.F
