import Derived.Test.YtaonanedhmbmpaaGlFnExactAreFuses
import Derived.Test.YtaonanedhmbmpaaGq
import Derived.Test.YtaonanedhmbmpaaGqFuseS
import Derived.Test.YtaonanedhmbmpaaFlaws0szFuseS
import Derived.Test.YtaonanedhmbmpaaFspecAreFuses
import Derived.Test.YtaonanedhmbmpaaFimplAreFuses
import Derived.Test.YtaonanedhmbmpaaFlaws0toFuseS
import Derived.Test.YtaonanedhmbmpaaGvfuses
namespace Go.Proofs.Ytaonanedhmbmpaa.F
open Go.RowKit Go.Proofs.YtaonanedhmbmpaaW.PrintWords Go.Proofs.YtaonanedhmbmpaaW.PrintLast Go.Proofs.YtaonanedhmbmpaaW.PrintMore
set_option linter.unusedVariables false
set_option linter.unusedSimpArgs false
theorem main_FnExactAreFuses (a0 : Int) (M1 : List S70) (h0 : I64 a0) (hM : M1.length ≤ 1000000) (hP : ∀ x ∈ M1, PrI70 x) : ∃ q1, Evt (fun k => spec_AreFuses.f k a0 M1 = some q1) ∧ Evt (fun k => impl_AreFuses.f k a0 M1 = some q1) :=
  ⟨areFuses a0 M1, ⟨M1.length + 1, fun k hk => spec_fuses a0 M1 (by omega) k (by omega)⟩, ⟨M1.length + 2, fun k hk => impl_fuses a0 M1 (by omega) k (by omega)⟩⟩
theorem pure_FnExactAreFuses : Pure_FnExactAreFuses := by
  intro a0 l1 b0 n1 p1
  rcases sz_FuseS l1 (1000000) (by omega) (by omega) n1 with ⟨z1, s1⟩ | s1
  rotate_left
  · exact ⟨0, ⟨-1, s1, Or.inl (by omega)⟩⟩
  obtain ⟨L1, t1, ne1, tk1, ln1, le1, rm1, jn1, fu1, to1⟩ := to_FuseS l1 (by omega)
  have eq1 := eq_FuseS L1 (by omega)
  obtain ⟨q1, sp, im⟩ := main_FnExactAreFuses a0 (l1.map conv_FuseS) b0 (by rw [ln1]; omega) (prc_FuseS p1)
  obtain ⟨k, hfu1, hto1, heq1, hsp, him⟩ := (fu1.and (to1.and (eq1.and (sp.and im)))).ex
  exact ⟨k, ⟨1000000 - l1.length, s1, Or.inr ⟨by omega, ⟨L1, _, t1, q1, { ne1 := ne1, tk1 := tk1, ln1 := ln1, fu1 := hfu1, rm1 := rm1, jn1 := jn1, eq1 := heq1, sp := hsp, im := him, to1 := hto1 }⟩⟩⟩⟩

end Go.Proofs.Ytaonanedhmbmpaa.F
