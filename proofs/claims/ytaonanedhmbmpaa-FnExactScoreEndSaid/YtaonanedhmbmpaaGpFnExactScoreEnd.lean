import Derived.Test.YtaonanedhmbmpaaGlFnExactScoreEnd
import Derived.Test.YtaonanedhmbmpaaGq
import Derived.Test.YtaonanedhmbmpaaGqBarS
import Derived.Test.YtaonanedhmbmpaaFlaws0szBarS
import Derived.Test.YtaonanedhmbmpaaFspecScoreEnd
import Derived.Test.YtaonanedhmbmpaaFimplScoreEnd
import Derived.Test.YtaonanedhmbmpaaFlaws0toBarS
import Derived.Test.YtaonanedhmbmpaaGvtime
import Derived.Test.YtaonanedhmbmpaaFspec0l07End
import Derived.Test.YtaonanedhmbmpaaFimpl0scoreEnd
namespace Go.Proofs.Ytaonanedhmbmpaa.F
open Go.RowKit Go.Proofs.YtaonanedhmbmpaaW.PrintWords Go.Proofs.YtaonanedhmbmpaaW.PrintLast Go.Proofs.YtaonanedhmbmpaaW.PrintMore
set_option linter.unusedVariables false
set_option linter.unusedSimpArgs false
theorem main_FnExactScoreEnd (M0 : List S65) (hM : M0.length ≤ 1000000) (hP : ∀ x ∈ M0, PrI65 x) : ∃ q1 q2, Evt (fun k => spec_ScoreEnd.f k M0 = some (q1, q2)) ∧ Evt (fun k => impl_ScoreEnd.f k M0 = some (q1, q2)) := by
  cases h : isScore M0 with
  | false =>
    refine ⟨0, 1, ⟨M0.length + 1, fun k hk => ?_⟩, ⟨M0.length + 2, fun k hk => ?_⟩⟩
    · show spec_ScoreEnd.f k M0 = _
      unfold spec_ScoreEnd.f
      rw [spec_score M0 (by omega) k (by omega), h]; rfl
    · show impl_ScoreEnd.f k M0 = _
      unfold impl_ScoreEnd.f
      rw [impl_score M0 (by omega) k (by omega), h]; rfl
  | true =>
    have hs := isScore_true h
    refine ⟨tm M0 M0.length, 0, ⟨M0.length + 1, fun k hk => ?_⟩, ⟨M0.length + 2, fun k hk => ?_⟩⟩
    · show spec_ScoreEnd.f k M0 = _
      unfold spec_ScoreEnd.f spec_l07End.f
      rw [spec_score M0 (by omega) k (by omega), h]
      simp only [Option.bind_some, if_true]
      have hc : wrap64 ((M0.length : Int) - 1) = ((M0.length - 1 : Nat) : Int) := by rw [w64 (by omega)]; omega
      have hb := hs.2.2 (M0.length - 1) (by omega)
      rw [hc, if_pos (by omega), if_pos (by omega), rd_bar]
      have ht := spec_time h (M0.length - 1) (by omega) (bt_at M0 (M0.length - 1)) (by omega) k (by omega)
      unfold bt_at at ht
      rw [ht]
      simp only [Option.bind_some]
      have e := tm_succ M0 (M0.length - 1)
      rw [Nat.sub_add_cancel hs.1] at e
      rw [e]; rfl
    · show impl_ScoreEnd.f k M0 = _
      unfold impl_ScoreEnd.f impl_scoreEnd.f
      rw [impl_score M0 (by omega) k (by omega), h]
      simp only [Option.bind_some, if_true]
      rw [impl_time h M0.length 0 (.inr ⟨rfl, rfl⟩) (by omega) k (by omega)]
      simp only [Option.bind_some, Int.zero_mul, Int.add_zero]
theorem pure_FnExactScoreEnd : Pure_FnExactScoreEnd := by
  intro l0 n0 p0
  rcases sz_BarS l0 (1000000) (by omega) (by omega) n0 with ⟨z1, s1⟩ | s1
  rotate_left
  · exact ⟨0, ⟨-1, s1, Or.inl (by omega)⟩⟩
  obtain ⟨L0, t0, ne0, tk0, ln0, le0, rm0, jn0, fu0, to0⟩ := to_BarS l0 (by omega)
  have eq0 := eq_BarS L0 (by omega)
  obtain ⟨q1, q2, sp, im⟩ := main_FnExactScoreEnd (l0.map conv_BarS) (by rw [ln0]; omega) (prc_BarS p0)
  obtain ⟨k, hfu0, hto0, heq0, hsp, him⟩ := (fu0.and (to0.and (eq0.and (sp.and im)))).ex
  exact ⟨k, ⟨1000000 - l0.length, s1, Or.inr ⟨by omega, ⟨L0, _, t0, q1, q2, { ne0 := ne0, tk0 := tk0, ln0 := ln0, fu0 := hfu0, rm0 := rm0, jn0 := jn0, eq0 := heq0, sp := hsp, im := him, to0 := hto0 }⟩⟩⟩⟩

end Go.Proofs.Ytaonanedhmbmpaa.F
