import Derived.Test.YtcmnkjohofpimaaGlFnExactBeatTime
import Derived.Test.YtcmnkjohofpimaaGq
import Derived.Test.YtcmnkjohofpimaaGqBarS
import Derived.Test.YtcmnkjohofpimaaFlawsTBar
import Derived.Test.YtcmnkjohofpimaaFspecBeatTime
import Derived.Test.YtcmnkjohofpimaaFimplBeatTime
import Derived.Test.YtcmnkjohofpimaaGvtime
import Derived.Test.YtcmnkjohofpimaaGvhas
namespace Go.Proofs.Ytcmnkjohofpimaa.F
open Go.RowKit Go.Proofs.YtcmnkjohofpimaaW.PrintWords Go.Proofs.YtcmnkjohofpimaaW.PrintLast Go.Proofs.YtcmnkjohofpimaaW.PrintMore
set_option linter.unusedVariables false
set_option linter.unusedSimpArgs false
theorem main_FnExactBeatTime (M0 : List S88) (a1 a2 : Int) (hM : M0.length ≤ 1000000) (hP : ∀ x ∈ M0, PrI88 x) (_ : I64 a1) (_ : I64 a2) : ∃ q1 q2, Evt (fun k => spec_BeatTime.f k M0 a1 a2 = some (q1, q2)) ∧ Evt (fun k => impl_BeatTime.f k M0 a1 a2 = some (q1, q2)) := by
  cases h : isScore M0 with
  | false =>
    refine ⟨0, 1, ⟨M0.length + 2, fun k hk => ?_⟩, ⟨M0.length + 2, fun k hk => ?_⟩⟩
    · show spec_BeatTime.f k M0 a1 a2 = _
      unfold spec_BeatTime.f
      rw [spec_score M0 (by omega) k (by omega), h]; rfl
    · show impl_BeatTime.f k M0 a1 a2 = _
      unfold impl_BeatTime.f
      rw [impl_score M0 (by omega) k (by omega), h]; rfl
  | true =>
    have hs := isScore_true h
    cases g : hasBeat M0 a1 a2 with
    | false =>
      refine ⟨0, 2, ⟨M0.length + 2, fun k hk => ?_⟩, ⟨M0.length + 2, fun k hk => ?_⟩⟩
      · show spec_BeatTime.f k M0 a1 a2 = _
        unfold spec_BeatTime.f
        rw [spec_score M0 (by omega) k (by omega), h]
        simp only [Option.bind_some]
        rw [spec_has h, g]; rfl
      · show impl_BeatTime.f k M0 a1 a2 = _
        unfold impl_BeatTime.f
        rw [impl_score M0 (by omega) k (by omega), h]
        simp only [Option.bind_some]
        rw [impl_has h, g]; rfl
    | true =>
      obtain ⟨b, rfl, hb, h2⟩ := hasBeat_true g
      have hb2 := hs.2.2 b hb
      refine ⟨tm M0 b + a2 * ln_at M0 b, 0, ⟨M0.length + 2, fun k hk => ?_⟩, ⟨M0.length + 2, fun k hk => ?_⟩⟩
      · show spec_BeatTime.f k M0 b a2 = _
        unfold spec_BeatTime.f
        rw [spec_score M0 (by omega) k (by omega), h]
        simp only [Option.bind_some]
        rw [spec_has h, g, spec_time h b hb a2 (by omega) k (by omega)]; rfl
      · show impl_BeatTime.f k M0 b a2 = _
        unfold impl_BeatTime.f
        rw [impl_score M0 (by omega) k (by omega), h]
        simp only [Option.bind_some]
        rw [impl_has h, g, impl_time h b a2 (.inl hb) (by omega) k (by omega)]; rfl
theorem pure_FnExactBeatTime : Pure_FnExactBeatTime := by
  intro l0 a1 a2 n0 p0 b1 b2
  rcases sz_BarS l0 (1000000) (by omega) (by omega) n0 with ⟨z1, s1⟩ | s1
  rotate_left
  · exact ⟨0, ⟨-1, s1, Or.inl (by omega)⟩⟩
  obtain ⟨L0, t0, ne0, tk0, ln0, le0, rm0, jn0, fu0, to0⟩ := to_BarS l0 (by omega)
  have eq0 := eq_BarS L0 (by omega)
  obtain ⟨q1, q2, sp, im⟩ := main_FnExactBeatTime (l0.map conv_BarS) a1 a2 (by rw [ln0]; omega) (prc_BarS p0) b1 b2
  obtain ⟨k, hfu0, hto0, heq0, hsp, him⟩ := (fu0.and (to0.and (eq0.and (sp.and im)))).ex
  exact ⟨k, ⟨1000000 - l0.length, s1, Or.inr ⟨by omega, ⟨L0, _, t0, q1, q2, { ne0 := ne0, tk0 := tk0, ln0 := ln0, fu0 := hfu0, rm0 := rm0, jn0 := jn0, eq0 := heq0, sp := hsp, im := him, to0 := hto0 }⟩⟩⟩⟩

end Go.Proofs.Ytcmnkjohofpimaa.F
