import Derived.Test.YtaonanedhmbmpaaGlFnExactBurstRange
import Derived.Test.YtaonanedhmbmpaaGq
import Derived.Test.YtaonanedhmbmpaaFlaws0toShot
import Derived.Test.YtaonanedhmbmpaaFspecBurstRange
import Derived.Test.YtaonanedhmbmpaaFimplBurstRange
import Derived.Test.YtaonanedhmbmpaaGvburst
namespace Go.Proofs.Ytaonanedhmbmpaa.F
open Go.RowKit Go.Proofs.YtaonanedhmbmpaaW.PrintWords Go.Proofs.YtaonanedhmbmpaaW.PrintLast Go.Proofs.YtaonanedhmbmpaaW.PrintMore
set_option linter.unusedVariables false
set_option linter.unusedSimpArgs false
theorem main_FnExactBurstRange (u s f r lo hi : Int) (_ : I64 u) (_ : I64 s) (_ : I64 f) (_ : I64 r) (_ : I64 lo) (_ : I64 hi) : ∃ q1 q2 q3, Evt (fun k => spec_BurstRange.f k u s f r lo hi = some (q1, q2, q3)) ∧ Evt (fun k => impl_BurstRange.f k u s f r lo hi = some (q1, q2, q3)) := by
  cases h : isShot u s f r with
  | false =>
    refine ⟨0, 0, 1, ⟨2, fun k hk => ?_⟩, ⟨0, fun k hk => ?_⟩⟩
    · show spec_BurstRange.f k u s f r lo hi = _
      unfold spec_BurstRange.f
      rw [spec_code1 _ _ _ _ _ _ k (by omega), h]; rfl
    · show impl_BurstRange.f k u s f r lo hi = _
      unfold impl_BurstRange.f
      rw [impl_shot, h]; rfl
  | true =>
    cases hw : areWinds lo hi with
    | false =>
      refine ⟨0, 0, 2, ⟨2, fun k hk => ?_⟩, ⟨0, fun k hk => ?_⟩⟩
      · show spec_BurstRange.f k u s f r lo hi = _
        unfold spec_BurstRange.f
        rw [spec_code1 _ _ _ _ _ _ k (by omega), h, hw]; rfl
      · show impl_BurstRange.f k u s f r lo hi = _
        unfold impl_BurstRange.f
        rw [impl_shot, h, impl_winds, hw]; rfl
    | true =>
      obtain ⟨t, top, _, hs, hi'⟩ := burst_both h hw
      refine ⟨drift s lo t, drift s hi t, 0, ⟨30000, fun k hk => ?_⟩, ⟨30000, fun k hk => ?_⟩⟩
      · show spec_BurstRange.f k u s f r lo hi = _
        unfold spec_BurstRange.f
        rw [spec_code1 _ _ _ _ _ _ k (by omega), h, hw, hs k hk]; rfl
      · show impl_BurstRange.f k u s f r lo hi = _
        unfold impl_BurstRange.f
        rw [impl_shot, h, impl_winds, hw, hi' k hk]; rfl
theorem pure_FnExactBurstRange : Pure_FnExactBurstRange := by
  intro a0_0 a0_1 a0_2 a0_3 a1 a2 b0_0 b0_1 b0_2 b0_3 b1 b2
  obtain ⟨q1, q2, q3, sp, im⟩ := main_FnExactBurstRange a0_0 a0_1 a0_2 a0_3 a1 a2 b0_0 b0_1 b0_2 b0_3 b1 b2
  obtain ⟨k, hsp, him⟩ := (sp.and im).ex
  exact ⟨k, ⟨q1, q2, q3, { to0 := rfl, sp := hsp, im := him }⟩⟩

end Go.Proofs.Ytaonanedhmbmpaa.F
