import Derived.Test.YtaonanedhmbmpaaGq
import Derived.Test.YtaonanedhmbmpaaGvshot
import Derived.Test.YtaonanedhmbmpaaFspec0l06Burst
import Derived.Test.YtaonanedhmbmpaaFimpl0burstRange
namespace Go.Proofs.Ytaonanedhmbmpaa.F
open Go.RowKit Go.Proofs.YtaonanedhmbmpaaW.PrintWords Go.Proofs.YtaonanedhmbmpaaW.PrintLast Go.Proofs.YtaonanedhmbmpaaW.PrintMore
set_option linter.unusedVariables false
set_option linter.unusedSimpArgs false
/-- both burst ranges -/
theorem burst_both {u s f r lo hi : Int} (h : isShot u s f r = true) (hw : areWinds lo hi = true) : ∃ t top, IsTop u t top ∧ (∀ k, 30000 ≤ k → spec_l06Burst.f k u s f r lo hi = some (drift s lo t, drift s hi t)) ∧ ∀ k, 30000 ≤ k → impl_burstRange.f k u s f r lo hi = some (drift s lo t, drift s hi t) := by
  obtain ⟨h1, h2, h3, h4⟩ := isShot_true h
  obtain ⟨w1, w2, w3⟩ := areWinds_true hw
  obtain ⟨t, top, ht, hs, hi'⟩ := top_both h1
  have hr := top_range h1 ht
  refine ⟨t, top, ht, fun k hk => ?_, fun k hk => ?_⟩
  · unfold spec_l06Burst.f
    rw [hs k hk]
    simp only [Option.bind_some]
    rw [spec_drift h2 w1 (by omega), spec_drift h2 (by omega) (by omega)]; rfl
  · unfold impl_burstRange.f
    rw [hi' k hk]
    simp only [Option.bind_some]
    rw [impl_drift h2 w1 (by omega), impl_drift h2 (by omega) (by omega)]; rfl

end Go.Proofs.Ytaonanedhmbmpaa.F
