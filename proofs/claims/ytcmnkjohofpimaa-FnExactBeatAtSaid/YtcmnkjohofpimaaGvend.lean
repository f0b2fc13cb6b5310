import Derived.Test.YtcmnkjohofpimaaGq
import Derived.Test.YtcmnkjohofpimaaGvtime
import Derived.Test.YtcmnkjohofpimaaFspec0l07End
namespace Go.Proofs.Ytcmnkjohofpimaa.F
open Go.RowKit Go.Proofs.YtcmnkjohofpimaaW.PrintWords Go.Proofs.YtcmnkjohofpimaaW.PrintLast Go.Proofs.YtcmnkjohofpimaaW.PrintMore
set_option linter.unusedVariables false
set_option linter.unusedSimpArgs false
theorem spec_end {xs : List S88} (h : isScore xs = true) (k : Nat) (hk : xs.length < k) : spec_l07End.f k xs = some (tm xs xs.length) := by
  have hs := isScore_true h
  unfold spec_l07End.f
  have hc : wrap64 ((xs.length : Int) - 1) = ((xs.length - 1 : Nat) : Int) := by rw [w64 (by omega)]; omega
  have hb := hs.2.2 (xs.length - 1) (by omega)
  rw [hc, if_pos (by omega), if_pos (by omega), rd_bar]
  have ht := spec_time h (xs.length - 1) (by omega) (bt_at xs (xs.length - 1)) (by omega) k (by omega)
  unfold bt_at at ht
  rw [ht]
  simp only [Option.bind_some]
  have e := tm_succ xs (xs.length - 1)
  rw [Nat.sub_add_cancel hs.1] at e
  rw [e]; rfl

end Go.Proofs.Ytcmnkjohofpimaa.F
