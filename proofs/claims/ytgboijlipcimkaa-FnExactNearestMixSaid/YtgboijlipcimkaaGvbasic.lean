import Derived.Test.YtgboijlipcimkaaGq
import Derived.Test.YtgboijlipcimkaaFspec0l01In
import Derived.Test.YtgboijlipcimkaaFimpl0within
namespace Go.Proofs.Ytgboijlipcimkaa.F
open Go.RowKit Go.Proofs.YtgboijlipcimkaaW.PrintWords Go.Proofs.YtgboijlipcimkaaW.PrintLast Go.Proofs.YtgboijlipcimkaaW.PrintMore
set_option linter.unusedVariables false
set_option linter.unusedSimpArgs false
theorem In_eq (n lo hi : Int) : spec_l01In.f n lo hi = some (inB n lo hi) := by
  unfold spec_l01In.f inB
  by_cases h : n ≥ lo
  · rw [if_pos h]; congr 1; simp; omega
  · rw [if_neg h]; congr 1; simp; omega
theorem Wi_eq (n lo hi : Int) : impl_within.f n lo hi = some (inB n lo hi) := by
  unfold impl_within.f inB
  by_cases h : lo ≤ n
  · rw [if_pos h]; congr 1; simp; omega
  · rw [if_neg h]; congr 1; simp; omega
theorem pred_cast {i : Nat} (h : 0 < i) : wrap64 ((i : Int) - 1) = ((i - 1 : Nat) : Int) ∨ 9223372036854775807 < i := by
  by_cases h2 : i ≤ 9223372036854775807
  · exact .inl (by rw [w64 (by omega)]; omega)
  · exact .inr (by omega)
theorem rd_nat (xs : List Int) (i : Nat) : rd xs (i : Int) = xs.getD i 0 := by unfold rd; rw [Int.toNat_natCast]

end Go.Proofs.Ytgboijlipcimkaa.F
