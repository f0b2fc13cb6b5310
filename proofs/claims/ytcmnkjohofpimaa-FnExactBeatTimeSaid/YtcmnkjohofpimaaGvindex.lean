import Derived.Test.YtcmnkjohofpimaaGq
import Derived.Test.YtcmnkjohofpimaaGvbasic
import Derived.Test.YtcmnkjohofpimaaFimpl0isIndex
namespace Go.Proofs.Ytcmnkjohofpimaa.F
open Go.RowKit Go.Proofs.YtcmnkjohofpimaaW.PrintWords Go.Proofs.YtcmnkjohofpimaaW.PrintLast Go.Proofs.YtcmnkjohofpimaaW.PrintMore
set_option linter.unusedVariables false
set_option linter.unusedSimpArgs false
theorem index_eq (a n : Int) : impl_isIndex.f a n = some (inB a 0 (wrap64 (n - 1))) := by
  unfold impl_isIndex.f
  simp only [Wi_eq, Option.bind_some]

end Go.Proofs.Ytcmnkjohofpimaa.F
