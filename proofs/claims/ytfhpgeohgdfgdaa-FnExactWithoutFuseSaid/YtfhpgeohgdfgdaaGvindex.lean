import Derived.Test.YtfhpgeohgdfgdaaGq
import Derived.Test.YtfhpgeohgdfgdaaGvbasic
import Derived.Test.YtfhpgeohgdfgdaaFimpl0isIndex
namespace Go.Proofs.Ytfhpgeohgdfgdaa.F
open Go.RowKit Go.Proofs.YtfhpgeohgdfgdaaW.PrintWords Go.Proofs.YtfhpgeohgdfgdaaW.PrintLast Go.Proofs.YtfhpgeohgdfgdaaW.PrintMore
set_option linter.unusedVariables false
set_option linter.unusedSimpArgs false
theorem index_eq (a n : Int) : impl_isIndex.f a n = some (inB a 0 (wrap64 (n - 1))) := by
  unfold impl_isIndex.f
  simp only [Wi_eq, Option.bind_some]

end Go.Proofs.Ytfhpgeohgdfgdaa.F
