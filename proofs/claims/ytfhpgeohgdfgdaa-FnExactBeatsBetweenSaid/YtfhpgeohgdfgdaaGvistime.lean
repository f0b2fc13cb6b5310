import Derived.Test.YtfhpgeohgdfgdaaGq
import Derived.Test.YtfhpgeohgdfgdaaGvbasic
import Derived.Test.YtfhpgeohgdfgdaaFimpl0isTime
import Derived.Test.YtfhpgeohgdfgdaaFspec0l01IsTime
namespace Go.Proofs.Ytfhpgeohgdfgdaa.F
open Go.RowKit Go.Proofs.YtfhpgeohgdfgdaaW.PrintWords Go.Proofs.YtfhpgeohgdfgdaaW.PrintLast Go.Proofs.YtfhpgeohgdfgdaaW.PrintMore
set_option linter.unusedVariables false
set_option linter.unusedSimpArgs false
theorem Ti_impl (a : Int) : impl_isTime.f a = some (inB a 0 10000000) := by
  unfold impl_isTime.f
  simp only [Wi_eq, Option.bind_some]
theorem Ti_spec (a : Int) : spec_l01IsTime.f a = some (inB a 0 10000000) := by
  unfold spec_l01IsTime.f
  simp only [In_eq, Option.bind_some]

end Go.Proofs.Ytfhpgeohgdfgdaa.F
