import Derived.Test.YtfhpgeohgdfgdaaGq
import Derived.Test.YtfhpgeohgdfgdaaGvfuses
import Derived.Test.YtfhpgeohgdfgdaaGvindex
import Derived.Test.YtfhpgeohgdfgdaaFspec0l10Without
import Derived.Test.YtfhpgeohgdfgdaaFimpl0withoutFuse
namespace Go.Proofs.Ytfhpgeohgdfgdaa.F
open Go.RowKit Go.Proofs.YtfhpgeohgdfgdaaW.PrintWords Go.Proofs.YtfhpgeohgdfgdaaW.PrintLast Go.Proofs.YtfhpgeohgdfgdaaW.PrintMore
set_option linter.unusedVariables false
set_option linter.unusedSimpArgs false
def without (xs : List S109) (n : Nat) : List S109 := xs.take n ++ xs.drop (n + 1)
theorem without_len (xs : List S109) (n : Nat) (h : n < xs.length) : (without xs n).length = xs.length - 1 := by
  unfold without
  rw [List.length_append, List.length_take, List.length_drop]; omega
theorem spec_without (xs : List S109) (n : Nat) (hx : xs.length ≤ 4000000) (h : n < xs.length) : spec_l10Without.f xs (n : Int) = some (without xs n) := by
  unfold spec_l10Without.f
  have e : wrap64 ((n : Int) + 1) = ((n + 1 : Nat) : Int) := by rw [w64 (by omega)]; rfl
  simp only [Option.bind_some, List.nil_append, List.length_nil, e, Int.toNat_natCast]
  have h1 := List.length_take_le n xs
  have h2 := List.length_take_le' n xs
  have h3 : (xs.drop (n + 1)).length = xs.length - (n + 1) := List.length_drop
  rw [if_pos (by omega), if_pos (by omega), if_pos (by omega), if_pos (by omega), if_pos (by omega), if_pos (by omega)]
  rfl
theorem impl_without (xs : List S109) (n : Nat) (hx : xs.length ≤ 4000000) (h : n < xs.length) : impl_withoutFuse.f xs (n : Int) = some (without xs n) := by
  unfold impl_withoutFuse.f
  have e : wrap64 ((n : Int) + 1) = ((n + 1 : Nat) : Int) := by rw [w64 (by omega)]; rfl
  simp only [Option.bind_some, List.nil_append, List.length_nil, e, Int.toNat_natCast]
  have h1 := List.length_take_le n xs
  have h2 := List.length_take_le' n xs
  have h3 : (xs.drop (n + 1)).length = xs.length - (n + 1) := List.length_drop
  rw [if_pos (by omega), if_pos (by omega), if_pos (by omega), if_pos (by omega), if_pos (by omega), if_pos (by omega)]
  rfl

end Go.Proofs.Ytfhpgeohgdfgdaa.F
