import Derived.Test.YtcmnkjohofpimaaGq
import Derived.Test.YtcmnkjohofpimaaGvscore
import Derived.Test.YtcmnkjohofpimaaGvindex
import Derived.Test.YtcmnkjohofpimaaFspec0l07Has
import Derived.Test.YtcmnkjohofpimaaFimpl0isBeat
namespace Go.Proofs.Ytcmnkjohofpimaa.F
open Go.RowKit Go.Proofs.YtcmnkjohofpimaaW.PrintWords Go.Proofs.YtcmnkjohofpimaaW.PrintLast Go.Proofs.YtcmnkjohofpimaaW.PrintMore
set_option linter.unusedVariables false
set_option linter.unusedSimpArgs false
/-- there is a beat of a bar -/
def hasBeat (xs : List S88) (bar beat : Int) : Bool := inB bar 0 ((xs.length : Int) - 1) && inB beat 0 (bt_at xs bar.toNat - 1)
theorem hasBeat_true {xs : List S88} {bar beat : Int} (h : hasBeat xs bar beat = true) : ∃ b : Nat, bar = b ∧ b < xs.length ∧ 0 ≤ beat ∧ beat ≤ bt_at xs b - 1 := by
  unfold hasBeat at h
  rw [Bool.and_eq_true, inB_true, inB_true] at h
  exact ⟨bar.toNat, by omega, by omega, h.2⟩
theorem spec_has {xs : List S88} (h : isScore xs = true) (bar beat : Int) : spec_l07Has.f xs bar beat = some (hasBeat xs bar beat) := by
  have hs := isScore_true h
  unfold spec_l07Has.f hasBeat
  rw [w64 (n := (xs.length : Int) - 1) (by omega), In_eq]
  simp only [Option.bind_some]
  cases g : inB bar 0 ((xs.length : Int) - 1) with
  | false => rfl
  | true =>
    rw [inB_true] at g
    obtain ⟨b, rfl⟩ : ∃ n : Nat, bar = n := ⟨bar.toNat, by omega⟩
    have hb := hs.2.2 b (by omega)
    rw [if_pos rfl, if_pos (by omega), if_pos (by omega), rd_bar]
    show ((spec_l01In.f beat 0 (wrap64 (bt_at xs b - 1))).bind fun t => some t) = _
    rw [w64 (by omega), In_eq]; rfl
theorem impl_has {xs : List S88} (h : isScore xs = true) (bar beat : Int) : impl_isBeat.f xs bar beat = some (hasBeat xs bar beat) := by
  have hs := isScore_true h
  unfold impl_isBeat.f hasBeat
  rw [index_eq, w64 (n := (xs.length : Int) - 1) (by omega)]
  simp only [Option.bind_some]
  cases g : inB bar 0 ((xs.length : Int) - 1) with
  | false => rfl
  | true =>
    rw [inB_true] at g
    obtain ⟨b, rfl⟩ : ∃ n : Nat, bar = n := ⟨bar.toNat, by omega⟩
    have hb := hs.2.2 b (by omega)
    rw [if_pos rfl, if_pos (by omega), if_pos (by omega), rd_bar]
    show ((impl_within.f beat 0 (wrap64 (bt_at xs b - 1))).bind fun t => some t) = _
    rw [w64 (by omega), Wi_eq]; rfl

end Go.Proofs.Ytcmnkjohofpimaa.F
