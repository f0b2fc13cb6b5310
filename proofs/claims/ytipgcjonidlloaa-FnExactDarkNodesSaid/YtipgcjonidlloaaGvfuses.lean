import Derived.Test.YtipgcjonidlloaaGq
import Derived.Test.YtipgcjonidlloaaGvbasic
import Derived.Test.YtipgcjonidlloaaFspecAreFuses
import Derived.Test.YtipgcjonidlloaaFimplAreFuses
namespace Go.Proofs.Ytipgcjonidlloaa.F
open Go.RowKit Go.Proofs.YtipgcjonidlloaaW.PrintWords Go.Proofs.YtipgcjonidlloaaW.PrintLast Go.Proofs.YtipgcjonidlloaaW.PrintMore
set_option linter.unusedVariables false
set_option linter.unusedSimpArgs false
def fu_at (xs : List S44) (i : Nat) : S44 := xs.getD i z44
def fuseAt (n : Int) (xs : List S44) (i : Nat) : Bool := inB (fu_at xs i).f0 0 (wrap64 (n - 1)) && (inB (fu_at xs i).f1 (wrap64 ((fu_at xs i).f0 + 1)) (wrap64 (n - 1)) && (inB (fu_at xs i).f2 0 100000 && inB (fu_at xs i).f3 (fu_at xs i).f2 100000))
def areFuses (n : Int) (xs : List S44) : Bool := allF (fuseAt n xs) 0 xs.length && (inB n 1 10 && decide ((xs.length : Int) ≤ 20))
theorem rd_fuse (xs : List S44) (i : Nat) : rd_T44 xs (i : Int) = fu_at xs i := by unfold rd_T44 fu_at; rw [Int.toNat_natCast]
theorem spec_fuses (n : Int) (xs : List S44) (hx : xs.length ≤ 4000000) (k : Nat) (hk : xs.length < k) : spec_AreFuses.f k n xs = some (areFuses n xs) := by
  refine all_loop (f := fun k i => spec_AreFuses.l0 k n xs (i : Int)) xs.length (fun k i hi => ?_) (fun k => ?_) xs.length k 0 (by omega) (by omega) (by omega)
  · show spec_AreFuses.l0 (k + 1) n xs i = _
    simp only [spec_AreFuses.l0, In_eq, Option.bind_some]
    rw [if_pos (by omega), if_pos (by omega), w64 (n := (i : Int) + 1) (by omega), rd_fuse]
    unfold fuseAt
    cases inB (fu_at xs i).f0 0 (wrap64 (n - 1)) <;> cases inB (fu_at xs i).f1 (wrap64 ((fu_at xs i).f0 + 1)) (wrap64 (n - 1)) <;> cases inB (fu_at xs i).f2 0 100000 <;> cases inB (fu_at xs i).f3 (fu_at xs i).f2 100000 <;> rfl
  · show spec_AreFuses.l0 (k + 1) n xs _ = _
    simp only [spec_AreFuses.l0, In_eq, Option.bind_some]
    rw [if_neg (by omega)]
    cases inB n 1 10 <;> rfl
theorem impl_fuses (n : Int) (xs : List S44) (hx : xs.length ≤ 4000000) (k : Nat) (hk : xs.length + 1 < k) : impl_AreFuses.f k n xs = some (areFuses n xs) := by
  obtain ⟨k, rfl⟩ : ∃ m, k = m + 1 := ⟨k - 1, by omega⟩
  unfold impl_AreFuses.f areFuses
  simp only [impl_AreFuses.j0, Wi_eq, Option.bind_some]
  cases h1 : inB n 1 10 with
  | false => rw [if_neg (by decide), if_pos trivial, Bool.false_and, Bool.and_false]
  | true =>
    rw [if_pos rfl, Bool.true_and]
    by_cases h2 : (xs.length : Int) > 20
    · rw [if_pos (decide_eq_true h2), decide_eq_false (by omega : ¬ ((xs.length : Int) ≤ 20)), Bool.and_false]
    · rw [if_neg (by simpa using h2), decide_eq_true (by omega : ((xs.length : Int) ≤ 20))]
      refine all_loop (f := fun k i => impl_AreFuses.l0 k n xs (xs.length : Int) (i : Int)) xs.length (fun k i hi => ?_) (fun k => ?_) xs.length k 0 (by omega) (by omega) (by omega)
      · show impl_AreFuses.l0 (k + 1) n xs (xs.length : Int) i = _
        simp only [impl_AreFuses.l0, Wi_eq, Option.bind_some]
        rw [if_pos (by omega), if_pos (by omega), if_pos (by omega), w64 (n := (i : Int) + 1) (by omega), rd_fuse]
        unfold fuseAt
        cases inB (fu_at xs i).f0 0 (wrap64 (n - 1)) <;> cases inB (fu_at xs i).f1 (wrap64 ((fu_at xs i).f0 + 1)) (wrap64 (n - 1)) <;> cases inB (fu_at xs i).f2 0 100000 <;> cases inB (fu_at xs i).f3 (fu_at xs i).f2 100000 <;> rfl
      · show impl_AreFuses.l0 (k + 1) n xs (xs.length : Int) _ = _
        simp only [impl_AreFuses.l0]
        rw [if_neg (by omega)]

end Go.Proofs.Ytipgcjonidlloaa.F
