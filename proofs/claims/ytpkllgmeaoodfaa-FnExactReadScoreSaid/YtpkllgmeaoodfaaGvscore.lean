import Derived.Test.YtpkllgmeaoodfaaGq
import Derived.Test.YtpkllgmeaoodfaaGvbasic
import Derived.Test.YtpkllgmeaoodfaaFspecIsScore
import Derived.Test.YtpkllgmeaoodfaaFimplIsScore
namespace Go.Proofs.Ytpkllgmeaoodfaa.F
open Go.RowKit Go.Proofs.YtpkllgmeaoodfaaW.PrintWords Go.Proofs.YtpkllgmeaoodfaaW.PrintLast Go.Proofs.YtpkllgmeaoodfaaW.PrintMore
set_option linter.unusedVariables false
set_option linter.unusedSimpArgs false
def bt_at (xs : List S72) (i : Nat) : Int := (xs.getD i z72).f0
def ln_at (xs : List S72) (i : Nat) : Int := (xs.getD i z72).f1
def barAt (xs : List S72) (i : Nat) : Bool := inB (bt_at xs i) 1 16 && inB (ln_at xs i) 100 5000
def isScore (xs : List S72) : Bool := allF (barAt xs) 0 xs.length && inB (xs.length : Int) 1 20
theorem rd_bar (xs : List S72) (i : Nat) : rd_T72 xs (i : Int) = xs.getD i z72 := by unfold rd_T72; rw [Int.toNat_natCast]
theorem spec_score (xs : List S72) (hx : xs.length ≤ 4000000) (k : Nat) (hk : xs.length < k) : spec_IsScore.f k xs = some (isScore xs) := by
  refine all_loop (f := fun k i => spec_IsScore.l0 k xs (i : Int)) xs.length (fun k i hi => ?_) (fun k => ?_) xs.length k 0 (by omega) (by omega) (by omega)
  · show spec_IsScore.l0 (k + 1) xs i = _
    simp only [spec_IsScore.l0, In_eq, Option.bind_some]
    rw [if_pos (by omega), if_pos (by omega), w64 (by omega), rd_bar]
    unfold barAt bt_at ln_at
    cases inB (xs.getD i z72).f0 1 16 <;> cases inB (xs.getD i z72).f1 100 5000 <;> rfl
  · show spec_IsScore.l0 (k + 1) xs _ = _
    simp only [spec_IsScore.l0, In_eq, Option.bind_some]
    rw [if_neg (by omega)]
theorem impl_score (xs : List S72) (hx : xs.length ≤ 4000000) (k : Nat) (hk : xs.length + 1 < k) : impl_IsScore.f k xs = some (isScore xs) := by
  obtain ⟨k, rfl⟩ : ∃ m, k = m + 1 := ⟨k - 1, by omega⟩
  unfold impl_IsScore.f isScore
  simp only [impl_IsScore.j0]
  by_cases h1 : (xs.length : Int) < 1
  · rw [if_pos h1, if_pos trivial, inB_false.2 (by omega), Bool.and_false]
  · rw [if_neg h1]
    by_cases h2 : (xs.length : Int) > 20
    · rw [if_pos (decide_eq_true h2), inB_false.2 (by omega), Bool.and_false]
    · rw [if_neg (by simpa using h2), inB_true.2 (by omega)]
      refine all_loop (f := fun k i => impl_IsScore.l0 k xs (xs.length : Int) (i : Int)) xs.length (fun k i hi => ?_) (fun k => ?_) xs.length k 0 (by omega) (by omega) (by omega)
      · show impl_IsScore.l0 (k + 1) xs (xs.length : Int) i = _
        simp only [impl_IsScore.l0, Wi_eq, Option.bind_some]
        rw [if_pos (by omega), if_pos (by omega), if_pos (by omega), w64 (by omega), rd_bar]
        unfold barAt bt_at ln_at
        cases inB (xs.getD i z72).f0 1 16 <;> cases inB (xs.getD i z72).f1 100 5000 <;> rfl
      · show impl_IsScore.l0 (k + 1) xs (xs.length : Int) _ = _
        simp only [impl_IsScore.l0]
        rw [if_neg (by omega)]
theorem isScore_true {xs : List S72} (h : isScore xs = true) : 1 ≤ xs.length ∧ xs.length ≤ 20 ∧ ∀ i, i < xs.length → 1 ≤ bt_at xs i ∧ bt_at xs i ≤ 16 ∧ 100 ≤ ln_at xs i ∧ ln_at xs i ≤ 5000 := by
  unfold isScore at h
  rw [Bool.and_eq_true, allF_true, inB_true] at h
  refine ⟨by omega, by omega, fun i hi => ?_⟩
  have := h.1 i (by omega) (by omega)
  unfold barAt at this
  rw [Bool.and_eq_true, inB_true, inB_true] at this
  omega
/-- when bar i begins -/
def tm (xs : List S72) (i : Nat) : Int := foldF (fun j s => s + bt_at xs j * ln_at xs j) 0 i 0
theorem tm_succ (xs : List S72) (i : Nat) : tm xs (i + 1) = tm xs i + bt_at xs i * ln_at xs i := by
  unfold tm
  rw [foldF_snoc, Nat.zero_add]
theorem prod_le {a b : Int} (h : 1 ≤ a ∧ a ≤ 16 ∧ 100 ≤ b ∧ b ≤ 5000) : 100 ≤ a * b ∧ a * b ≤ 80000 := by
  have h1 : 1 * b ≤ a * b := Int.mul_le_mul_of_nonneg_right h.1 (by omega)
  have h2 : a * b ≤ 16 * b := Int.mul_le_mul_of_nonneg_right h.2.1 (by omega)
  omega
theorem tm_le {xs : List S72} (h : isScore xs = true) : ∀ i, i ≤ xs.length → 0 ≤ tm xs i ∧ tm xs i ≤ 80000 * i
  | 0, _ => by unfold tm foldF; omega
  | i + 1, hi => by
    have h1 := tm_le h i (by omega)
    have h2 := prod_le ((isScore_true h).2.2 i (by omega))
    rw [tm_succ]
    omega
theorem tm_mono {xs : List S72} (h : isScore xs = true) {i : Nat} : ∀ j, i + j ≤ xs.length → tm xs i + 100 * j ≤ tm xs (i + j)
  | 0, _ => by rw [Nat.add_zero]; omega
  | j + 1, hj => by
    have h1 := tm_mono h (i := i) j (by omega)
    have h2 := prod_le ((isScore_true h).2.2 (i + j) (by omega))
    rw [← Nat.add_assoc, tm_succ]
    omega

end Go.Proofs.Ytpkllgmeaoodfaa.F
