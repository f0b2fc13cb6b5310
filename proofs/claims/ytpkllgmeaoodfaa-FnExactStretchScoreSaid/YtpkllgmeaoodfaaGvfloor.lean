import Derived.Test.YtpkllgmeaoodfaaGq
import Derived.Test.YtpkllgmeaoodfaaGvbasic
import Derived.Test.YtpkllgmeaoodfaaFspec0l01Floor
import Derived.Test.YtpkllgmeaoodfaaFimpl0floorDiv
namespace Go.Proofs.Ytpkllgmeaoodfaa.F
open Go.RowKit Go.Proofs.YtpkllgmeaoodfaaW.PrintWords Go.Proofs.YtpkllgmeaoodfaaW.PrintLast Go.Proofs.YtpkllgmeaoodfaaW.PrintMore
set_option linter.unusedVariables false
set_option linter.unusedSimpArgs false
theorem tdiv_pos {a b : Int} (hb : 0 < b) : (Int.tmod a b < 0 → Int.tdiv a b = a / b + 1) ∧ (¬ Int.tmod a b < 0 → Int.tdiv a b = a / b) := by
  have h1 := Int.emod_nonneg a (show b ≠ 0 by omega)
  have h2 := Int.emod_lt_of_pos a hb
  have h3 : Int.sign b = 1 := Int.sign_eq_one_of_pos hb
  rw [Int.tmod_eq_emod, Int.tdiv_eq_ediv, h3]
  by_cases h : 0 ≤ a ∨ b ∣ a
  · rw [if_pos h, if_pos h]
    omega
  · rw [if_neg h, if_neg h]
    omega
theorem ediv_small {a b : Int} (hb : 0 < b) (ha : -4611686018427387904 ≤ a ∧ a ≤ 4611686018427387904) : -4611686018427387904 ≤ a / b ∧ a / b ≤ 4611686018427387904 := by
  constructor
  · exact (Int.le_ediv_iff_mul_le hb).2 (by
      have : -4611686018427387904 * b ≤ -4611686018427387904 * 1 := Int.mul_le_mul_of_nonpos_left (by omega) (by omega)
      omega)
  · by_cases h : 0 ≤ a
    · have := Int.ediv_le_self b h
      omega
    · have := Int.ediv_neg_of_neg_of_pos (show a < 0 by omega) hb
      omega
theorem Fl_eq {a b : Int} (hb : 0 < b) (ha : -4611686018427387904 ≤ a ∧ a ≤ 4611686018427387904) : impl_floorDiv.f a b = some (a / b) := by
  have h := tdiv_pos (a := a) hb
  have hs := ediv_small hb ha
  unfold impl_floorDiv.f
  rw [if_neg (by omega)]
  by_cases hm : Int.tmod a b < 0
  · rw [if_pos hm, h.1 hm, w64 (n := a / b + 1) (by omega), w64 (by omega)]
    congr 1; omega
  · rw [if_neg hm, h.2 hm, w64 (by omega)]
theorem SFl_eq {a b : Int} (hb : 0 < b) (ha : -4611686018427387904 ≤ a ∧ a ≤ 4611686018427387904) : spec_l01Floor.f a b = some (a / b) := by
  have h := tdiv_pos (a := a) hb
  have hs := ediv_small hb ha
  unfold spec_l01Floor.f
  rw [if_neg (by omega), if_neg (by omega)]
  by_cases hm : Int.tmod a b < 0
  · rw [if_pos hm, h.1 hm, w64 (n := a / b + 1) (by omega), w64 (by omega)]
    congr 1; omega
  · rw [if_neg hm, h.2 hm, w64 (by omega)]
theorem tdiv_nn {a b : Int} (ha : 0 ≤ a) : Int.tdiv a b = a / b := Int.tdiv_eq_ediv_of_nonneg ha
theorem prod_nn {a b A B : Int} (ha : 0 ≤ a ∧ a ≤ A) (hb : 0 ≤ b ∧ b ≤ B) : 0 ≤ a * b ∧ a * b ≤ A * B := ⟨Int.mul_nonneg ha.1 hb.1, Int.mul_le_mul ha.2 hb.2 hb.1 (by omega)⟩
/-- a product of two numbers of either sign -/
theorem prod_abs {a b A B : Int} (ha : -A ≤ a ∧ a ≤ A) (hb : 0 ≤ b ∧ b ≤ B) : -(A * B) ≤ a * b ∧ a * b ≤ A * B := by
  have h1 : a * b ≤ A * b := Int.mul_le_mul_of_nonneg_right ha.2 hb.1
  have h2 : (-A) * b ≤ a * b := Int.mul_le_mul_of_nonneg_right ha.1 hb.1
  have h3 : A * b ≤ A * B := Int.mul_le_mul_of_nonneg_left hb.2 (by omega)
  rw [Int.neg_mul] at h2
  omega

end Go.Proofs.Ytpkllgmeaoodfaa.F
