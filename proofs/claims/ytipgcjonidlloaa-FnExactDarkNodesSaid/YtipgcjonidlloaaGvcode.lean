import Derived.Test.YtipgcjonidlloaaGq
import Derived.Test.YtipgcjonidlloaaGvlit
import Derived.Test.YtipgcjonidlloaaFspec0l10Code
import Derived.Test.YtipgcjonidlloaaFimpl0nodeAsked
namespace Go.Proofs.Ytipgcjonidlloaa.F
open Go.RowKit Go.Proofs.YtipgcjonidlloaaW.PrintWords Go.Proofs.YtipgcjonidlloaaW.PrintLast Go.Proofs.YtipgcjonidlloaaW.PrintMore
set_option linter.unusedVariables false
set_option linter.unusedSimpArgs false
def cdo (E : List Int) (m : Nat) (a : Int) : Int := if inB a 0 ((m : Int) - 1) = true then (if rd E a < 0 then 4 else 0) else 2
theorem spec_code {m : Nat} {xs : List S44} (h : areFuses (m : Int) xs = true) (h1 : 1 ≤ m) (h2 : m ≤ 10) (hx : xs.length ≤ 20) {E L : List Int} (hE : E.length = m) {K : Nat} (hs : ∀ k, K ≤ k → spec_l10Times.f k (m : Int) xs = some (E, L)) (a : Int) (k : Nat) (hk : K + 30 ≤ k) : spec_l10Code.f k (m : Int) xs a = some (cdo E m a) := by
  have hw : wrap64 ((m : Int) - 1) = (m : Int) - 1 := w64 (by omega)
  unfold spec_l10Code.f cdo
  rw [spec_fuses _ xs (by omega) k (by omega), h]
  simp only [Option.bind_some, In_eq, hw, if_true]
  cases g : inB a 0 ((m : Int) - 1) with
  | false => rfl
  | true =>
    rw [inB_true] at g
    simp only [if_true]
    rw [hs k (by omega)]
    simp only [Option.bind_some]
    rw [if_pos (by omega), if_pos (by omega)]
    by_cases c : rd E a < 0
    · rw [if_pos c, if_pos c]
    · rw [if_neg c, if_neg c]
theorem impl_code1 {m : Nat} {xs : List S44} (h : areFuses (m : Int) xs = true) (h1 : 1 ≤ m) (h2 : m ≤ 10) (hx : xs.length ≤ 20) {E L : List Int} (hE : E.length = m) {K : Nat} (ht : ∀ k, K ≤ k → impl_litTimes.f k (m : Int) xs = some (E, L)) (a : Int) (k : Nat) (hk : K + 30 ≤ k) : impl_nodeAsked.f k (m : Int) xs [a] = some (cdo E m a) := by
  have hw : wrap64 ((m : Int) - 1) = (m : Int) - 1 := w64 (by omega)
  have w1 : wrap64 (0 + 1) = 1 := w64 (by omega)
  have r0 : rd [a] 0 = a := rfl
  obtain ⟨k, rfl⟩ : ∃ m, k = m + 6 := ⟨k - 6, by omega⟩
  unfold impl_nodeAsked.f cdo
  rw [impl_fuses _ xs (by omega) (k + 6) (by omega), h]
  have l1 : ([a] : List Int).length = 1 := rfl
  simp only [Option.bind_some, if_true, impl_nodeAsked.l0, Wi_eq, hw, l1, w1, r0]
  rw [if_pos (by omega), if_pos (by omega), if_pos (by omega)]
  cases g : inB a 0 ((m : Int) - 1) with
  | false => rfl
  | true =>
    rw [inB_true] at g
    simp only [if_true]
    rw [if_neg (by omega), ht (k + 4) (by omega)]
    simp only [Option.bind_some, impl_nodeAsked.l1, r0, w1, l1]
    rw [if_pos (by omega), if_pos (by omega), if_pos (by omega), if_pos (by omega), if_pos (by omega)]
    by_cases c : rd E a < 0
    · rw [if_pos c, if_pos c]
    · rw [if_neg c, if_neg c, if_neg (by omega)]
theorem impl_code2 {m : Nat} {xs : List S44} (h : areFuses (m : Int) xs = true) (h1 : 1 ≤ m) (h2 : m ≤ 10) (hx : xs.length ≤ 20) {E L : List Int} (hE : E.length = m) {K : Nat} (ht : ∀ k, K ≤ k → impl_litTimes.f k (m : Int) xs = some (E, L)) (a b : Int) (k : Nat) (hk : K + 30 ≤ k) : impl_nodeAsked.f k (m : Int) xs [a, b] = some (if cdo E m a = 2 then 2 else if cdo E m b = 2 then 2 else if cdo E m a = 4 then 4 else cdo E m b) := by
  have hw : wrap64 ((m : Int) - 1) = (m : Int) - 1 := w64 (by omega)
  have w1 : wrap64 (0 + 1) = 1 := w64 (by omega)
  have w2 : wrap64 (1 + 1) = 2 := w64 (by omega)
  have r0 : rd [a, b] 0 = a := rfl
  have r1 : rd [a, b] 1 = b := rfl
  have l1 : ([a, b] : List Int).length = 2 := rfl
  obtain ⟨k, rfl⟩ : ∃ m, k = m + 8 := ⟨k - 8, by omega⟩
  unfold impl_nodeAsked.f cdo
  rw [impl_fuses _ xs (by omega) (k + 8) (by omega), h]
  simp only [Option.bind_some, if_true, impl_nodeAsked.l0, Wi_eq, hw, l1, w1, w2, r0, r1]
  rw [if_pos (by omega), if_pos (by omega), if_pos (by omega)]
  cases g : inB a 0 ((m : Int) - 1) with
  | false => rfl
  | true =>
    rw [inB_true] at g
    simp only [if_true]
    rw [if_pos (by omega), if_pos (by omega), if_pos (by omega)]
    have n1 : (if rd E a < 0 then (4 : Int) else 0) ≠ 2 := by split <;> omega
    rw [if_neg n1]
    cases g2 : inB b 0 ((m : Int) - 1) with
    | false => rfl
    | true =>
      rw [inB_true] at g2
      simp only [if_true]
      have n2 : (if rd E b < 0 then (4 : Int) else 0) ≠ 2 := by split <;> omega
      rw [if_neg n2, if_neg (by omega), ht (k + 5) (by omega)]
      simp only [Option.bind_some, impl_nodeAsked.l1, r0, r1, w1, w2, l1]
      rw [if_pos (by omega), if_pos (by omega), if_pos (by omega), if_pos (by omega), if_pos (by omega)]
      by_cases c : rd E a < 0
      · rw [if_pos c, if_pos c, if_pos rfl]
      · have z4 : ¬ ((0 : Int) = 4) := by omega
        rw [if_neg c, if_neg c, if_neg z4, if_pos (by omega), if_pos (by omega), if_pos (by omega), if_pos (by omega), if_pos (by omega)]
        by_cases c2 : rd E b < 0
        · rw [if_pos c2, if_pos c2]
        · rw [if_neg c2, if_neg c2, if_neg (by omega)]
theorem cdo_0 {E : List Int} {m : Nat} (h1 : 1 ≤ m) (h : E.getD 0 0 = 0) : cdo E m 0 = 0 := by
  have : rd E 0 = E.getD 0 0 := rfl
  unfold cdo
  rw [inB_true.2 (by omega), if_pos rfl, if_neg (by omega)]
theorem cdo_in {E : List Int} {m : Nat} {a : Int} (h : cdo E m a = 0) : 0 ≤ a ∧ a < (m : Int) := by
  unfold cdo at h
  by_cases g : inB a 0 ((m : Int) - 1) = true
  · rw [inB_true] at g; omega
  · rw [if_neg g] at h; omega
theorem cdo_cases (E : List Int) (m : Nat) (a : Int) : cdo E m a = 0 ∨ cdo E m a = 2 ∨ cdo E m a = 4 := by
  unfold cdo
  split
  · split
    · exact .inr (.inr rfl)
    · exact .inl rfl
  · exact .inr (.inl rfl)

end Go.Proofs.Ytipgcjonidlloaa.F
