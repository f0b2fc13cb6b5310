import Derived.Test.YtpkllgmeaoodfaaGq
import Derived.Test.YtpkllgmeaoodfaaGvbasic
import Derived.Test.YtpkllgmeaoodfaaFspec0l01Split
import Derived.Test.YtpkllgmeaoodfaaFimpl0splitAt
namespace Go.Proofs.Ytpkllgmeaoodfaa.F
open Go.RowKit Go.Proofs.YtpkllgmeaoodfaaW.PrintWords Go.Proofs.YtpkllgmeaoodfaaW.PrintLast Go.Proofs.YtpkllgmeaoodfaaW.PrintMore
set_option linter.unusedVariables false
set_option linter.unusedSimpArgs false
/-- both cut a text at the same places -/
theorem split_go (s : ByteArray) (c : Int) (hs : s.size ≤ 1000000) : ∀ (d i a : Nat) (acc : List ByteArray), s.size - i = d → i ≤ s.size → a ≤ i → acc.length ≤ i → (∀ x ∈ acc, x.size ≤ s.size) →
    ∃ ps : List ByteArray, ps.length ≤ s.size + 1 ∧ (∀ x ∈ ps, x.size ≤ s.size) ∧ (∀ k, d + 3 ≤ k → spec_l01Split.l0 k s c acc (a : Int) (i : Int) = some ps) ∧ (∀ k, d + 3 ≤ k → impl_splitAt.l0 k s c acc (a : Int) (i : Int) = some ps) := by
  have hx : ∀ a b : Nat, (s.extract a b).size ≤ s.size := fun a b => by rw [ByteArray.size_extract]; omega
  have happ : ∀ (acc : List ByteArray) (y : ByteArray), (∀ x ∈ acc, x.size ≤ s.size) → y.size ≤ s.size → ∀ x ∈ acc ++ [y], x.size ≤ s.size := by
    intro acc y h1 h2 x hm
    rcases List.mem_append.1 hm with h | h
    · exact h1 x h
    · rw [List.mem_singleton.1 h]; exact h2
  intro d
  induction d with
  | zero =>
    intro i a acc hd hi ha hl hm
    have e : i = s.size := by omega
    subst e
    refine ⟨acc ++ [s.extract a s.size], by rw [List.length_append, List.length_singleton]; omega, happ acc _ hm (hx _ _), fun k hk => ?_, fun k hk => ?_⟩
    · obtain ⟨k, rfl⟩ : ∃ m, k = m + 2 := ⟨k - 2, by omega⟩
      unfold spec_l01Split.l0
      rw [if_pos (by omega), if_pos (by omega), if_pos (by omega), if_pos (by omega), if_pos (by omega), w64 (by omega)]
      unfold spec_l01Split.l0
      rw [if_neg (by omega), Int.toNat_natCast, Int.toNat_natCast]
    · obtain ⟨k, rfl⟩ : ∃ m, k = m + 1 := ⟨k - 1, by omega⟩
      unfold impl_splitAt.l0
      rw [if_neg (by omega), if_pos (by omega), if_pos (by omega), if_pos (by omega), Int.toNat_natCast]
  | succ d ih =>
    intro i a acc hd hi ha hl hm
    have hw : wrap64 ((i : Int) + 1) = ((i + 1 : Nat) : Int) := w64 (by omega)
    by_cases e : bt s (i : Int) = c
    · obtain ⟨ps, p1, p2, p3, p4⟩ := ih (i + 1) (i + 1) (acc ++ [s.extract a i]) (by omega) (by omega) (by omega) (by rw [List.length_append, List.length_singleton]; omega) (happ acc _ hm (hx _ _))
      refine ⟨ps, p1, p2, fun k hk => ?_, fun k hk => ?_⟩
      · obtain ⟨k, rfl⟩ : ∃ m, k = m + 1 := ⟨k - 1, by omega⟩
        unfold spec_l01Split.l0
        rw [if_pos (by omega), if_neg (by omega), if_pos (by omega), if_pos (by omega), if_pos e, if_pos (by omega), if_pos (by omega), if_pos (by omega), hw, Int.toNat_natCast, Int.toNat_natCast]
        exact p3 k (by omega)
      · obtain ⟨k, rfl⟩ : ∃ m, k = m + 1 := ⟨k - 1, by omega⟩
        unfold impl_splitAt.l0
        rw [if_pos (by omega), if_pos (by omega), if_pos e, if_pos (by omega), if_pos (by omega), if_pos (by omega), if_pos (by omega), hw, Int.toNat_natCast, Int.toNat_natCast]
        exact p4 k (by omega)
    · obtain ⟨ps, p1, p2, p3, p4⟩ := ih (i + 1) a acc (by omega) (by omega) (by omega) (by omega) hm
      refine ⟨ps, p1, p2, fun k hk => ?_, fun k hk => ?_⟩
      · obtain ⟨k, rfl⟩ : ∃ m, k = m + 1 := ⟨k - 1, by omega⟩
        unfold spec_l01Split.l0
        rw [if_pos (by omega), if_neg (by omega), if_pos (by omega), if_pos (by omega), if_neg e, hw]
        exact p3 k (by omega)
      · obtain ⟨k, rfl⟩ : ∃ m, k = m + 1 := ⟨k - 1, by omega⟩
        unfold impl_splitAt.l0
        rw [if_pos (by omega), if_pos (by omega), if_neg e, hw]
        exact p4 k (by omega)
theorem split_is (s : ByteArray) (c : Int) (hs : s.size ≤ 1000000) : ∃ ps : List ByteArray, ps.length ≤ s.size + 1 ∧ (∀ x ∈ ps, x.size ≤ s.size) ∧ (∀ k, s.size + 3 ≤ k → spec_l01Split.f k s c = some ps) ∧ (∀ k, s.size + 3 ≤ k → impl_splitAt.f k s c = some ps) :=
  split_go s c hs s.size 0 0 [] (by omega) (by omega) (by omega) (by simp) (by simp)

end Go.Proofs.Ytpkllgmeaoodfaa.F
