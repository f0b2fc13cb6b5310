import Derived.Test.YtpkllgmeaoodfaaGlFnExactLastLit
import Derived.Test.YtpkllgmeaoodfaaGq
import Derived.Test.YtpkllgmeaoodfaaGqFuseS
import Derived.Test.YtpkllgmeaoodfaaFlawsTFuse
import Derived.Test.YtpkllgmeaoodfaaFspecLastLit
import Derived.Test.YtpkllgmeaoodfaaFimplLastLit
import Derived.Test.YtpkllgmeaoodfaaGvlit
import Derived.Test.YtpkllgmeaoodfaaFspec0l10Code
namespace Go.Proofs.Ytpkllgmeaoodfaa.F
open Go.RowKit Go.Proofs.YtpkllgmeaoodfaaW.PrintWords Go.Proofs.YtpkllgmeaoodfaaW.PrintLast Go.Proofs.YtpkllgmeaoodfaaW.PrintMore
set_option linter.unusedVariables false
set_option linter.unusedSimpArgs false
theorem lastLoop (m : Nat) (L : List Int) (hL : L.length = m) (hm : m ≤ 10) : ∀ (d i b : Nat), m - i = d → i ≤ m → b < m → ∃ q1 q2 q3, (∀ k, d < k → spec_LastLit.l0 k (m : Int) L (b : Int) (i : Int) = some (q1, q2, q3)) ∧ (∀ k, d < k → impl_LastLit.l0 k (b : Int) L L (L.length : Int) (i : Int) = some (q1, q2, q3)) := by
  intro d
  induction d with
  | zero =>
    intro i b hd hi hb
    refine ⟨(b : Int), rd L (b : Int), 0, fun k hk => ?_, fun k hk => ?_⟩
    · obtain ⟨k, rfl⟩ : ∃ m, k = m + 1 := ⟨k - 1, by omega⟩
      unfold spec_LastLit.l0
      rw [if_neg (by omega), if_pos (by omega), if_pos (by omega)]
    · obtain ⟨k, rfl⟩ : ∃ m, k = m + 1 := ⟨k - 1, by omega⟩
      unfold impl_LastLit.l0
      rw [if_neg (by omega), if_pos (by omega), if_pos (by omega)]
  | succ d ih =>
    intro i b hd hi hb
    have hw : wrap64 ((i : Int) + 1) = ((i + 1 : Nat) : Int) := w64 (by omega)
    by_cases c : rd L (i : Int) > rd L (b : Int)
    · obtain ⟨q1, q2, q3, e1, e2⟩ := ih (i + 1) i (by omega) (by omega) (by omega)
      refine ⟨q1, q2, q3, fun k hk => ?_, fun k hk => ?_⟩
      · obtain ⟨k, rfl⟩ : ∃ m, k = m + 1 := ⟨k - 1, by omega⟩
        unfold spec_LastLit.l0
        rw [if_pos (by omega), if_pos (by omega), if_pos (by omega), if_pos (by omega), if_pos (by omega), if_pos c, hw]
        exact e1 k (by omega)
      · obtain ⟨k, rfl⟩ : ∃ m, k = m + 1 := ⟨k - 1, by omega⟩
        unfold impl_LastLit.l0
        rw [if_pos (by omega), if_pos (by omega), if_pos (by omega), if_pos (by omega), if_pos (by omega), if_pos c, hw]
        exact e2 k (by omega)
    · obtain ⟨q1, q2, q3, e1, e2⟩ := ih (i + 1) b (by omega) (by omega) hb
      refine ⟨q1, q2, q3, fun k hk => ?_, fun k hk => ?_⟩
      · obtain ⟨k, rfl⟩ : ∃ m, k = m + 1 := ⟨k - 1, by omega⟩
        unfold spec_LastLit.l0
        rw [if_pos (by omega), if_pos (by omega), if_pos (by omega), if_pos (by omega), if_pos (by omega), if_neg c, hw]
        exact e1 k (by omega)
      · obtain ⟨k, rfl⟩ : ∃ m, k = m + 1 := ⟨k - 1, by omega⟩
        unfold impl_LastLit.l0
        rw [if_pos (by omega), if_pos (by omega), if_pos (by omega), if_pos (by omega), if_pos (by omega), if_neg c, hw]
        exact e2 k (by omega)
theorem main_FnExactLastLit (a0 : Int) (M0 : List S84) (_ : I64 a0) (hM : M0.length ≤ 1000000) (hP : ∀ x ∈ M0, PrI84 x) :
    ∃ q1 q2 q3, Evt (fun k => spec_LastLit.f k a0 M0 = some (q1, q2, q3)) ∧ Evt (fun k => impl_LastLit.f k a0 M0 = some (q1, q2, q3)) := by
  cases h : areFuses a0 M0 with
  | false =>
    refine ⟨0, 0, 1, ⟨M0.length + 2, fun k hk => ?_⟩, ⟨M0.length + 2, fun k hk => ?_⟩⟩
    · show spec_LastLit.f k a0 M0 = _
      unfold spec_LastLit.f spec_l10Code.f
      rw [spec_fuses a0 M0 (by omega) k (by omega), h]; rfl
    · show impl_LastLit.f k a0 M0 = _
      unfold impl_LastLit.f
      rw [impl_fuses a0 M0 (by omega) k (by omega), h]; rfl
  | true =>
    obtain ⟨m, E, L, rfl, m1, m2, hx, hE, hL, h00, ⟨K, hs⟩, ⟨K', ht⟩⟩ := times_is h
    have hw : wrap64 ((m : Int) - 1) = (m : Int) - 1 := w64 (by omega)
    have ge : inB 0 0 ((m : Int) - 1) = true := inB_true.2 (by omega)
    have c : ¬ rd E 0 < 0 := by
      have : rd E 0 = E.getD 0 0 := rfl
      omega
    obtain ⟨q1, q2, q3, e1, e2⟩ := lastLoop m L hL m2 m 0 0 (by omega) (by omega) (by omega)
    refine ⟨q1, q2, q3, ⟨M0.length + 12 + K, fun k hk => ?_⟩, ⟨M0.length + 12 + K', fun k hk => ?_⟩⟩
    · show spec_LastLit.f k (m : Int) M0 = _
      unfold spec_LastLit.f spec_l10Code.f
      rw [spec_fuses _ M0 (by omega) k (by omega), h]
      simp only [Option.bind_some, In_eq, hw, ge, if_true]
      rw [hs k (by omega)]
      simp only [Option.bind_some]
      rw [if_pos (by omega), if_pos (by omega), if_neg c]
      simp only [Option.bind_some, if_true]
      exact e1 k (by omega)
    · show impl_LastLit.f k (m : Int) M0 = _
      unfold impl_LastLit.f
      rw [impl_fuses _ M0 (by omega) k (by omega), h]
      simp only [Option.bind_some, if_true]
      rw [ht k (by omega)]
      simp only [Option.bind_some]
      exact e2 k (by omega)
theorem pure_FnExactLastLit : Pure_FnExactLastLit := by
  intro a0 l1 b0 n1 p1
  rcases sz_FuseS l1 (1000000) (by omega) (by omega) n1 with ⟨z1, s1⟩ | s1
  rotate_left
  · exact ⟨0, ⟨-1, s1, Or.inl (by omega)⟩⟩
  obtain ⟨L1, t1, ne1, tk1, ln1, le1, rm1, jn1, fu1, to1⟩ := to_FuseS l1 (by omega)
  have eq1 := eq_FuseS L1 (by omega)
  obtain ⟨q1, q2, q3, sp, im⟩ := main_FnExactLastLit a0 (l1.map conv_FuseS) b0 (by rw [ln1]; omega) (prc_FuseS p1)
  obtain ⟨k, hfu1, hto1, heq1, hsp, him⟩ := (fu1.and (to1.and (eq1.and (sp.and im)))).ex
  exact ⟨k, ⟨1000000 - l1.length, s1, Or.inr ⟨by omega, ⟨L1, _, t1, q1, q2, q3, { ne1 := ne1, tk1 := tk1, ln1 := ln1, fu1 := hfu1, rm1 := rm1, jn1 := jn1, eq1 := heq1, sp := hsp, im := him, to1 := hto1 }⟩⟩⟩⟩

end Go.Proofs.Ytpkllgmeaoodfaa.F
