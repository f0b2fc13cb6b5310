import Derived.Test.YtpkllgmeaoodfaaGlFnExactLitBetween
import Derived.Test.YtpkllgmeaoodfaaGq
import Derived.Test.YtpkllgmeaoodfaaGqFuseS
import Derived.Test.YtpkllgmeaoodfaaFlawsTFuse
import Derived.Test.YtpkllgmeaoodfaaFspecLitBetween
import Derived.Test.YtpkllgmeaoodfaaFimplLitBetween
import Derived.Test.YtpkllgmeaoodfaaGvlit
import Derived.Test.YtpkllgmeaoodfaaFspec0l10Code
import Derived.Test.YtpkllgmeaoodfaaFimpl0nodeAsked
namespace Go.Proofs.Ytpkllgmeaoodfaa.F
open Go.RowKit Go.Proofs.YtpkllgmeaoodfaaW.PrintWords Go.Proofs.YtpkllgmeaoodfaaW.PrintLast Go.Proofs.YtpkllgmeaoodfaaW.PrintMore
set_option linter.unusedVariables false
set_option linter.unusedSimpArgs false
theorem main_FnExactLitBetween (a0 : Int) (M0 : List S84) (a2 : Int) (_ : I64 a0) (hM : M0.length ≤ 1000000) (hP : ∀ x ∈ M0, PrI84 x) (_ : I64 a2) :
    ∃ q1 q2 q3, Evt (fun k => spec_LitBetween.f k a0 M0 a2 = some (q1, q2, q3)) ∧ Evt (fun k => impl_LitBetween.f k a0 M0 a2 = some (q1, q2, q3)) := by
  cases h : areFuses a0 M0 with
  | false =>
    refine ⟨0, 0, 1, ⟨M0.length + 2, fun k hk => ?_⟩, ⟨M0.length + 2, fun k hk => ?_⟩⟩
    · show spec_LitBetween.f k a0 M0 a2 = _
      unfold spec_LitBetween.f spec_l10Code.f
      rw [spec_fuses a0 M0 (by omega) k (by omega), h]; rfl
    · show impl_LitBetween.f k a0 M0 a2 = _
      unfold impl_LitBetween.f impl_nodeAsked.f
      rw [impl_fuses a0 M0 (by omega) k (by omega), h]; rfl
  | true =>
    obtain ⟨m, E, L, rfl, m1, m2, hx, hE, hL, h00, ⟨K, hs⟩, ⟨K', ht⟩⟩ := times_is h
    have hw : wrap64 ((m : Int) - 1) = (m : Int) - 1 := w64 (by omega)
    cases g : inB a2 0 ((m : Int) - 1) with
    | false =>
      refine ⟨0, 0, 2, ⟨M0.length + 2, fun k hk => ?_⟩, ⟨M0.length + 4, fun k hk => ?_⟩⟩
      · show spec_LitBetween.f k (m : Int) M0 a2 = _
        unfold spec_LitBetween.f spec_l10Code.f
        rw [spec_fuses _ M0 (by omega) k (by omega), h]
        simp only [Option.bind_some, In_eq, hw, g]
        rfl
      · show impl_LitBetween.f k (m : Int) M0 a2 = _
        obtain ⟨k, rfl⟩ : ∃ m, k = m + 1 := ⟨k - 1, by omega⟩
        unfold impl_LitBetween.f impl_nodeAsked.f
        rw [impl_fuses _ M0 (by omega) (k + 1) (by omega), h]
        simp only [Option.bind_some, if_true, impl_nodeAsked.l0, Wi_eq, hw, List.length_cons, List.length_nil]
        rw [if_pos (by omega), if_pos (by omega), if_pos (by omega), show rd [a2] 0 = a2 from rfl, g]
        rfl
    | true =>
      rw [inB_true] at g
      have ge : inB a2 0 ((m : Int) - 1) = true := inB_true.2 g
      by_cases c : rd E a2 < 0
      · refine ⟨0, 0, 4, ⟨M0.length + 2 + K, fun k hk => ?_⟩, ⟨M0.length + 4 + K', fun k hk => ?_⟩⟩
        · show spec_LitBetween.f k (m : Int) M0 a2 = _
          unfold spec_LitBetween.f spec_l10Code.f
          rw [spec_fuses _ M0 (by omega) k (by omega), h]
          simp only [Option.bind_some, In_eq, hw, ge, if_true]
          rw [hs k (by omega)]
          simp only [Option.bind_some]
          rw [if_pos (by omega), if_pos (by omega), if_pos c]
          rfl
        · show impl_LitBetween.f k (m : Int) M0 a2 = _
          obtain ⟨k, rfl⟩ : ∃ m, k = m + 3 := ⟨k - 3, by omega⟩
          unfold impl_LitBetween.f impl_nodeAsked.f
          rw [impl_fuses _ M0 (by omega) (k + 3) (by omega), h]
          simp only [Option.bind_some, if_true, impl_nodeAsked.l0, impl_nodeAsked.l1, Wi_eq, hw, List.length_cons, List.length_nil]
          rw [if_pos (by omega), if_pos (by omega), if_pos (by omega), show rd [a2] 0 = a2 from rfl, ge, if_pos rfl, if_neg (by rw [w64 (by omega)]; omega), ht (k + 1) (by omega)]
          simp only [Option.bind_some]
          rw [if_pos (by omega), if_pos (by omega), if_pos (by omega), if_pos (by omega), if_pos (by omega), if_pos c]
          rfl
      · refine ⟨rd E a2, rd L a2, 0, ⟨M0.length + 2 + K, fun k hk => ?_⟩, ⟨M0.length + 4 + K', fun k hk => ?_⟩⟩
        · show spec_LitBetween.f k (m : Int) M0 a2 = _
          unfold spec_LitBetween.f spec_l10Code.f
          rw [spec_fuses _ M0 (by omega) k (by omega), h]
          simp only [Option.bind_some, In_eq, hw, ge, if_true]
          rw [hs k (by omega)]
          simp only [Option.bind_some]
          rw [if_pos (by omega), if_pos (by omega), if_neg c]
          simp only [Option.bind_some, if_true]
          rw [if_pos (by omega), if_pos (by omega), if_pos (by omega)]
        · show impl_LitBetween.f k (m : Int) M0 a2 = _
          obtain ⟨k, rfl⟩ : ∃ m, k = m + 4 := ⟨k - 4, by omega⟩
          unfold impl_LitBetween.f impl_nodeAsked.f
          rw [impl_fuses _ M0 (by omega) (k + 4) (by omega), h]
          simp only [Option.bind_some, if_true, impl_nodeAsked.l0, impl_nodeAsked.l1, Wi_eq, hw, List.length_cons, List.length_nil]
          rw [if_pos (by omega), if_pos (by omega), if_pos (by omega), show rd [a2] 0 = a2 from rfl, ge, if_pos rfl, if_neg (by rw [w64 (by omega)]; omega), ht (k + 2) (by omega)]
          simp only [Option.bind_some]
          rw [if_pos (by omega), if_pos (by omega), if_pos (by omega), if_pos (by omega), if_pos (by omega), if_neg c, if_neg (by rw [w64 (by omega)]; omega)]
          simp only [Option.bind_some, if_true]
          rw [ht (k + 4) (by omega)]
          simp only [Option.bind_some]
          rw [if_pos (by omega), if_pos (by omega), if_pos (by omega)]
theorem pure_FnExactLitBetween : Pure_FnExactLitBetween := by
  intro a0 l1 a2 b0 n1 p1 b2
  rcases sz_FuseS l1 (1000000) (by omega) (by omega) n1 with ⟨z1, s1⟩ | s1
  rotate_left
  · exact ⟨0, ⟨-1, s1, Or.inl (by omega)⟩⟩
  obtain ⟨L1, t1, ne1, tk1, ln1, le1, rm1, jn1, fu1, to1⟩ := to_FuseS l1 (by omega)
  have eq1 := eq_FuseS L1 (by omega)
  obtain ⟨q1, q2, q3, sp, im⟩ := main_FnExactLitBetween a0 (l1.map conv_FuseS) a2 b0 (by rw [ln1]; omega) (prc_FuseS p1) b2
  obtain ⟨k, hfu1, hto1, heq1, hsp, him⟩ := (fu1.and (to1.and (eq1.and (sp.and im)))).ex
  exact ⟨k, ⟨1000000 - l1.length, s1, Or.inr ⟨by omega, ⟨L1, _, t1, q1, q2, q3, { ne1 := ne1, tk1 := tk1, ln1 := ln1, fu1 := hfu1, rm1 := rm1, jn1 := jn1, eq1 := heq1, sp := hsp, im := him, to1 := hto1 }⟩⟩⟩⟩

end Go.Proofs.Ytpkllgmeaoodfaa.F
