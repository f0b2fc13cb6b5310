import Derived.Test.YtipgcjonidlloaaGlFnExactSurelyLitBefore
import Derived.Test.YtipgcjonidlloaaGq
import Derived.Test.YtipgcjonidlloaaGqFuseS
import Derived.Test.YtipgcjonidlloaaFlawsTFuse
import Derived.Test.YtipgcjonidlloaaFspecSurelyLitBefore
import Derived.Test.YtipgcjonidlloaaFimplSurelyLitBefore
import Derived.Test.YtipgcjonidlloaaGvcode
namespace Go.Proofs.Ytipgcjonidlloaa.F
open Go.RowKit Go.Proofs.YtipgcjonidlloaaW.PrintWords Go.Proofs.YtipgcjonidlloaaW.PrintLast Go.Proofs.YtipgcjonidlloaaW.PrintMore
set_option linter.unusedVariables false
set_option linter.unusedSimpArgs false
theorem pick (n : Int) (M0 : List S44) (a2 a3 : Int) {x y : Int} (hx : x = 0 ∨ x = 2 ∨ x = 4) (hy : y = 0 ∨ y = 2 ∨ y = 4) (hb : ¬ (x = 0 ∧ y = 0)) : ∃ c : Int, c ≠ 0 ∧ (if x = 2 then 2 else if y = 2 then 2 else if x = 4 then 4 else y) = c ∧ ∀ k, spec_SurelyLitBefore.j0 (k + 1) n M0 a2 a3 x y (if x = 0 then true else (y == 2)) = some (false, c) := by
  rcases hx with rfl | rfl | rfl <;> rcases hy with rfl | rfl | rfl
  · exact absurd ⟨rfl, rfl⟩ hb
  · exact ⟨2, by omega, rfl, fun k => rfl⟩
  · exact ⟨4, by omega, rfl, fun k => rfl⟩
  · exact ⟨2, by omega, rfl, fun k => rfl⟩
  · exact ⟨2, by omega, rfl, fun k => rfl⟩
  · exact ⟨2, by omega, rfl, fun k => rfl⟩
  · exact ⟨4, by omega, rfl, fun k => rfl⟩
  · exact ⟨2, by omega, rfl, fun k => rfl⟩
  · exact ⟨4, by omega, rfl, fun k => rfl⟩
theorem main_FnExactSurelyLitBefore (a0 : Int) (M0 : List S44) (a2 a3 : Int) (_ : I64 a0) (hM : M0.length ≤ 1000000) (hP : ∀ x ∈ M0, PrI44 x) (_ : I64 a2) (_ : I64 a3) :
    ∃ q1 q2, Evt (fun k => spec_SurelyLitBefore.f k a0 M0 a2 a3 = some (q1, q2)) ∧ Evt (fun k => impl_SurelyLitBefore.f k a0 M0 a2 a3 = some (q1, q2)) := by
  cases h : areFuses a0 M0 with
  | false =>
    refine ⟨false, 1, ⟨M0.length + 4, fun k hk => ?_⟩, ⟨M0.length + 4, fun k hk => ?_⟩⟩
    · show spec_SurelyLitBefore.f k a0 M0 a2 a3 = _
      obtain ⟨k, rfl⟩ : ∃ m, k = m + 1 := ⟨k - 1, by omega⟩
      unfold spec_SurelyLitBefore.f spec_l10Code.f
      rw [spec_fuses a0 M0 (by omega) (k + 1) (by omega), h]; rfl
    · show impl_SurelyLitBefore.f k a0 M0 a2 a3 = _
      unfold impl_SurelyLitBefore.f impl_nodeAsked.f
      rw [impl_fuses a0 M0 (by omega) k (by omega), h]; rfl
  | true =>
    obtain ⟨m, E, L, rfl, m1, m2, hx, hE, hL, h00, ⟨K, hs⟩, ⟨K', ht⟩⟩ := times_is h
    have sc := fun a k hk => spec_code h m1 m2 hx hE hs a k hk
    have ic := fun k hk => impl_code2 h m1 m2 hx hE ht a2 a3 k hk
    by_cases both : cdo E m a2 = 0 ∧ cdo E m a3 = 0
    · have ha := cdo_in both.1
      have hb := cdo_in both.2
      refine ⟨decide (rd L a2 < rd E a3), 0, ⟨K + 40, fun k hk => ?_⟩, ⟨K' + 40, fun k hk => ?_⟩⟩
      · show spec_SurelyLitBefore.f k (m : Int) M0 a2 a3 = _
        obtain ⟨k, rfl⟩ : ∃ m, k = m + 1 := ⟨k - 1, by omega⟩
        unfold spec_SurelyLitBefore.f
        rw [sc a2 (k + 1) (by omega), sc a3 (k + 1) (by omega), both.1, both.2]
        simp only [Option.bind_some, if_true, spec_SurelyLitBefore.j0]
        rw [hs k (by omega)]
        simp only [Option.bind_some]
        rw [if_pos (by omega), if_pos (by omega), if_pos (by omega), if_pos (by omega)]
      · show impl_SurelyLitBefore.f k (m : Int) M0 a2 a3 = _
        unfold impl_SurelyLitBefore.f
        have e0 : (if cdo E m a2 = 2 then 2 else if cdo E m a3 = 2 then 2 else if cdo E m a2 = 4 then 4 else cdo E m a3) = 0 := by rw [both.1, both.2]; rfl
        rw [ic k (by omega), e0]
        simp only [Option.bind_some]
        rw [if_pos trivial, ht k (by omega)]
        simp only [Option.bind_some]
        rw [if_pos (by omega), if_pos (by omega), if_pos (by omega), if_pos (by omega)]
    · have key := pick (m : Int) M0 a2 a3 (cdo_cases E m a2) (cdo_cases E m a3) both
      obtain ⟨c, c0, c1, c2⟩ := key
      refine ⟨false, c, ⟨K + 40, fun k hk => ?_⟩, ⟨K' + 40, fun k hk => ?_⟩⟩
      · show spec_SurelyLitBefore.f k (m : Int) M0 a2 a3 = _
        obtain ⟨k, rfl⟩ : ∃ m, k = m + 1 := ⟨k - 1, by omega⟩
        unfold spec_SurelyLitBefore.f
        rw [sc a2 (k + 1) (by omega), sc a3 (k + 1) (by omega)]
        simp only [Option.bind_some]
        have e := c2 k
        by_cases z : cdo E m a2 = 0
        · rw [if_pos z] at e ⊢; exact e
        · rw [if_neg z] at e ⊢; exact e
      · show impl_SurelyLitBefore.f k (m : Int) M0 a2 a3 = _
        unfold impl_SurelyLitBefore.f
        rw [ic k (by omega), c1]
        simp only [Option.bind_some]
        rw [if_neg c0]
theorem pure_FnExactSurelyLitBefore : Pure_FnExactSurelyLitBefore := by
  intro a0 l1 a2 a3 b0 n1 p1 b2 b3
  rcases sz_FuseS l1 (1000000) (by omega) (by omega) n1 with ⟨z1, s1⟩ | s1
  rotate_left
  · exact ⟨0, ⟨-1, s1, Or.inl (by omega)⟩⟩
  obtain ⟨L1, t1, ne1, tk1, ln1, le1, rm1, jn1, fu1, to1⟩ := to_FuseS l1 (by omega)
  have eq1 := eq_FuseS L1 (by omega)
  obtain ⟨q1, q2, sp, im⟩ := main_FnExactSurelyLitBefore a0 (l1.map conv_FuseS) a2 a3 b0 (by rw [ln1]; omega) (prc_FuseS p1) b2 b3
  obtain ⟨k, hfu1, hto1, heq1, hsp, him⟩ := (fu1.and (to1.and (eq1.and (sp.and im)))).ex
  exact ⟨k, ⟨1000000 - l1.length, s1, Or.inr ⟨by omega, ⟨L1, _, t1, q1, q2, { ne1 := ne1, tk1 := tk1, ln1 := ln1, fu1 := hfu1, rm1 := rm1, jn1 := jn1, eq1 := heq1, sp := hsp, im := him, to1 := hto1 }⟩⟩⟩⟩

end Go.Proofs.Ytipgcjonidlloaa.F
