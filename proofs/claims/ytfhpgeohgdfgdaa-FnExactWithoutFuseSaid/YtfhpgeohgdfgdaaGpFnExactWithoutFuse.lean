import Derived.Test.YtfhpgeohgdfgdaaGlFnExactWithoutFuse
import Derived.Test.YtfhpgeohgdfgdaaGq
import Derived.Test.YtfhpgeohgdfgdaaGqFuseS
import Derived.Test.YtfhpgeohgdfgdaaFlawsTFuse
import Derived.Test.YtfhpgeohgdfgdaaFspecWithoutFuse
import Derived.Test.YtfhpgeohgdfgdaaFimplWithoutFuse
import Derived.Test.YtfhpgeohgdfgdaaGvwithout
namespace Go.Proofs.Ytfhpgeohgdfgdaa.F
open Go.RowKit Go.Proofs.YtfhpgeohgdfgdaaW.PrintWords Go.Proofs.YtfhpgeohgdfgdaaW.PrintLast Go.Proofs.YtfhpgeohgdfgdaaW.PrintMore
set_option linter.unusedVariables false
set_option linter.unusedSimpArgs false
theorem main_FnExactWithoutFuse (a0 : Int) (M1 : List S109) (a2 : Int) (_ : I64 a0) (hM : M1.length ≤ 1000000) (hP : ∀ x ∈ M1, PrI109 x) (_ : I64 a2) :
    ∃ q1 q2, q1.length ≤ 3000000 ∧ Evt (fun k => spec_WithoutFuse.f k a0 M1 a2 = some (q1, q2)) ∧ Evt (fun k => impl_WithoutFuse.f k a0 M1 a2 = some (q1, q2)) := by
  cases h : areFuses a0 M1 with
  | false =>
    refine ⟨[], 1, by simp, ⟨M1.length + 2, fun k hk => ?_⟩, ⟨M1.length + 2, fun k hk => ?_⟩⟩
    · show spec_WithoutFuse.f k a0 M1 a2 = _
      unfold spec_WithoutFuse.f
      rw [spec_fuses a0 M1 (by omega) k (by omega), h]; rfl
    · show impl_WithoutFuse.f k a0 M1 a2 = _
      unfold impl_WithoutFuse.f
      rw [impl_fuses a0 M1 (by omega) k (by omega), h]; rfl
  | true =>
    cases g : inB a2 0 (wrap64 ((M1.length : Int) - 1)) with
    | false =>
      refine ⟨[], 2, by simp, ⟨M1.length + 2, fun k hk => ?_⟩, ⟨M1.length + 2, fun k hk => ?_⟩⟩
      · show spec_WithoutFuse.f k a0 M1 a2 = _
        unfold spec_WithoutFuse.f
        rw [spec_fuses a0 M1 (by omega) k (by omega), h, In_eq, g]; rfl
      · show impl_WithoutFuse.f k a0 M1 a2 = _
        unfold impl_WithoutFuse.f
        rw [impl_fuses a0 M1 (by omega) k (by omega), h, index_eq, g]; rfl
    | true =>
      have g2 := g
      rw [w64 (n := (M1.length : Int) - 1) (by omega), inB_true] at g2
      obtain ⟨n, rfl⟩ : ∃ n : Nat, a2 = n := ⟨a2.toNat, by omega⟩
      have hl := without_len M1 n (by omega)
      refine ⟨without M1 n, 0, by omega, ⟨M1.length + 2, fun k hk => ?_⟩, ⟨M1.length + 2, fun k hk => ?_⟩⟩
      · show spec_WithoutFuse.f k a0 M1 n = _
        unfold spec_WithoutFuse.f
        rw [spec_fuses a0 M1 (by omega) k (by omega), h, In_eq, g, spec_without M1 n (by omega) (by omega)]; rfl
      · show impl_WithoutFuse.f k a0 M1 n = _
        unfold impl_WithoutFuse.f
        rw [impl_fuses a0 M1 (by omega) k (by omega), h, index_eq, g, impl_without M1 n (by omega) (by omega)]; rfl
theorem pure_FnExactWithoutFuse : Pure_FnExactWithoutFuse := by
  intro a0 l1 a2 b0 n1 p1 b2
  rcases sz_FuseS l1 (1000000) (by omega) (by omega) n1 with ⟨z1, s1⟩ | s1
  rotate_left
  · exact ⟨0, ⟨-1, s1, Or.inl (by omega)⟩⟩
  obtain ⟨L1, t1, ne1, tk1, ln1, le1, rm1, jn1, fu1, to1⟩ := to_FuseS l1 (by omega)
  have eq1 := eq_FuseS L1 (by omega)
  obtain ⟨q1, q2, ql, sp, im⟩ := main_FnExactWithoutFuse a0 (l1.map conv_FuseS) a2 b0 (by rw [ln1]; omega) (prc_FuseS p1) b2
  have er := eq_FuseS q1 (by omega)
  have mk1 := mark_FuseS (l1.map conv_FuseS) (101) (by omega) (by omega) (by omega)
  have mg := mark_FuseS q1 101 (by omega) (by omega) (by omega)
  have hd := held_FuseS q1.length 101 (by omega) (by omega) (by omega)
  obtain ⟨k, hfu1, hto1, heq1, hsp, him, her, hmk1, hmg, hhd⟩ := (fu1.and (to1.and (eq1.and (sp.and (im.and (er.and (mk1.and (mg.and hd)))))))).ex
  exact ⟨k, ⟨1000000 - l1.length, s1, Or.inr ⟨by omega, ⟨L1, _, t1, q1, q2, _, _, _, _, { ne1 := ne1, tk1 := tk1, ln1 := ln1, fu1 := hfu1, rm1 := rm1, jn1 := jn1, eq1 := heq1, sp := hsp, im := him, er := her, mk1 := hmk1, mk10 := (by omega), mg := hmg, mg0 := (by omega), hd := hhd, hl := seq_FuseS_len _ _, to1 := hto1 }⟩⟩⟩⟩

end Go.Proofs.Ytfhpgeohgdfgdaa.F
