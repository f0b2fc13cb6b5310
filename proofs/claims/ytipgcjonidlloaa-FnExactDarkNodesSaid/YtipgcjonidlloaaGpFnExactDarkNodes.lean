import Derived.Test.YtipgcjonidlloaaGlFnExactDarkNodes
import Derived.Test.YtipgcjonidlloaaGq
import Derived.Test.YtipgcjonidlloaaGqFuseS
import Derived.Test.YtipgcjonidlloaaGqInt64S
import Derived.Test.YtipgcjonidlloaaFlawsTFuse
import Derived.Test.YtipgcjonidlloaaFspecDarkNodes
import Derived.Test.YtipgcjonidlloaaFimplDarkNodes
import Derived.Test.YtipgcjonidlloaaFlawsTInt64
import Derived.Test.YtipgcjonidlloaaGvcode
namespace Go.Proofs.Ytipgcjonidlloaa.F
open Go.RowKit Go.Proofs.YtipgcjonidlloaaW.PrintWords Go.Proofs.YtipgcjonidlloaaW.PrintLast Go.Proofs.YtipgcjonidlloaaW.PrintMore
set_option linter.unusedVariables false
set_option linter.unusedSimpArgs false
theorem dark_go (m : Nat) (E : List Int) (hE : E.length = m) (hm : m ≤ 10) : ∀ (d i : Nat) (X : List Int), m - i = d → i ≤ m → X.length ≤ i → ∃ q : List Int, q.length ≤ 10 ∧ (∀ k, d < k → spec_DarkNodes.l0 k (m : Int) E X (i : Int) = some (q, 0)) ∧ (∀ k, d < k → impl_DarkNodes.l0 k X E (E.length : Int) (i : Int) = some (q, 0)) := by
  intro d
  induction d with
  | zero =>
    intro i X hd hi hX
    refine ⟨X, by omega, fun k hk => ?_, fun k hk => ?_⟩
    · obtain ⟨k, rfl⟩ : ∃ m, k = m + 1 := ⟨k - 1, by omega⟩
      unfold spec_DarkNodes.l0
      rw [if_neg (by omega)]
    · obtain ⟨k, rfl⟩ : ∃ m, k = m + 1 := ⟨k - 1, by omega⟩
      unfold impl_DarkNodes.l0
      rw [if_neg (by omega)]
  | succ d ih =>
    intro i X hd hi hX
    have hw : wrap64 ((i : Int) + 1) = ((i + 1 : Nat) : Int) := w64 (by omega)
    by_cases c : rd E (i : Int) < 0
    · obtain ⟨q, q0, e1, e2⟩ := ih (i + 1) (X ++ [(i : Int)]) (by omega) (by omega) (by rw [List.length_append, List.length_singleton]; omega)
      refine ⟨q, q0, fun k hk => ?_, fun k hk => ?_⟩
      · obtain ⟨k, rfl⟩ : ∃ m, k = m + 1 := ⟨k - 1, by omega⟩
        unfold spec_DarkNodes.l0
        rw [if_pos (by omega), if_pos (by omega), if_pos (by omega), if_pos c, if_pos (by omega), hw]
        exact e1 k (by omega)
      · obtain ⟨k, rfl⟩ : ∃ m, k = m + 1 := ⟨k - 1, by omega⟩
        unfold impl_DarkNodes.l0
        rw [if_pos (by omega), if_pos (by omega), if_pos (by omega), if_pos c, if_pos (by omega), hw]
        exact e2 k (by omega)
    · obtain ⟨q, q0, e1, e2⟩ := ih (i + 1) X (by omega) (by omega) (by omega)
      refine ⟨q, q0, fun k hk => ?_, fun k hk => ?_⟩
      · obtain ⟨k, rfl⟩ : ∃ m, k = m + 1 := ⟨k - 1, by omega⟩
        unfold spec_DarkNodes.l0
        rw [if_pos (by omega), if_pos (by omega), if_pos (by omega), if_neg c, hw]
        exact e1 k (by omega)
      · obtain ⟨k, rfl⟩ : ∃ m, k = m + 1 := ⟨k - 1, by omega⟩
        unfold impl_DarkNodes.l0
        rw [if_pos (by omega), if_pos (by omega), if_pos (by omega), if_neg c, hw]
        exact e2 k (by omega)
theorem main_FnExactDarkNodes (a0 : Int) (M0 : List S44) (_ : I64 a0) (hM : M0.length ≤ 1000000) (hP : ∀ x ∈ M0, PrI44 x) :
    ∃ q1 q2, q1.length ≤ 3000000 ∧ Evt (fun k => spec_DarkNodes.f k a0 M0 = some (q1, q2)) ∧ Evt (fun k => impl_DarkNodes.f k a0 M0 = some (q1, q2)) := by
  cases h : areFuses a0 M0 with
  | false =>
    refine ⟨[], 1, by simp, ⟨M0.length + 4, fun k hk => ?_⟩, ⟨M0.length + 4, fun k hk => ?_⟩⟩
    · show spec_DarkNodes.f k a0 M0 = _
      unfold spec_DarkNodes.f spec_l10Code.f
      rw [spec_fuses a0 M0 (by omega) k (by omega), h]; rfl
    · show impl_DarkNodes.f k a0 M0 = _
      unfold impl_DarkNodes.f
      rw [impl_fuses a0 M0 (by omega) k (by omega), h]; rfl
  | true =>
    obtain ⟨m, E, L, rfl, m1, m2, hx, hE, hL, h00, ⟨K, hs⟩, ⟨K', ht⟩⟩ := times_is h
    obtain ⟨q, q0, e1, e2⟩ := dark_go m E hE m2 m 0 [] (by omega) (by omega) (by simp)
    refine ⟨q, 0, by omega, ⟨K + 40, fun k hk => ?_⟩, ⟨K' + 40, fun k hk => ?_⟩⟩
    · show spec_DarkNodes.f k (m : Int) M0 = _
      unfold spec_DarkNodes.f
      rw [spec_code h m1 m2 hx hE hs 0 k (by omega), cdo_0 m1 h00]
      simp only [Option.bind_some, if_true]
      rw [hs k (by omega)]
      exact e1 k (by omega)
    · show impl_DarkNodes.f k (m : Int) M0 = _
      unfold impl_DarkNodes.f
      rw [impl_fuses _ M0 (by omega) k (by omega), h]
      simp only [Option.bind_some, if_true]
      rw [ht k (by omega)]
      exact e2 k (by omega)
theorem pure_FnExactDarkNodes : Pure_FnExactDarkNodes := by
  intro a0 l1 b0 n1 p1
  rcases sz_FuseS l1 (1000000) (by omega) (by omega) n1 with ⟨z1, s1⟩ | s1
  rotate_left
  · exact ⟨0, ⟨-1, s1, Or.inl (by omega)⟩⟩
  obtain ⟨L1, t1, ne1, tk1, ln1, le1, rm1, jn1, fu1, to1⟩ := to_FuseS l1 (by omega)
  have eq1 := eq_FuseS L1 (by omega)
  obtain ⟨q1, q2, ql, sp, im⟩ := main_FnExactDarkNodes a0 (l1.map conv_FuseS) b0 (by rw [ln1]; omega) (prc_FuseS p1)
  have er := eq_Int64S q1 (by omega)
  have mk1 := mark_FuseS (l1.map conv_FuseS) (101) (by omega) (by omega) (by omega)
  have mg := mark_Int64S q1 101 (by omega) (by omega) (by omega)
  have hd := held_Int64S q1.length 101 (by omega) (by omega) (by omega)
  obtain ⟨k, hfu1, hto1, heq1, hsp, him, her, hmk1, hmg, hhd⟩ := (fu1.and (to1.and (eq1.and (sp.and (im.and (er.and (mk1.and (mg.and hd)))))))).ex
  exact ⟨k, ⟨1000000 - l1.length, s1, Or.inr ⟨by omega, ⟨L1, _, t1, q1, q2, _, _, _, _, { ne1 := ne1, tk1 := tk1, ln1 := ln1, fu1 := hfu1, rm1 := rm1, jn1 := jn1, eq1 := heq1, sp := hsp, im := him, er := her, mk1 := hmk1, mk10 := (by omega), mg := hmg, mg0 := (by omega), hd := hhd, hl := seq_Int64S_len _ _, to1 := hto1 }⟩⟩⟩⟩

end Go.Proofs.Ytipgcjonidlloaa.F
