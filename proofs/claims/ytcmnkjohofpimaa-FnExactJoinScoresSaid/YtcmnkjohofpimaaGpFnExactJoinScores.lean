import Derived.Test.YtcmnkjohofpimaaGlFnExactJoinScores
import Derived.Test.YtcmnkjohofpimaaGq
import Derived.Test.YtcmnkjohofpimaaGqBarS
import Derived.Test.YtcmnkjohofpimaaFlawsTBar
import Derived.Test.YtcmnkjohofpimaaFspecJoinScores
import Derived.Test.YtcmnkjohofpimaaFimplJoinScores
import Derived.Test.YtcmnkjohofpimaaGvscore
namespace Go.Proofs.Ytcmnkjohofpimaa.F
open Go.RowKit Go.Proofs.YtcmnkjohofpimaaW.PrintWords Go.Proofs.YtcmnkjohofpimaaW.PrintLast Go.Proofs.YtcmnkjohofpimaaW.PrintMore
set_option linter.unusedVariables false
set_option linter.unusedSimpArgs false
theorem main_FnExactJoinScores (M0 M1 : List S88) (hM : M0.length ≤ 1000000) (hP : ∀ x ∈ M0, PrI88 x) (hM1 : M1.length ≤ 1000000) (hP1 : ∀ x ∈ M1, PrI88 x) :
    ∃ q1 q2, q1.length ≤ 3000000 ∧ Evt (fun k => spec_JoinScores.f k M0 M1 = some (q1, q2)) ∧ Evt (fun k => impl_JoinScores.f k M0 M1 = some (q1, q2)) := by
  have hw : wrap64 ((M0.length : Int) + (M1.length : Int)) = (M0.length : Int) + M1.length := w64 (by omega)
  by_cases h : isScore M0 = true ∧ isScore M1 = true
  · by_cases hl : (M0.length : Int) + M1.length > 20
    · refine ⟨[], 3, by simp, ⟨M0.length + M1.length + 3, fun k hk => ?_⟩, ⟨M0.length + M1.length + 3, fun k hk => ?_⟩⟩
      · obtain ⟨k, rfl⟩ : ∃ m, k = m + 1 := ⟨k - 1, by omega⟩
        show spec_JoinScores.f (k + 1) M0 M1 = _
        unfold spec_JoinScores.f
        rw [spec_score M0 (by omega) _ (by omega), spec_score M1 (by omega) _ (by omega), h.1, h.2]
        simp only [Option.bind_some, spec_JoinScores.j0, hw, Bool.not_true, if_true]
        rw [if_neg (by decide), if_pos hl]
      · obtain ⟨k, rfl⟩ : ∃ m, k = m + 1 := ⟨k - 1, by omega⟩
        show impl_JoinScores.f (k + 1) M0 M1 = _
        unfold impl_JoinScores.f
        rw [impl_score M0 (by omega) _ (by omega), impl_score M1 (by omega) _ (by omega), h.1, h.2]
        simp only [Option.bind_some, impl_JoinScores.j0, hw, Bool.not_true, if_true]
        rw [if_neg (by decide), if_pos hl]
    · refine ⟨M0 ++ M1, 0, by rw [List.length_append]; omega, ⟨M0.length + M1.length + 3, fun k hk => ?_⟩, ⟨M0.length + M1.length + 3, fun k hk => ?_⟩⟩
      · obtain ⟨k, rfl⟩ : ∃ m, k = m + 1 := ⟨k - 1, by omega⟩
        show spec_JoinScores.f (k + 1) M0 M1 = _
        unfold spec_JoinScores.f
        rw [spec_score M0 (by omega) _ (by omega), spec_score M1 (by omega) _ (by omega), h.1, h.2]
        simp only [Option.bind_some, spec_JoinScores.j0, hw, Bool.not_true, if_true, List.nil_append, List.length_nil]
        rw [if_neg (by decide), if_neg hl, if_pos (by omega), if_pos (by omega)]
      · obtain ⟨k, rfl⟩ : ∃ m, k = m + 1 := ⟨k - 1, by omega⟩
        show impl_JoinScores.f (k + 1) M0 M1 = _
        unfold impl_JoinScores.f
        rw [impl_score M0 (by omega) _ (by omega), impl_score M1 (by omega) _ (by omega), h.1, h.2]
        simp only [Option.bind_some, impl_JoinScores.j0, hw, Bool.not_true, if_true, List.nil_append, List.length_nil]
        rw [if_neg (by decide), if_neg hl, if_pos (by omega), if_pos (by omega)]
  · refine ⟨[], 1, by simp, ⟨M0.length + M1.length + 3, fun k hk => ?_⟩, ⟨M0.length + M1.length + 3, fun k hk => ?_⟩⟩
    · obtain ⟨k, rfl⟩ : ∃ m, k = m + 1 := ⟨k - 1, by omega⟩
      show spec_JoinScores.f (k + 1) M0 M1 = _
      unfold spec_JoinScores.f
      rw [spec_score M0 (by omega) _ (by omega), spec_score M1 (by omega) _ (by omega)]
      simp only [Option.bind_some, spec_JoinScores.j0]
      cases h0 : isScore M0 <;> cases h1 : isScore M1 <;> first | rfl | exact absurd ⟨h0, h1⟩ h
    · obtain ⟨k, rfl⟩ : ∃ m, k = m + 1 := ⟨k - 1, by omega⟩
      show impl_JoinScores.f (k + 1) M0 M1 = _
      unfold impl_JoinScores.f
      rw [impl_score M0 (by omega) _ (by omega), impl_score M1 (by omega) _ (by omega)]
      simp only [Option.bind_some, impl_JoinScores.j0]
      cases h0 : isScore M0 <;> cases h1 : isScore M1 <;> first | rfl | exact absurd ⟨h0, h1⟩ h
theorem pure_FnExactJoinScores : Pure_FnExactJoinScores := by
  intro l0 l1 n0 p0 n1 p1
  rcases sz_BarS l0 (1000000) (by omega) (by omega) n0 with ⟨z1, s1⟩ | s1
  rotate_left
  · exact ⟨0, ⟨-1, s1, Or.inl (by omega)⟩⟩
  rcases sz_BarS l1 (1000000 - (l0.length : Int)) (by omega) (by omega) n1 with ⟨z2, s2⟩ | s2
  rotate_left
  · exact ⟨0, ⟨1000000 - l0.length, s1, Or.inr ⟨by omega, ⟨-1, s2, Or.inl (by omega)⟩⟩⟩⟩
  obtain ⟨L0, t0, ne0, tk0, ln0, le0, rm0, jn0, fu0, to0⟩ := to_BarS l0 (by omega)
  have eq0 := eq_BarS L0 (by omega)
  obtain ⟨L1, t1, ne1, tk1, ln1, le1, rm1, jn1, fu1, to1⟩ := to_BarS l1 (by omega)
  have eq1 := eq_BarS L1 (by omega)
  obtain ⟨q1, q2, ql, sp, im⟩ := main_FnExactJoinScores (l0.map conv_BarS) (l1.map conv_BarS) (by rw [ln0]; omega) (prc_BarS p0) (by rw [ln1]; omega) (prc_BarS p1)
  have er := eq_BarS q1 (by omega)
  have mk1 := mark_BarS (l0.map conv_BarS) (101) (by omega) (by omega) (by omega)
  have mk2 := mark_BarS (l1.map conv_BarS) (101 + 2 * ((l0.map conv_BarS).length : Int)) (by omega) (by omega) (by omega)
  have mg := mark_BarS q1 101 (by omega) (by omega) (by omega)
  have hd := held_BarS q1.length 101 (by omega) (by omega) (by omega)
  obtain ⟨k, hfu0, hto0, heq0, hfu1, hto1, heq1, hsp, him, her, hmk1, hmk2, hmg, hhd⟩ := (fu0.and (to0.and (eq0.and (fu1.and (to1.and (eq1.and (sp.and (im.and (er.and (mk1.and (mk2.and (mg.and hd)))))))))))).ex
  exact ⟨k, ⟨1000000 - l0.length, s1, Or.inr ⟨by omega, ⟨1000000 - (l0.length : Int) - l1.length, s2, Or.inr ⟨by omega, ⟨L0, _, t0, L1, _, t1, q1, q2, _, _, _, _, _, _, { ne0 := ne0, tk0 := tk0, ln0 := ln0, fu0 := hfu0, rm0 := rm0, jn0 := jn0, eq0 := heq0, ne1 := ne1, tk1 := tk1, ln1 := ln1, fu1 := hfu1, rm1 := rm1, jn1 := jn1, eq1 := heq1, sp := hsp, im := him, er := her, mk1 := hmk1, mk10 := (by omega), mk2 := hmk2, mk20 := (by omega), mg := hmg, mg0 := (by omega), hd := hhd, hl := seq_BarS_len _ _, to0 := hto0, to1 := hto1 }⟩⟩⟩⟩⟩⟩

end Go.Proofs.Ytcmnkjohofpimaa.F
