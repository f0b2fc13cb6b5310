import Derived.Test.YtpkllgmeaoodfaaGlFnExactStretchScore
import Derived.Test.YtpkllgmeaoodfaaGq
import Derived.Test.YtpkllgmeaoodfaaGqBarS
import Derived.Test.YtpkllgmeaoodfaaFlawsTBar
import Derived.Test.YtpkllgmeaoodfaaFspecStretchScore
import Derived.Test.YtpkllgmeaoodfaaFimplStretchScore
import Derived.Test.YtpkllgmeaoodfaaGvscore
import Derived.Test.YtpkllgmeaoodfaaGvfloor
import Derived.Test.YtpkllgmeaoodfaaFspec0l01Nearest
import Derived.Test.YtpkllgmeaoodfaaFimpl0nearest
namespace Go.Proofs.Ytpkllgmeaoodfaa.F
open Go.RowKit Go.Proofs.YtpkllgmeaoodfaaW.PrintWords Go.Proofs.YtpkllgmeaoodfaaW.PrintLast Go.Proofs.YtpkllgmeaoodfaaW.PrintMore
set_option linter.unusedVariables false
set_option linter.unusedSimpArgs false
def nst (b p : Int) : Int := (2 * (b * p) + 100) / 200
theorem near_s {a : Int} (h : -10000000 ≤ a ∧ a ≤ 10000000) : spec_l01Nearest.f a 100 = some ((2 * a + 100) / 200) := by
  unfold spec_l01Nearest.f
  rw [w64 (n := 2 * a) (by omega), w64 (n := 2 * a + 100) (by omega), show wrap64 (2 * 100) = 200 by have := w64 (n := 2 * 100) (by omega); omega, SFl_eq (by omega) (by omega)]
  rfl
theorem near_i {a : Int} (h : -10000000 ≤ a ∧ a ≤ 10000000) : impl_nearest.f a 100 = some ((2 * a + 100) / 200) := by
  unfold impl_nearest.f
  rw [w64 (n := 2 * a) (by omega), w64 (n := 2 * a + 100) (by omega), show wrap64 (2 * 100) = 200 by have := w64 (n := 2 * 100) (by omega); omega, Fl_eq (by omega) (by omega)]
  rfl
def strd (xs : List S72) (p : Int) : Nat → List S72
  | 0 => []
  | i + 1 => strd xs p i ++ [(⟨bt_at xs i, nst (ln_at xs i) p⟩ : S72)]
theorem strd_len (xs : List S72) (p : Int) : ∀ i, (strd xs p i).length = i
  | 0 => rfl
  | i + 1 => by unfold strd; rw [List.length_append, strd_len xs p i]; rfl
theorem main_FnExactStretchScore (M0 : List S72) (a1 : Int) (hM : M0.length ≤ 1000000) (hP : ∀ x ∈ M0, PrI72 x) (_ : I64 a1) :
    ∃ q1 q2, q1.length ≤ 3000000 ∧ Evt (fun k => spec_StretchScore.f k M0 a1 = some (q1, q2)) ∧ Evt (fun k => impl_StretchScore.f k M0 a1 = some (q1, q2)) := by
  cases h : isScore M0 with
  | false =>
    refine ⟨[], 1, by simp, ⟨M0.length + 2, fun k hk => ?_⟩, ⟨M0.length + 2, fun k hk => ?_⟩⟩
    · show spec_StretchScore.f k M0 a1 = _
      unfold spec_StretchScore.f
      rw [spec_score M0 (by omega) k (by omega), h]; rfl
    · show impl_StretchScore.f k M0 a1 = _
      unfold impl_StretchScore.f
      rw [impl_score M0 (by omega) k (by omega), h]; rfl
  | true =>
    have hs := isScore_true h
    cases g : inB a1 50 200 with
    | false =>
      refine ⟨[], 2, by simp, ⟨M0.length + 2, fun k hk => ?_⟩, ⟨M0.length + 2, fun k hk => ?_⟩⟩
      · show spec_StretchScore.f k M0 a1 = _
        unfold spec_StretchScore.f
        rw [spec_score M0 (by omega) k (by omega), h]
        simp only [Option.bind_some]
        rw [In_eq, g]; rfl
      · show impl_StretchScore.f k M0 a1 = _
        unfold impl_StretchScore.f
        rw [impl_score M0 (by omega) k (by omega), h]
        simp only [Option.bind_some]
        rw [Wi_eq, g]; rfl
    | true =>
      rw [inB_true] at g
      have hn : ∀ i, i < M0.length → 0 ≤ ln_at M0 i * a1 ∧ ln_at M0 i * a1 ≤ 5000 * 200 := fun i hi => prod_nn (a := ln_at M0 i) (b := a1) (A := 5000) (B := 200) (by have := hs.2.2 i hi; omega) (by omega)
      have sl : ∀ (r : Option (List S72 × Int)), (∀ k, M0.length + 3 ≤ k → (if isScore (strd M0 a1 M0.length) = true then some (strd M0 a1 M0.length, (0 : Int)) else some (([] : List S72), 5)) = r) → ∀ (d i k : Nat), M0.length - i = d → i ≤ M0.length → d + M0.length + 5 < k → spec_StretchScore.l0 k M0 a1 (strd M0 a1 i) (i : Int) = r := by
        intro r hr d
        induction d with
        | zero =>
          intro i k hd hi hk
          obtain ⟨k, rfl⟩ : ∃ m, k = m + 1 := ⟨k - 1, by omega⟩
          unfold spec_StretchScore.l0
          rw [if_neg (by omega), show i = M0.length by omega, spec_score _ (by rw [strd_len]; omega) k (by rw [strd_len]; omega)]
          simp only [Option.bind_some]
          exact hr k (by omega)
        | succ d ih =>
          intro i k hd hi hk
          obtain ⟨k, rfl⟩ : ∃ m, k = m + 1 := ⟨k - 1, by omega⟩
          have e := ih (i + 1) k (by omega) (by omega) (by omega)
          have hp := hn i (by omega)
          unfold ln_at at hp
          unfold spec_StretchScore.l0
          rw [rd_bar, if_pos (by omega), if_pos (by omega), w64 (n := (M0.getD i z72).f1 * a1) (by omega), near_s (by omega)]
          simp only [Option.bind_some]
          rw [if_pos (by rw [strd_len]; omega), w64 (by omega)]
          exact e
      have il : ∀ (r : Option (List S72 × Int)), (∀ k, M0.length + 3 ≤ k → (if isScore (strd M0 a1 M0.length) = true then some (strd M0 a1 M0.length, (0 : Int)) else some (([] : List S72), 5)) = r) → ∀ (d i k : Nat), M0.length - i = d → i ≤ M0.length → d + M0.length + 5 < k → impl_StretchScore.l0 k a1 (strd M0 a1 i) M0 (M0.length : Int) (i : Int) = r := by
        intro r hr d
        induction d with
        | zero =>
          intro i k hd hi hk
          obtain ⟨k, rfl⟩ : ∃ m, k = m + 1 := ⟨k - 1, by omega⟩
          unfold impl_StretchScore.l0
          rw [if_neg (by omega), show i = M0.length by omega, impl_score _ (by rw [strd_len]; omega) k (by rw [strd_len]; omega)]
          simp only [Option.bind_some]
          exact hr k (by omega)
        | succ d ih =>
          intro i k hd hi hk
          obtain ⟨k, rfl⟩ : ∃ m, k = m + 1 := ⟨k - 1, by omega⟩
          have e := ih (i + 1) k (by omega) (by omega) (by omega)
          have hp := hn i (by omega)
          unfold ln_at at hp
          unfold impl_StretchScore.l0
          rw [rd_bar, if_pos (by omega), if_pos (by omega), if_pos (by omega), w64 (n := (M0.getD i z72).f1 * a1) (by omega), near_i (by omega)]
          simp only [Option.bind_some]
          rw [if_pos (by rw [strd_len]; omega), w64 (by omega)]
          exact e
      cases e : isScore (strd M0 a1 M0.length) with
      | false =>
        refine ⟨[], 5, by simp, ⟨M0.length + M0.length + 6, fun k hk => ?_⟩, ⟨M0.length + M0.length + 6, fun k hk => ?_⟩⟩
        · show spec_StretchScore.f k M0 a1 = _
          unfold spec_StretchScore.f
          rw [spec_score M0 (by omega) k (by omega), h]
          simp only [Option.bind_some]
          rw [In_eq, inB_true.2 g]
          exact sl _ (fun k _ => by rw [e]; rfl) M0.length 0 k (by omega) (by omega) (by omega)
        · show impl_StretchScore.f k M0 a1 = _
          unfold impl_StretchScore.f
          rw [impl_score M0 (by omega) k (by omega), h]
          simp only [Option.bind_some]
          rw [Wi_eq, inB_true.2 g]
          exact il _ (fun k _ => by rw [e]; rfl) M0.length 0 k (by omega) (by omega) (by omega)
      | true =>
        refine ⟨strd M0 a1 M0.length, 0, by rw [strd_len]; omega, ⟨M0.length + M0.length + 6, fun k hk => ?_⟩, ⟨M0.length + M0.length + 6, fun k hk => ?_⟩⟩
        · show spec_StretchScore.f k M0 a1 = _
          unfold spec_StretchScore.f
          rw [spec_score M0 (by omega) k (by omega), h]
          simp only [Option.bind_some]
          rw [In_eq, inB_true.2 g]
          exact sl _ (fun k _ => by rw [e]; rfl) M0.length 0 k (by omega) (by omega) (by omega)
        · show impl_StretchScore.f k M0 a1 = _
          unfold impl_StretchScore.f
          rw [impl_score M0 (by omega) k (by omega), h]
          simp only [Option.bind_some]
          rw [Wi_eq, inB_true.2 g]
          exact il _ (fun k _ => by rw [e]; rfl) M0.length 0 k (by omega) (by omega) (by omega)
theorem pure_FnExactStretchScore : Pure_FnExactStretchScore := by
  intro l0 a1 n0 p0 b1
  rcases sz_BarS l0 (1000000) (by omega) (by omega) n0 with ⟨z1, s1⟩ | s1
  rotate_left
  · exact ⟨0, ⟨-1, s1, Or.inl (by omega)⟩⟩
  obtain ⟨L0, t0, ne0, tk0, ln0, le0, rm0, jn0, fu0, to0⟩ := to_BarS l0 (by omega)
  have eq0 := eq_BarS L0 (by omega)
  obtain ⟨q1, q2, ql, sp, im⟩ := main_FnExactStretchScore (l0.map conv_BarS) a1 (by rw [ln0]; omega) (prc_BarS p0) b1
  have er := eq_BarS q1 (by omega)
  have mk1 := mark_BarS (l0.map conv_BarS) (101) (by omega) (by omega) (by omega)
  have mg := mark_BarS q1 101 (by omega) (by omega) (by omega)
  have hd := held_BarS q1.length 101 (by omega) (by omega) (by omega)
  obtain ⟨k, hfu0, hto0, heq0, hsp, him, her, hmk1, hmg, hhd⟩ := (fu0.and (to0.and (eq0.and (sp.and (im.and (er.and (mk1.and (mg.and hd)))))))).ex
  exact ⟨k, ⟨1000000 - l0.length, s1, Or.inr ⟨by omega, ⟨L0, _, t0, q1, q2, _, _, _, _, { ne0 := ne0, tk0 := tk0, ln0 := ln0, fu0 := hfu0, rm0 := rm0, jn0 := jn0, eq0 := heq0, sp := hsp, im := him, er := her, mk1 := hmk1, mk10 := (by omega), mg := hmg, mg0 := (by omega), hd := hhd, hl := seq_BarS_len _ _, to0 := hto0 }⟩⟩⟩⟩

end Go.Proofs.Ytpkllgmeaoodfaa.F
