import Derived.Test.YtfhpgeohgdfgdaaGlFnExactScoreText
import Derived.Test.YtfhpgeohgdfgdaaGq
import Derived.Test.YtfhpgeohgdfgdaaGqBarS
import Derived.Test.YtfhpgeohgdfgdaaFlawsTBar
import Derived.Test.YtfhpgeohgdfgdaaFspecScoreText
import Derived.Test.YtfhpgeohgdfgdaaFimplScoreText
import Derived.Test.YtfhpgeohgdfgdaaGvtext
import Derived.Test.YtfhpgeohgdfgdaaGvscore
import Derived.Test.YtfhpgeohgdfgdaaFspec0l07Text
import Derived.Test.YtfhpgeohgdfgdaaFimpl0scoreText
namespace Go.Proofs.Ytfhpgeohgdfgdaa.F
open Go.RowKit Go.Proofs.YtfhpgeohgdfgdaaW.PrintWords Go.Proofs.YtfhpgeohgdfgdaaW.PrintLast Go.Proofs.YtfhpgeohgdfgdaaW.PrintMore
set_option linter.unusedVariables false
set_option linter.unusedSimpArgs false
def ptxt (xs : List S78) (i : Nat) : ByteArray := (dcs 6 (bt_at xs i) ++ (⟨#[42]⟩ : ByteArray)) ++ dcs 6 (ln_at xs i)
def pts (xs : List S78) : Nat → List ByteArray
  | 0 => []
  | i + 1 => pts xs i ++ [ptxt xs i]
theorem pts_len (xs : List S78) : ∀ i, (pts xs i).length = i
  | 0 => rfl
  | i + 1 => by unfold pts; rw [List.length_append, pts_len xs i]; rfl
theorem ptxt_size (xs : List S78) (i : Nat) : (ptxt xs i).size ≤ 13 := by
  unfold ptxt
  rw [ByteArray.size_append, ByteArray.size_append]
  have h1 := dcs_size 6 (bt_at xs i)
  have h2 := dcs_size 6 (ln_at xs i)
  have h3 : (⟨#[42]⟩ : ByteArray).size = 1 := rfl
  omega
theorem pts_size (xs : List S78) : ∀ (n i : Nat), i < (pts xs n).length → ((pts xs n).getD i ByteArray.empty).size ≤ 13
  | 0, i, h => absurd h (by unfold pts; exact Nat.not_lt_zero _)
  | n + 1, i, h => by
    rw [pts_len] at h
    unfold pts
    by_cases e : i < n
    · rw [List.getD_eq_getElem?_getD, List.getElem?_append_left (by rw [pts_len]; omega), ← List.getD_eq_getElem?_getD]
      exact pts_size xs n i (by rw [pts_len]; omega)
    · rw [List.getD_eq_getElem?_getD, List.getElem?_append_right (by rw [pts_len]; omega), pts_len, show i - n = 0 by omega]
      exact ptxt_size xs n
theorem spec_text {xs : List S78} (h : isScore xs = true) : ∀ (d i k : Nat), xs.length - i = d → i ≤ xs.length → d + xs.length + 10 < k → spec_l07Text.l0 k xs (pts xs i) (i : Int) = some (jnT (pts xs xs.length) (⟨#[44]⟩ : ByteArray) xs.length) := by
  have hs := isScore_true h
  intro d
  induction d with
  | zero =>
    intro i k hd hi hk
    obtain ⟨k, rfl⟩ : ∃ m, k = m + 1 := ⟨k - 1, by omega⟩
    unfold spec_l07Text.l0
    rw [if_neg (by omega), show i = xs.length by omega]
    unfold spec_l01Words.f
    have e := spec_words (pts xs xs.length) (⟨#[44]⟩ : ByteArray) 13 (by show 1 ≤ 100; omega) (pts_size xs xs.length) (by omega) (by rw [pts_len]; omega) xs.length 0 k (by rw [pts_len]; omega) (by omega) (by omega)
    rw [pts_len] at e
    rw [show spec_l01Words.l0 k (pts xs xs.length) (⟨#[44]⟩ : ByteArray) (⟨#[]⟩ : ByteArray) 0 = _ from e]
    rfl
  | succ d ih =>
    intro i k hd hi hk
    obtain ⟨k, rfl⟩ : ∃ m, k = m + 1 := ⟨k - 1, by omega⟩
    have hb := hs.2.2 i (by omega)
    have e := ih (i + 1) k (by omega) (by omega) (by omega)
    have h1 := dcs_size 6 (bt_at xs i)
    have h2 := dcs_size 6 (ln_at xs i)
    have h3 : (⟨#[42]⟩ : ByteArray).size = 1 := rfl
    unfold bt_at at hb h1
    unfold ln_at at hb h2
    unfold spec_l07Text.l0
    rw [rd_bar, if_pos (by omega), if_pos (by omega), spec_dec 6 _ k (by omega) (by show _ < (10 ^ 6 : Int); omega) (by omega) (by omega) (by omega) (by omega)]
    simp only [Option.bind_some]
    rw [if_pos (by omega), spec_dec 6 _ k (by omega) (by show _ < (10 ^ 6 : Int); omega) (by omega) (by omega) (by omega) (by omega)]
    simp only [Option.bind_some]
    rw [if_pos (by rw [ByteArray.size_append]; omega), if_pos (by rw [pts_len]; omega), w64 (by omega)]
    exact e
theorem impl_text {xs : List S78} (h : isScore xs = true) : ∀ (d i k : Nat), xs.length - i = d → i ≤ xs.length → d + xs.length + 10 < k → impl_scoreText.l0 k (pts xs i) xs (xs.length : Int) (i : Int) = some (jnT (pts xs xs.length) (⟨#[44]⟩ : ByteArray) xs.length) := by
  have hs := isScore_true h
  intro d
  induction d with
  | zero =>
    intro i k hd hi hk
    obtain ⟨k, rfl⟩ : ∃ m, k = m + 1 := ⟨k - 1, by omega⟩
    unfold impl_scoreText.l0
    rw [if_neg (by omega), show i = xs.length by omega]
    unfold impl_joinWith.f
    have e := impl_words (pts xs xs.length) (⟨#[44]⟩ : ByteArray) 13 (by show 1 ≤ 100; omega) (pts_size xs xs.length) (by omega) (by rw [pts_len]; omega) xs.length 0 k (by rw [pts_len]; omega) (by omega) (by omega)
    rw [pts_len] at e
    rw [pts_len, show impl_joinWith.l0 k (⟨#[44]⟩ : ByteArray) (⟨#[]⟩ : ByteArray) (pts xs xs.length) (xs.length : Int) 0 = _ from e]
    rfl
  | succ d ih =>
    intro i k hd hi hk
    obtain ⟨k, rfl⟩ : ∃ m, k = m + 1 := ⟨k - 1, by omega⟩
    have hb := hs.2.2 i (by omega)
    have e := ih (i + 1) k (by omega) (by omega) (by omega)
    have h1 := dcs_size 6 (bt_at xs i)
    have h2 := dcs_size 6 (ln_at xs i)
    have h3 : (⟨#[42]⟩ : ByteArray).size = 1 := rfl
    unfold bt_at at hb h1
    unfold ln_at at hb h2
    unfold impl_scoreText.l0
    rw [rd_bar, if_pos (by omega), if_pos (by omega), if_pos (by omega), impl_dec 6 _ k (by omega) (by show _ < (10 ^ 6 : Int); omega) (by omega) (by omega) (by omega) (by omega)]
    simp only [Option.bind_some]
    rw [if_pos (by omega), impl_dec 6 _ k (by omega) (by show _ < (10 ^ 6 : Int); omega) (by omega) (by omega) (by omega) (by omega)]
    simp only [Option.bind_some]
    rw [if_pos (by rw [ByteArray.size_append]; omega), if_pos (by rw [pts_len]; omega), w64 (by omega)]
    exact e
theorem main_FnExactScoreText (M0 : List S78) (hM : M0.length ≤ 1000000) (hP : ∀ x ∈ M0, PrI78 x) : ∃ q1 q2, Evt (fun k => spec_ScoreText.f k M0 = some (q1, q2)) ∧ Evt (fun k => impl_ScoreText.f k M0 = some (q1, q2)) := by
  cases h : isScore M0 with
  | false =>
    refine ⟨(⟨#[]⟩ : ByteArray), 1, ⟨M0.length + 2, fun k hk => ?_⟩, ⟨M0.length + 2, fun k hk => ?_⟩⟩
    · show spec_ScoreText.f k M0 = _
      unfold spec_ScoreText.f
      rw [spec_score M0 (by omega) k (by omega), h]; rfl
    · show impl_ScoreText.f k M0 = _
      unfold impl_ScoreText.f
      rw [impl_score M0 (by omega) k (by omega), h]; rfl
  | true =>
    refine ⟨jnT (pts M0 M0.length) (⟨#[44]⟩ : ByteArray) M0.length, 0, ⟨M0.length + M0.length + 11, fun k hk => ?_⟩, ⟨M0.length + M0.length + 11, fun k hk => ?_⟩⟩
    · show spec_ScoreText.f k M0 = _
      unfold spec_ScoreText.f
      rw [spec_score M0 (by omega) k (by omega), h]
      simp only [Option.bind_some]
      rw [if_pos trivial, show spec_l07Text.f k M0 = _ from spec_text h M0.length 0 k (by omega) (by omega) (by omega)]; rfl
    · show impl_ScoreText.f k M0 = _
      unfold impl_ScoreText.f
      rw [impl_score M0 (by omega) k (by omega), h]
      simp only [Option.bind_some]
      rw [if_pos trivial, show impl_scoreText.f k M0 = _ from impl_text h M0.length 0 k (by omega) (by omega) (by omega)]; rfl
theorem pure_FnExactScoreText : Pure_FnExactScoreText := by
  intro l0 n0 p0
  rcases sz_BarS l0 (1000000) (by omega) (by omega) n0 with ⟨z1, s1⟩ | s1
  rotate_left
  · exact ⟨0, ⟨-1, s1, Or.inl (by omega)⟩⟩
  obtain ⟨L0, t0, ne0, tk0, ln0, le0, rm0, jn0, fu0, to0⟩ := to_BarS l0 (by omega)
  have eq0 := eq_BarS L0 (by omega)
  obtain ⟨q1, q2, sp, im⟩ := main_FnExactScoreText (l0.map conv_BarS) (by rw [ln0]; omega) (prc_BarS p0)
  obtain ⟨k, hfu0, hto0, heq0, hsp, him⟩ := (fu0.and (to0.and (eq0.and (sp.and im)))).ex
  exact ⟨k, ⟨1000000 - l0.length, s1, Or.inr ⟨by omega, ⟨L0, _, t0, q1, q2, { ne0 := ne0, tk0 := tk0, ln0 := ln0, fu0 := hfu0, rm0 := rm0, jn0 := jn0, eq0 := heq0, sp := hsp, im := him, to0 := hto0 }⟩⟩⟩⟩

end Go.Proofs.Ytfhpgeohgdfgdaa.F
