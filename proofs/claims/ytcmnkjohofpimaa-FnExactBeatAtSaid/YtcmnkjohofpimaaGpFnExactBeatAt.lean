import Derived.Test.YtcmnkjohofpimaaGlFnExactBeatAt
import Derived.Test.YtcmnkjohofpimaaGq
import Derived.Test.YtcmnkjohofpimaaGqBarS
import Derived.Test.YtcmnkjohofpimaaFlawsTBar
import Derived.Test.YtcmnkjohofpimaaFspecBeatAt
import Derived.Test.YtcmnkjohofpimaaFimplBeatAt
import Derived.Test.YtcmnkjohofpimaaGvend
import Derived.Test.YtcmnkjohofpimaaGvistime
namespace Go.Proofs.Ytcmnkjohofpimaa.F
open Go.RowKit Go.Proofs.YtcmnkjohofpimaaW.PrintWords Go.Proofs.YtcmnkjohofpimaaW.PrintLast Go.Proofs.YtcmnkjohofpimaaW.PrintMore
set_option linter.unusedVariables false
set_option linter.unusedSimpArgs false
theorem spec_at_loop {xs : List S88} (h : isScore xs = true) {t : Int} (h0 : 0 ≤ t) (h9 : t ≤ 10000000) (bar : Nat) : ∀ (k : Nat), bar < xs.length → t < tm xs (bar + 1) → xs.length + bar < k →
    ∃ b : Nat, spec_BeatAt.l0 k xs t (bar : Int) = some ((b : Int), (t - tm xs b) / ln_at xs b, 0) ∧ b < xs.length ∧ tm xs b ≤ t ∧ t < tm xs (b + 1) := by
  have hs := isScore_true h
  induction bar with
  | zero =>
    intro k hb ht hk
    obtain ⟨k, rfl⟩ : ∃ m, k = m + 1 := ⟨k - 1, by omega⟩
    have hl := hs.2.2 0 hb
    have e0 : tm xs 0 = 0 := rfl
    refine ⟨0, ?_, hb, by omega, ht⟩
    simp only [spec_BeatAt.l0]
    rw [spec_time h 0 hb 0 (by omega) k (by omega), Int.zero_mul, Int.add_zero]
    simp only [Option.bind_some]
    rw [if_neg (by omega), if_pos (by omega), if_pos (by omega), rd_bar]
    show (if ln_at xs 0 = 0 then none else some (((0 : Nat) : Int), wrap64 (Int.tdiv (wrap64 (t - tm xs 0)) (ln_at xs 0)), 0)) = _
    have hd := Int.ediv_le_self (ln_at xs 0) (show 0 ≤ t - tm xs 0 by omega)
    have hn := Int.ediv_nonneg (show 0 ≤ t - tm xs 0 by omega) (show 0 ≤ ln_at xs 0 by omega)
    rw [if_neg (by omega), w64 (n := t - tm xs 0) (by omega), Int.tdiv_eq_ediv_of_nonneg (by omega), w64 (by omega)]
  | succ bar ih =>
    intro k hb ht hk
    obtain ⟨k, rfl⟩ : ∃ m, k = m + 1 := ⟨k - 1, by omega⟩
    have hl := hs.2.2 (bar + 1) hb
    have ht1 := tm_le h (bar + 1) (by omega)
    simp only [spec_BeatAt.l0]
    rw [spec_time h (bar + 1) hb 0 (by omega) k (by omega), Int.zero_mul, Int.add_zero]
    simp only [Option.bind_some]
    by_cases c : tm xs (bar + 1) > t
    · rw [if_pos c, w64 (by omega), show ((bar + 1 : Nat) : Int) - 1 = (bar : Int) by omega]
      exact ih k (by omega) c (by omega)
    · refine ⟨bar + 1, ?_, hb, by omega, ht⟩
      rw [if_neg c, if_pos (by omega), if_pos (by omega), rd_bar]
      show (if ln_at xs (bar + 1) = 0 then none else some (((bar + 1 : Nat) : Int), wrap64 (Int.tdiv (wrap64 (t - tm xs (bar + 1))) (ln_at xs (bar + 1))), 0)) = _
      have hd := Int.ediv_le_self (ln_at xs (bar + 1)) (show 0 ≤ t - tm xs (bar + 1) by omega)
      have hn := Int.ediv_nonneg (show 0 ≤ t - tm xs (bar + 1) by omega) (show 0 ≤ ln_at xs (bar + 1) by omega)
      rw [if_neg (by omega), w64 (n := t - tm xs (bar + 1)) (by omega), Int.tdiv_eq_ediv_of_nonneg (by omega), w64 (by omega)]
theorem impl_at_loop {xs : List S88} (h : isScore xs = true) {t : Int} (h0 : 0 ≤ t) (h9 : t ≤ 10000000) (d : Nat) : ∀ (k i : Nat), xs.length - i = d → i ≤ xs.length → tm xs i ≤ t → d < k →
    (t < tm xs xs.length → ∃ b : Nat, impl_BeatAt.l0 k (t - tm xs i) xs (xs.length : Int) (i : Int) = some ((b : Int), (t - tm xs b) / ln_at xs b, 0) ∧ b < xs.length ∧ tm xs b ≤ t ∧ t < tm xs (b + 1)) ∧
    (tm xs xs.length ≤ t → impl_BeatAt.l0 k (t - tm xs i) xs (xs.length : Int) (i : Int) = some (0, 0, 4)) := by
  have hs := isScore_true h
  induction d with
  | zero =>
    intro k i hd hi hti hk
    obtain ⟨k, rfl⟩ : ∃ m, k = m + 1 := ⟨k - 1, by omega⟩
    have e : i = xs.length := by omega
    subst e
    refine ⟨fun hlt => by omega, fun _ => ?_⟩
    simp only [impl_BeatAt.l0]
    rw [if_neg (by omega)]
  | succ d ih =>
    intro k i hd hi hti hk
    obtain ⟨k, rfl⟩ : ∃ m, k = m + 1 := ⟨k - 1, by omega⟩
    have hl := hs.2.2 i (by omega)
    have hp := prod_le hl
    have ht1 := tm_le h i (by omega)
    have hsu := tm_succ xs i
    have step : impl_BeatAt.l0 (k + 1) (t - tm xs i) xs (xs.length : Int) (i : Int) = if t - tm xs i < bt_at xs i * ln_at xs i then some ((i : Int), (t - tm xs i) / ln_at xs i, 0) else impl_BeatAt.l0 k (t - tm xs (i + 1)) xs (xs.length : Int) ((i + 1 : Nat) : Int) := by
      simp only [impl_BeatAt.l0]
      rw [if_pos (by omega), if_pos (by omega), if_pos (by omega), rd_bar]
      show (if t - tm xs i < wrap64 (bt_at xs i * ln_at xs i) then (if ln_at xs i = 0 then none else some ((i : Int), wrap64 (Int.tdiv (t - tm xs i) (ln_at xs i)), 0)) else impl_BeatAt.l0 k (wrap64 (t - tm xs i - wrap64 (bt_at xs i * ln_at xs i))) xs (xs.length : Int) (wrap64 ((i : Int) + 1))) = _
      have hd := Int.ediv_le_self (ln_at xs i) (show 0 ≤ t - tm xs i by omega)
      have hn := Int.ediv_nonneg (show 0 ≤ t - tm xs i by omega) (show 0 ≤ ln_at xs i by omega)
      rw [w64 (n := bt_at xs i * ln_at xs i) (by omega), if_neg (by omega : ¬ ln_at xs i = 0), Int.tdiv_eq_ediv_of_nonneg (by omega), w64 (n := (t - tm xs i) / ln_at xs i) (by omega), w64 (n := t - tm xs i - _) (by omega), w64 (n := (i : Int) + 1) (by omega)]
      rw [show t - tm xs i - bt_at xs i * ln_at xs i = t - tm xs (i + 1) by omega]
      rfl
    rw [step]
    by_cases c : t - tm xs i < bt_at xs i * ln_at xs i
    · rw [if_pos c]
      refine ⟨fun _ => ⟨i, rfl, by omega, hti, by omega⟩, fun hge => ?_⟩
      have := tm_mono h (i := i + 1) (xs.length - (i + 1)) (by omega)
      rw [show i + 1 + (xs.length - (i + 1)) = xs.length by omega] at this
      omega
    · rw [if_neg c]
      exact ih k (i + 1) (by omega) (by omega) (by omega) (by omega)
theorem bar_unique {xs : List S88} (h : isScore xs = true) {t : Int} {a b : Nat} (ha : a < xs.length) (hb : b < xs.length) (h1 : tm xs a ≤ t) (h2 : t < tm xs (a + 1)) (h3 : tm xs b ≤ t) (h4 : t < tm xs (b + 1)) : a = b := by
  rcases Nat.lt_trichotomy a b with c | c | c
  · have := tm_mono h (i := a + 1) (b - (a + 1)) (by omega)
    rw [show a + 1 + (b - (a + 1)) = b by omega] at this
    omega
  · exact c
  · have := tm_mono h (i := b + 1) (a - (b + 1)) (by omega)
    rw [show b + 1 + (a - (b + 1)) = a by omega] at this
    omega
theorem main_FnExactBeatAt (M0 : List S88) (a1 : Int) (hM : M0.length ≤ 1000000) (hP : ∀ x ∈ M0, PrI88 x) (_ : I64 a1) : ∃ q1 q2 q3, Evt (fun k => spec_BeatAt.f k M0 a1 = some (q1, q2, q3)) ∧ Evt (fun k => impl_BeatAt.f k M0 a1 = some (q1, q2, q3)) := by
  cases h : isScore M0 with
  | false =>
    refine ⟨0, 0, 1, ⟨M0.length + 2, fun k hk => ?_⟩, ⟨M0.length + 2, fun k hk => ?_⟩⟩
    · show spec_BeatAt.f k M0 a1 = _
      unfold spec_BeatAt.f
      rw [spec_score M0 (by omega) k (by omega), h]; rfl
    · show impl_BeatAt.f k M0 a1 = _
      unfold impl_BeatAt.f
      rw [impl_score M0 (by omega) k (by omega), h]; rfl
  | true =>
    have hs := isScore_true h
    cases g : inB a1 0 10000000 with
    | false =>
      refine ⟨0, 0, 2, ⟨M0.length + 2, fun k hk => ?_⟩, ⟨M0.length + 2, fun k hk => ?_⟩⟩
      · show spec_BeatAt.f k M0 a1 = _
        unfold spec_BeatAt.f
        rw [spec_score M0 (by omega) k (by omega), h, Ti_spec, g]; rfl
      · show impl_BeatAt.f k M0 a1 = _
        unfold impl_BeatAt.f
        rw [impl_score M0 (by omega) k (by omega), h, Ti_impl, g]; rfl
    | true =>
      have g2 := inB_true.1 g
      have es : ∀ k, M0.length + 2 ≤ k → spec_BeatAt.f k M0 a1 = if a1 ≥ tm M0 M0.length then some (0, 0, 4) else spec_BeatAt.l0 k M0 a1 ((M0.length - 1 : Nat) : Int) := by
        intro k hk
        unfold spec_BeatAt.f
        rw [spec_score M0 (by omega) k (by omega), h, Ti_spec, g]
        simp only [Option.bind_some, if_true]
        rw [spec_end h k (by omega), w64 (n := (M0.length : Int) - 1) (by omega), show (M0.length : Int) - 1 = ((M0.length - 1 : Nat) : Int) by omega]
        rfl
      have ei : ∀ k, M0.length + 2 ≤ k → impl_BeatAt.f k M0 a1 = impl_BeatAt.l0 k (a1 - tm M0 0) M0 (M0.length : Int) ((0 : Nat) : Int) := by
        intro k hk
        unfold impl_BeatAt.f
        rw [impl_score M0 (by omega) k (by omega), h, Ti_impl, g]
        simp only [Option.bind_some, if_true]
        have e0 : tm M0 0 = 0 := rfl
        rw [e0, Int.sub_zero]; rfl
      have hi0 := fun (k : Nat) (hk : M0.length < k) => impl_at_loop h (t := a1) g2.1 g2.2 M0.length k 0 (by omega) (by omega) (show tm M0 0 ≤ a1 from g2.1) hk
      by_cases c : a1 ≥ tm M0 M0.length
      · refine ⟨0, 0, 4, ⟨M0.length + 2, fun k hk => ?_⟩, ⟨M0.length + 2, fun k hk => ?_⟩⟩
        · show spec_BeatAt.f k M0 a1 = _
          rw [es k hk, if_pos c]
        · show impl_BeatAt.f k M0 a1 = _
          rw [ei k hk]
          exact (hi0 k (by omega)).2 c
      · have hlast : a1 < tm M0 (M0.length - 1 + 1) := by rw [Nat.sub_add_cancel hs.1]; omega
        obtain ⟨b, _, hb, hb1, hb2⟩ := spec_at_loop h g2.1 g2.2 (M0.length - 1) (2 * M0.length + 2) (by omega) hlast (by omega)
        refine ⟨(b : Int), (a1 - tm M0 b) / ln_at M0 b, 0, ⟨2 * M0.length + 2, fun k hk => ?_⟩, ⟨M0.length + 2, fun k hk => ?_⟩⟩
        · show spec_BeatAt.f k M0 a1 = _
          rw [es k (by omega), if_neg c]
          obtain ⟨b', e', hb', h1', h2'⟩ := spec_at_loop h g2.1 g2.2 (M0.length - 1) k (by omega) hlast (by omega)
          obtain rfl := bar_unique h hb hb' hb1 hb2 h1' h2'
          exact e'
        · show impl_BeatAt.f k M0 a1 = _
          rw [ei k hk]
          obtain ⟨b', e', hb', h1', h2'⟩ := (hi0 k (by omega)).1 (by omega)
          obtain rfl := bar_unique h hb hb' hb1 hb2 h1' h2'
          exact e'
theorem pure_FnExactBeatAt : Pure_FnExactBeatAt := by
  intro l0 a1 n0 p0 b1
  rcases sz_BarS l0 (1000000) (by omega) (by omega) n0 with ⟨z1, s1⟩ | s1
  rotate_left
  · exact ⟨0, ⟨-1, s1, Or.inl (by omega)⟩⟩
  obtain ⟨L0, t0, ne0, tk0, ln0, le0, rm0, jn0, fu0, to0⟩ := to_BarS l0 (by omega)
  have eq0 := eq_BarS L0 (by omega)
  obtain ⟨q1, q2, q3, sp, im⟩ := main_FnExactBeatAt (l0.map conv_BarS) a1 (by rw [ln0]; omega) (prc_BarS p0) b1
  obtain ⟨k, hfu0, hto0, heq0, hsp, him⟩ := (fu0.and (to0.and (eq0.and (sp.and im)))).ex
  exact ⟨k, ⟨1000000 - l0.length, s1, Or.inr ⟨by omega, ⟨L0, _, t0, q1, q2, q3, { ne0 := ne0, tk0 := tk0, ln0 := ln0, fu0 := hfu0, rm0 := rm0, jn0 := jn0, eq0 := heq0, sp := hsp, im := him, to0 := hto0 }⟩⟩⟩⟩

end Go.Proofs.Ytcmnkjohofpimaa.F
