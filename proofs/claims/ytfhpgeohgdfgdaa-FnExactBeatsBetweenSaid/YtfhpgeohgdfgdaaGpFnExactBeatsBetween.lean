import Derived.Test.YtfhpgeohgdfgdaaGlFnExactBeatsBetween
import Derived.Test.YtfhpgeohgdfgdaaGq
import Derived.Test.YtfhpgeohgdfgdaaGqBarS
import Derived.Test.YtfhpgeohgdfgdaaFlawsTBar
import Derived.Test.YtfhpgeohgdfgdaaFspecBeatsBetween
import Derived.Test.YtfhpgeohgdfgdaaFimplBeatsBetween
import Derived.Test.YtfhpgeohgdfgdaaGvtime
import Derived.Test.YtfhpgeohgdfgdaaGvistime
import Derived.Test.YtfhpgeohgdfgdaaGvfloor
namespace Go.Proofs.Ytfhpgeohgdfgdaa.F
open Go.RowKit Go.Proofs.YtfhpgeohgdfgdaaW.PrintWords Go.Proofs.YtfhpgeohgdfgdaaW.PrintLast Go.Proofs.YtfhpgeohgdfgdaaW.PrintMore
set_option linter.unusedVariables false
set_option linter.unusedSimpArgs false
def hit (xs : List S78) (a b : Int) (i j : Nat) : Int := if a ≤ tm xs i + (j : Int) * ln_at xs i ∧ tm xs i + (j : Int) * ln_at xs i < b then 1 else 0
/-- the beats of bar i that count, up to the j-th -/
def cin (xs : List S78) (a b c : Int) (i : Nat) : Nat → Int
  | 0 => c
  | j + 1 => cin xs a b c i j + hit xs a b i j
def cba (xs : List S78) (a b : Int) : Nat → Int
  | 0 => 0
  | i + 1 => cin xs a b (cba xs a b i) i (bt_at xs i).toNat
theorem hit_01 (xs : List S78) (a b : Int) (i j : Nat) : 0 ≤ hit xs a b i j ∧ hit xs a b i j ≤ 1 := by unfold hit; split <;> omega
theorem cin_le (xs : List S78) (a b c : Int) (i : Nat) : ∀ j : Nat, c ≤ cin xs a b c i j ∧ cin xs a b c i j ≤ c + j
  | 0 => by unfold cin; omega
  | j + 1 => by
    have h1 := cin_le xs a b c i j
    have h2 := hit_01 xs a b i j
    unfold cin
    omega
theorem cba_le {xs : List S78} (h : isScore xs = true) (a b : Int) : ∀ i, i ≤ xs.length → 0 ≤ cba xs a b i ∧ cba xs a b i ≤ 16 * i
  | 0, _ => by unfold cba; omega
  | i + 1, hi => by
    have h1 := cba_le h a b i (by omega)
    have h2 := (isScore_true h).2.2 i (by omega)
    have h3 := cin_le xs a b (cba xs a b i) i (bt_at xs i).toNat
    unfold cba
    omega
theorem spec_inner {xs : List S78} (h : isScore xs = true) (a b : Int) (i : Nat) (hi : i < xs.length) (R : Nat) (hR : xs.length ≤ R) (res : Option (Int × Int))
    (hnext : ∀ k, R ≤ k → spec_BeatsBetween.l0 k xs a b (cba xs a b (i + 1)) ((i + 1 : Nat) : Int) = res) (d : Nat) : ∀ (j k : Nat), (bt_at xs i).toNat - j = d → j ≤ (bt_at xs i).toNat → R + d + 1 ≤ k → spec_BeatsBetween.l1 k xs a b (cin xs a b (cba xs a b i) i j) (i : Int) (j : Int) = res := by
  have hs := (isScore_true h).2.2 i hi
  have hc := cba_le h a b i (by omega)
  have hn := (isScore_true h).2.1
  induction d with
  | zero =>
    intro j k hd hj hk
    obtain ⟨k, rfl⟩ : ∃ m, k = m + 1 := ⟨k - 1, by omega⟩
    simp only [spec_BeatsBetween.l1]
    rw [if_pos (by omega), if_pos (by omega), rd_bar]
    show (if (j : Int) < bt_at xs i then _ else _) = _
    rw [if_neg (by omega), w64 (by omega)]
    have e : j = (bt_at xs i).toNat := by omega
    subst e
    exact hnext k (by omega)
  | succ d ih =>
    intro j k hd hj hk
    obtain ⟨k, rfl⟩ : ∃ m, k = m + 1 := ⟨k - 1, by omega⟩
    have hr := ih (j + 1) k (by omega) (by omega) (by omega)
    have h3 := cin_le xs a b (cba xs a b i) i j
    rw [← hr]
    simp only [spec_BeatsBetween.l1]
    rw [if_pos (by omega), if_pos (by omega), rd_bar]
    show (if (j : Int) < bt_at xs i then _ else _) = _
    rw [if_pos (by omega), spec_time h i hi j (by omega) k (by omega), w64 (n := (j : Int) + 1) (by omega), w64 (n := cin xs a b (cba xs a b i) i j + 1) (by omega)]
    simp only [Option.bind_some]
    show _ = spec_BeatsBetween.l1 k xs a b (cin xs a b (cba xs a b i) i j + hit xs a b i j) (i : Int) ((j + 1 : Nat) : Int)
    unfold hit
    by_cases c1 : tm xs i + (j : Int) * ln_at xs i ≥ a
    · rw [if_pos c1]
      by_cases c2 : tm xs i + (j : Int) * ln_at xs i < b
      · rw [if_pos c2, if_pos ⟨c1, c2⟩]; rfl
      · rw [if_neg c2, if_neg (fun z => c2 z.2), Int.add_zero]; rfl
    · rw [if_neg c1, if_neg (fun z => c1 z.1), Int.add_zero]; rfl
theorem spec_outer {xs : List S78} (h : isScore xs = true) (a b : Int) (d : Nat) : ∀ (i k : Nat), xs.length - i = d → i ≤ xs.length → xs.length + 20 * d + 1 ≤ k → spec_BeatsBetween.l0 k xs a b (cba xs a b i) (i : Int) = some (cba xs a b xs.length, 0) := by
  induction d with
  | zero =>
    intro i k hd hi hk
    obtain ⟨k, rfl⟩ : ∃ m, k = m + 1 := ⟨k - 1, by omega⟩
    simp only [spec_BeatsBetween.l0]
    rw [if_neg (by omega)]
    have e : i = xs.length := by omega
    rw [e]
  | succ d ih =>
    intro i k hd hi hk
    obtain ⟨k, rfl⟩ : ∃ m, k = m + 1 := ⟨k - 1, by omega⟩
    have hs := (isScore_true h).2.2 i (by omega)
    simp only [spec_BeatsBetween.l0]
    rw [if_pos (by omega)]
    exact spec_inner h a b i (by omega) (xs.length + 20 * d + 1) (by omega) _ (fun k' hk' => ih (i + 1) k' (by omega) (by omega) hk') (bt_at xs i).toNat 0 k (by omega) (by omega) (by omega)
theorem mul_succ' (j : Nat) (l : Int) : ((j + 1 : Nat) : Int) * l = (j : Int) * l + l := by rw [Int.natCast_add, Int.add_mul]; omega
theorem impl_inner {xs : List S78} (h : isScore xs = true) (a b : Int) (i : Nat) (hi : i < xs.length) (R : Nat) (res : Option (Int × Int))
    (hnext : ∀ k, R ≤ k → impl_BeatsBetween.l0 k a b (cba xs a b (i + 1)) (tm xs (i + 1)) xs (xs.length : Int) ((i + 1 : Nat) : Int) = res) (d : Nat) : ∀ (j k : Nat), (bt_at xs i).toNat - j = d → j ≤ (bt_at xs i).toNat → R + d + 1 ≤ k →
    impl_BeatsBetween.l1 k a b (cin xs a b (cba xs a b i) i j) (tm xs i + (j : Int) * ln_at xs i) (j : Int) xs (xs.length : Int) (i : Int) (bt_at xs i) (ln_at xs i) = res := by
  have hs := (isScore_true h).2.2 i hi
  have hc := cba_le h a b i (by omega)
  have hn := (isScore_true h).2.1
  have ht := tm_le h i (by omega)
  induction d with
  | zero =>
    intro j k hd hj hk
    obtain ⟨k, rfl⟩ : ∃ m, k = m + 1 := ⟨k - 1, by omega⟩
    simp only [impl_BeatsBetween.l1]
    rw [if_neg (by omega), w64 (by omega)]
    have e : (j : Int) = bt_at xs i := by omega
    have e2 : j = (bt_at xs i).toNat := by omega
    rw [e, ← tm_succ, e2]
    exact hnext k (by omega)
  | succ d ih =>
    intro j k hd hj hk
    obtain ⟨k, rfl⟩ : ∃ m, k = m + 1 := ⟨k - 1, by omega⟩
    have hr := ih (j + 1) k (by omega) (by omega) (by omega)
    have h3 := cin_le xs a b (cba xs a b i) i j
    have hp := prod_nn (a := (j : Int)) (b := ln_at xs i) (A := 16) (B := 5000) (by omega) (by omega)
    rw [← hr]
    simp only [impl_BeatsBetween.l1]
    rw [if_pos (by omega), w64 (n := (j : Int) + 1) (by omega), w64 (n := cin xs a b (cba xs a b i) i j + 1) (by omega), w64 (n := tm xs i + (j : Int) * ln_at xs i + ln_at xs i) (by omega)]
    show _ = impl_BeatsBetween.l1 k a b (cin xs a b (cba xs a b i) i j + hit xs a b i j) (tm xs i + ((j + 1 : Nat) : Int) * ln_at xs i) ((j + 1 : Nat) : Int) xs (xs.length : Int) (i : Int) (bt_at xs i) (ln_at xs i)
    rw [mul_succ', ← Int.add_assoc]
    unfold hit
    by_cases c1 : tm xs i + (j : Int) * ln_at xs i ≥ a
    · rw [if_pos c1]
      by_cases c2 : tm xs i + (j : Int) * ln_at xs i < b
      · rw [if_pos c2, if_pos ⟨c1, c2⟩]; rfl
      · rw [if_neg c2, if_neg (fun z => c2 z.2), Int.add_zero]; rfl
    · rw [if_neg c1, if_neg (fun z => c1 z.1), Int.add_zero]; rfl
theorem impl_outer {xs : List S78} (h : isScore xs = true) (a b : Int) (d : Nat) : ∀ (i k : Nat), xs.length - i = d → i ≤ xs.length → 20 * d + 1 ≤ k → impl_BeatsBetween.l0 k a b (cba xs a b i) (tm xs i) xs (xs.length : Int) (i : Int) = some (cba xs a b xs.length, 0) := by
  induction d with
  | zero =>
    intro i k hd hi hk
    obtain ⟨k, rfl⟩ : ∃ m, k = m + 1 := ⟨k - 1, by omega⟩
    simp only [impl_BeatsBetween.l0]
    rw [if_neg (by omega)]
    have e : i = xs.length := by omega
    rw [e]
  | succ d ih =>
    intro i k hd hi hk
    obtain ⟨k, rfl⟩ : ∃ m, k = m + 1 := ⟨k - 1, by omega⟩
    have hs := (isScore_true h).2.2 i (by omega)
    simp only [impl_BeatsBetween.l0]
    rw [if_pos (by omega), if_pos (by omega), if_pos (by omega), rd_bar]
    have z := impl_inner h a b i (by omega) (20 * d + 1) _ (fun k' hk' => ih (i + 1) k' (by omega) (by omega) hk') (bt_at xs i).toNat 0 k (by omega) (by omega) (by omega)
    rw [show ((0 : Nat) : Int) * ln_at xs i = 0 by simp, Int.add_zero] at z
    exact z
theorem main_FnExactBeatsBetween (M0 : List S78) (a1 a2 : Int) (hM : M0.length ≤ 1000000) (hP : ∀ x ∈ M0, PrI78 x) (_ : I64 a1) (_ : I64 a2) : ∃ q1 q2, Evt (fun k => spec_BeatsBetween.f k M0 a1 a2 = some (q1, q2)) ∧ Evt (fun k => impl_BeatsBetween.f k M0 a1 a2 = some (q1, q2)) := by
  cases h : isScore M0 with
  | false =>
    refine ⟨0, 1, ⟨M0.length + 2, fun k hk => ?_⟩, ⟨M0.length + 2, fun k hk => ?_⟩⟩
    · show spec_BeatsBetween.f k M0 a1 a2 = _
      unfold spec_BeatsBetween.f
      rw [spec_score M0 (by omega) k (by omega), h]; rfl
    · show impl_BeatsBetween.f k M0 a1 a2 = _
      unfold impl_BeatsBetween.f
      rw [impl_score M0 (by omega) k (by omega), h]; rfl
  | true =>
    have hs := isScore_true h
    by_cases c : (0 ≤ a1 ∧ a1 ≤ 10000000) ∧ a1 ≤ a2 ∧ a2 ≤ 10000000
    · refine ⟨cba M0 a1 a2 M0.length, 0, ⟨21 * M0.length + 3, fun k hk => ?_⟩, ⟨21 * M0.length + 3, fun k hk => ?_⟩⟩
      · obtain ⟨k, rfl⟩ : ∃ m, k = m + 1 := ⟨k - 1, by omega⟩
        show spec_BeatsBetween.f (k + 1) M0 a1 a2 = _
        unfold spec_BeatsBetween.f
        rw [spec_score M0 (by omega) _ (by omega), h, Ti_spec, In_eq, inB_true.2 c.1, inB_true.2 c.2]
        simp only [Option.bind_some, if_true, spec_BeatsBetween.j0, Bool.not_true]
        rw [if_neg (by decide)]
        exact spec_outer h a1 a2 M0.length 0 k (by omega) (by omega) (by omega)
      · obtain ⟨k, rfl⟩ : ∃ m, k = m + 1 := ⟨k - 1, by omega⟩
        show impl_BeatsBetween.f (k + 1) M0 a1 a2 = _
        unfold impl_BeatsBetween.f
        rw [impl_score M0 (by omega) _ (by omega), h, Ti_impl, Ti_impl, inB_true.2 c.1, inB_true.2 (by omega)]
        simp only [Option.bind_some, if_true, impl_BeatsBetween.j0]
        rw [if_neg (by rw [decide_eq_true_eq]; omega)]
        exact impl_outer h a1 a2 M0.length 0 k (by omega) (by omega) (by omega)
    · refine ⟨0, 2, ⟨M0.length + 3, fun k hk => ?_⟩, ⟨M0.length + 3, fun k hk => ?_⟩⟩
      · obtain ⟨k, rfl⟩ : ∃ m, k = m + 1 := ⟨k - 1, by omega⟩
        show spec_BeatsBetween.f (k + 1) M0 a1 a2 = _
        unfold spec_BeatsBetween.f
        rw [spec_score M0 (by omega) _ (by omega), h, Ti_spec, In_eq]
        simp only [Option.bind_some, if_true, spec_BeatsBetween.j0]
        cases g : inB a1 0 10000000 with
        | false => rfl
        | true =>
          rw [inB_true] at g
          rw [inB_false.2 (by omega)]; rfl
      · obtain ⟨k, rfl⟩ : ∃ m, k = m + 1 := ⟨k - 1, by omega⟩
        show impl_BeatsBetween.f (k + 1) M0 a1 a2 = _
        unfold impl_BeatsBetween.f
        rw [impl_score M0 (by omega) _ (by omega), h, Ti_impl, Ti_impl]
        simp only [Option.bind_some, if_true, impl_BeatsBetween.j0]
        cases g : inB a1 0 10000000 with
        | false => rfl
        | true =>
          rw [inB_true] at g
          rw [if_pos rfl]
          cases g2 : inB a2 0 10000000 with
          | false => rfl
          | true =>
            rw [inB_true] at g2
            rw [if_pos rfl, if_pos (by rw [decide_eq_true_eq]; omega)]
theorem pure_FnExactBeatsBetween : Pure_FnExactBeatsBetween := by
  intro l0 a1 a2 n0 p0 b1 b2
  rcases sz_BarS l0 (1000000) (by omega) (by omega) n0 with ⟨z1, s1⟩ | s1
  rotate_left
  · exact ⟨0, ⟨-1, s1, Or.inl (by omega)⟩⟩
  obtain ⟨L0, t0, ne0, tk0, ln0, le0, rm0, jn0, fu0, to0⟩ := to_BarS l0 (by omega)
  have eq0 := eq_BarS L0 (by omega)
  obtain ⟨q1, q2, sp, im⟩ := main_FnExactBeatsBetween (l0.map conv_BarS) a1 a2 (by rw [ln0]; omega) (prc_BarS p0) b1 b2
  obtain ⟨k, hfu0, hto0, heq0, hsp, him⟩ := (fu0.and (to0.and (eq0.and (sp.and im)))).ex
  exact ⟨k, ⟨1000000 - l0.length, s1, Or.inr ⟨by omega, ⟨L0, _, t0, q1, q2, { ne0 := ne0, tk0 := tk0, ln0 := ln0, fu0 := hfu0, rm0 := rm0, jn0 := jn0, eq0 := heq0, sp := hsp, im := him, to0 := hto0 }⟩⟩⟩⟩

end Go.Proofs.Ytfhpgeohgdfgdaa.F
