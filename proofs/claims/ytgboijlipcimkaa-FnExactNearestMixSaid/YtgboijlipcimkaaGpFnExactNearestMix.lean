import Derived.Test.YtgboijlipcimkaaGlFnExactNearestMix
import Derived.Test.YtgboijlipcimkaaGq
import Derived.Test.YtgboijlipcimkaaGqInt64S
import Derived.Test.YtgboijlipcimkaaFspecNearestMix
import Derived.Test.YtgboijlipcimkaaFimplNearestMix
import Derived.Test.YtgboijlipcimkaaFlawsTInt64
import Derived.Test.YtgboijlipcimkaaGvpieces
import Derived.Test.YtgboijlipcimkaaFspec0l11Fewest
import Derived.Test.YtgboijlipcimkaaFimpl0fewestPieces
import Derived.Test.YtgboijlipcimkaaFspec0l11Code
import Derived.Test.YtgboijlipcimkaaFimpl0isDelay
import Derived.Test.YtgboijlipcimkaaFimpl0abs
namespace Go.Proofs.Ytgboijlipcimkaa.F
open Go.RowKit Go.Proofs.YtgboijlipcimkaaW.PrintWords Go.Proofs.YtgboijlipcimkaaW.PrintLast Go.Proofs.YtgboijlipcimkaaW.PrintMore
set_option linter.unusedVariables false
set_option linter.unusedSimpArgs false
/-- an entry of the reference's table and of the program's -/
def Rel (s i : Int) : Prop := (s = -1 ∧ i = 31) ∨ (0 ≤ s ∧ s ≤ 30 ∧ i = s)
structure Inv (t : Nat) (L M : List Int) : Prop where
  l : L.length = 20001
  m : M.length = 20001
  r : ∀ j, j ≤ t → Rel (L.getD j 0) (M.getD j 0)
  z : L.getD 0 0 = 0
theorem getset (L : List Int) (t j : Nat) (v : Int) (h : t < L.length) : (L.set t v).getD j 0 = if j = t then v else L.getD j 0 := by
  rw [List.getD_eq_getElem?_getD, List.getD_eq_getElem?_getD]
  by_cases c : j = t
  · subst c; rw [if_pos rfl, List.getElem?_set_self h]; rfl
  · rw [if_neg c, List.getElem?_set_ne (by omega)]
theorem Inv.put {t : Nat} {L M : List Int} (h : Inv t L M) (h0 : 0 < t) (ht : t ≤ 20000) {v u : Int} (hr : Rel v u) : Inv t (L.set t v) (M.set t u) := by
  refine ⟨by rw [List.length_set]; exact h.l, by rw [List.length_set]; exact h.m, fun j hj => ?_, ?_⟩
  · rw [getset L t j v (by have := h.l; omega), getset M t j u (by have := h.m; omega)]
    by_cases c : j = t
    · rw [if_pos c, if_pos c]; exact hr
    · rw [if_neg c, if_neg c]; exact h.r j hj
  · rw [getset L t 0 v (by have := h.l; omega), if_neg (by omega)]; exact h.z
theorem set_get (M : List Int) (t : Nat) (h : t < M.length) : M.set t (M.getD t 0) = M := by
  rw [List.getD_eq_getElem?_getD, List.getElem?_eq_getElem h, Option.getD_some, List.set_getElem_self]
theorem wadd1 {a : Int} (h : 0 ≤ a ∧ a ≤ 1000000) : wrap64 (a + 1) = a + 1 := w64 (by omega)
theorem inner (xs : List Int) (hx : xs.length ≤ 8) (hp : ∀ i, i < xs.length → 1 ≤ xs.getD i 0 ∧ xs.getD i 0 ≤ 10000) (t : Nat) (h0 : 0 < t) (ht : t ≤ 20000) : ∀ (d i : Nat) (L M : List Int), xs.length - i = d → i ≤ xs.length → Inv t L M → ∃ L' M', Inv t L' M' ∧ (∀ k, spec_l11Fewest.l1 (k + (2 * d + 1)) xs L (t : Int) (i : Int) = spec_l11Fewest.l0 k xs L' ((t + 1 : Nat) : Int)) ∧ (∀ k, impl_fewestPieces.l1 (k + (d + 1)) xs M (t : Int) xs (xs.length : Int) (i : Int) = impl_fewestPieces.l0 k xs M' ((t + 1 : Nat) : Int)) := by
  have hwt : wrap64 ((t : Int) + 1) = ((t + 1 : Nat) : Int) := w64 (by omega)
  have et : ((t : Int)).toNat = t := Int.toNat_natCast t
  intro d
  induction d with
  | zero =>
    intro i L M hd hi hI
    refine ⟨L, M, hI, fun k => ?_, fun k => ?_⟩
    · show spec_l11Fewest.l1 (k + 1) xs L (t : Int) (i : Int) = _
      simp only [spec_l11Fewest.l1]
      rw [if_neg (by omega), hwt]
    · show impl_fewestPieces.l1 (k + 1) xs M (t : Int) xs (xs.length : Int) (i : Int) = _
      simp only [impl_fewestPieces.l1]
      rw [if_neg (by omega), hwt]
  | succ d ih =>
    intro i L M hd hi hI
    have hw : wrap64 ((i : Int) + 1) = ((i + 1 : Nat) : Int) := w64 (by omega)
    have g1 : (i : Int) < (xs.length : Int) := by omega
    have g2 : 0 ≤ (i : Int) := by omega
    have t0 : 0 ≤ (t : Int) := by omega
    have tL : (t : Int) < (L.length : Int) := by have := hI.l; omega
    have tM : (t : Int) < (M.length : Int) := by have := hI.m; omega
    obtain ⟨p, hp'⟩ : ∃ p : Int, xs.getD i 0 = p := ⟨_, rfl⟩
    have hpp := hp i (by omega)
    rw [hp'] at hpp
    have es : ∀ k, k + (2 * (d + 1) + 1) = (k + (2 * d + 1)) + 1 + 1 := fun k => by omega
    have ei : ∀ k, k + (d + 1 + 1) = (k + (d + 1)) + 1 := fun k => by omega
    by_cases c1 : p > (t : Int)
    · obtain ⟨L', M', h1, h2, h3⟩ := ih (i + 1) L M (by omega) (by omega) hI
      refine ⟨L', M', h1, fun k => ?_, fun k => ?_⟩
      · rw [es]; have e2 := h2 k; revert e2; generalize k + (2 * d + 1) = q; intro e2
        simp only [spec_l11Fewest.l1, spec_l11Fewest.j2, rd_nat, hp']
        rw [if_pos g1, if_pos g2, if_pos c1, if_pos trivial, hw]
        exact e2
      · rw [ei]; have e3 := h3 k; revert e3; generalize k + (d + 1) = q; intro e3
        simp only [impl_fewestPieces.l1, rd_nat, hp']
        rw [if_pos g1, if_pos g2, if_pos g1, if_neg (by omega), hw]
        exact e3
    · obtain ⟨j, hj⟩ : ∃ j : Nat, (t : Int) - p = (j : Int) := ⟨((t : Int) - p).toNat, by omega⟩
      have hwj : wrap64 ((t : Int) - p) = (j : Int) := by rw [hj]; exact w64 (by omega)
      have j0 : 0 ≤ (j : Int) := by omega
      have jL : (j : Int) < (L.length : Int) := by omega
      have jM : (j : Int) < (M.length : Int) := by omega
      have hR := hI.r j (by omega)
      have hT := hI.r t (by omega)
      obtain ⟨a, ha⟩ : ∃ a : Int, L.getD j 0 = a := ⟨_, rfl⟩
      obtain ⟨b, hb⟩ : ∃ b : Int, M.getD j 0 = b := ⟨_, rfl⟩
      obtain ⟨a', ha'⟩ : ∃ a : Int, L.getD t 0 = a := ⟨_, rfl⟩
      obtain ⟨b', hb'⟩ : ∃ b : Int, M.getD t 0 = b := ⟨_, rfl⟩
      rw [ha, hb] at hR
      rw [ha', hb'] at hT
      -- the program's step
      have simp_ : ∀ k, impl_fewestPieces.l1 (k + (d + 1 + 1)) xs M (t : Int) xs (xs.length : Int) (i : Int) = impl_fewestPieces.l1 (k + (d + 1)) xs (M.set t (mn b' (wrap64 (b + 1)))) (t : Int) xs (xs.length : Int) ((i + 1 : Nat) : Int) := fun k => by
        rw [ei]; generalize k + (d + 1) = q
        simp only [impl_fewestPieces.l1, rd_nat, hp']
        rw [if_pos g1, if_pos g2, if_pos g1, if_pos (by omega), if_pos t0, if_pos tM, hwj, if_pos j0, if_pos jM, hw, et, rd_nat, hb, hb']
      by_cases c2 : a < 0 ∨ a = 30
      · have hM : M.set t (mn b' (wrap64 (b + 1))) = M := by
          have : mn b' (wrap64 (b + 1)) = M.getD t 0 := by
            rw [hb', wadd1 (by unfold Rel at hR; omega)]
            unfold mn Rel at *
            rw [if_neg (by omega)]
          rw [this]; exact set_get M t (by omega)
        obtain ⟨L', M', h1, h2, h3⟩ := ih (i + 1) L M (by omega) (by omega) hI
        refine ⟨L', M', h1, fun k => ?_, fun k => ?_⟩
        · rw [es]; have e2 := h2 k; revert e2; generalize k + (2 * d + 1) = q; intro e2
          simp only [spec_l11Fewest.l1, spec_l11Fewest.j2, rd_nat, hp']
          rw [if_pos g1, if_pos g2, if_neg c1, hwj, if_pos j0, if_pos jL, rd_nat, ha]
          by_cases c3 : a < 0
          · rw [if_pos c3, if_pos trivial, hw]; exact e2
          · rw [if_neg c3, if_pos (by rw [beq_iff_eq]; omega), hw]; exact e2
        · rw [simp_, hM]; exact h3 k
      · have hb2 : b = a := by unfold Rel at hR; omega
        have h30 : 0 ≤ a ∧ a ≤ 29 := by unfold Rel at hR; omega
        subst hb2
        have hwa := wadd1 (a := b) (by omega)
        by_cases c4 : a' < 0 ∨ b + 1 < a'
        · have hm : mn b' (wrap64 (b + 1)) = b + 1 := by
            rw [hwa]; unfold mn Rel at *; rw [if_pos (by omega)]
          obtain ⟨L', M', h1, h2, h3⟩ := ih (i + 1) (L.set t (b + 1)) (M.set t (b + 1)) (by omega) (by omega) (hI.put h0 ht (.inr ⟨by omega, by omega, rfl⟩))
          refine ⟨L', M', h1, fun k => ?_, fun k => ?_⟩
          · rw [es]; have e2 := h2 k; revert e2; generalize k + (2 * d + 1) = q; intro e2
            simp only [spec_l11Fewest.l1, spec_l11Fewest.j2, rd_nat, hp']
            rw [if_pos g1, if_pos g2, if_neg c1, hwj, if_pos j0, if_pos jL, rd_nat, ha, if_neg (by omega), if_neg (by rw [beq_iff_eq]; omega), if_pos t0, if_pos tL, ha']
            by_cases c5 : a' < 0
            · rw [if_pos c5, if_pos j0, if_pos jL, hw, et, hwa]; exact e2
            · rw [if_neg c5, if_pos j0, if_pos jL, hw, et, hwa, if_pos (by omega)]; exact e2
          · rw [simp_, hm]; exact h3 k
        · have hM : M.set t (mn b' (wrap64 (b + 1))) = M := by
            have : mn b' (wrap64 (b + 1)) = M.getD t 0 := by
              rw [hb', hwa]
              unfold mn Rel at *
              rw [if_neg (by omega)]
            rw [this]; exact set_get M t (by omega)
          obtain ⟨L', M', h1, h2, h3⟩ := ih (i + 1) L M (by omega) (by omega) hI
          refine ⟨L', M', h1, fun k => ?_, fun k => ?_⟩
          · rw [es]; have e2 := h2 k; revert e2; generalize k + (2 * d + 1) = q; intro e2
            simp only [spec_l11Fewest.l1, spec_l11Fewest.j2, rd_nat, hp']
            rw [if_pos g1, if_pos g2, if_neg c1, hwj, if_pos j0, if_pos jL, rd_nat, ha, if_neg (by omega), if_neg (by rw [beq_iff_eq]; omega), if_pos t0, if_pos tL, ha', if_neg (by omega), if_pos j0, if_pos jL, hw, hwa, if_neg (by omega)]
            exact e2
          · rw [simp_, hM]; exact h3 k
theorem outer (xs : List Int) (hx : xs.length ≤ 8) (hp : ∀ i, i < xs.length → 1 ≤ xs.getD i 0 ∧ xs.getD i 0 ≤ 10000) : ∀ (d t : Nat) (L M : List Int), 20001 - t = d → 1 ≤ t → t ≤ 20001 → Inv (t - 1) L M → ∃ L' M', Inv 20000 L' M' ∧ (∀ k, d * 18 + 1 ≤ k → spec_l11Fewest.l0 k xs L (t : Int) = some L') ∧ (∀ k, d * 18 + 1 ≤ k → impl_fewestPieces.l0 k xs M (t : Int) = some M') := by
  intro d
  induction d with
  | zero =>
    intro t L M hd h1 h2 hI
    obtain rfl : t = 20001 := by omega
    refine ⟨L, M, hI, fun k hk => ?_, fun k hk => ?_⟩
    · obtain ⟨k, rfl⟩ : ∃ m, k = m + 1 := ⟨k - 1, by omega⟩
      simp only [spec_l11Fewest.l0]
      rw [if_neg (by omega)]
    · obtain ⟨k, rfl⟩ : ∃ m, k = m + 1 := ⟨k - 1, by omega⟩
      simp only [impl_fewestPieces.l0]
      rw [if_neg (by omega)]
  | succ d ih =>
    intro t L M hd h1 h2 hI
    have et : ((t : Int)).toNat = t := Int.toNat_natCast t
    have hI2 : Inv t (L.set t (-1)) (M.set t 31) := by
      refine ⟨by rw [List.length_set]; exact hI.l, by rw [List.length_set]; exact hI.m, fun j hj => ?_, ?_⟩
      · rw [getset L t j _ (by have := hI.l; omega), getset M t j _ (by have := hI.m; omega)]
        by_cases c : j = t
        · rw [if_pos c, if_pos c]; exact .inl ⟨rfl, rfl⟩
        · rw [if_neg c, if_neg c]; exact hI.r j (by omega)
      · rw [getset L t 0 _ (by have := hI.l; omega), if_neg (by omega)]; exact hI.z
    obtain ⟨L1, M1, g1, g2, g3⟩ := inner xs hx hp t (by omega) (by omega) xs.length 0 _ _ (by omega) (by omega) hI2
    obtain ⟨L', M', e1, e2, e3⟩ := ih (t + 1) L1 M1 (by omega) (by omega) (by omega) g1
    refine ⟨L', M', e1, fun k hk => ?_, fun k hk => ?_⟩
    · obtain ⟨k, rfl⟩ : ∃ m, k = m + (2 * xs.length + 1) + 1 := ⟨k - (2 * xs.length + 1) - 1, by omega⟩
      unfold spec_l11Fewest.l0
      rw [if_pos (by omega), if_pos (by omega), if_pos (by have := hI.l; omega), et]
      exact (g2 k).trans (e2 k (by omega))
    · obtain ⟨k, rfl⟩ : ∃ m, k = m + (xs.length + 1) + 1 := ⟨k - (xs.length + 1) - 1, by omega⟩
      unfold impl_fewestPieces.l0
      rw [if_pos (by omega), if_pos (by omega), if_pos (by have := hI.m; omega), et]
      exact (g3 k).trans (e3 k (by omega))
theorem fewest_ok (xs : List Int) (hx : xs.length ≤ 8) (hp : ∀ i, i < xs.length → 1 ≤ xs.getD i 0 ∧ xs.getD i 0 ≤ 10000) : ∃ L M, Inv 20000 L M ∧ (∀ k, 360001 ≤ k → spec_l11Fewest.f k xs = some L) ∧ (∀ k, 360001 ≤ k → impl_fewestPieces.f k xs = some M) := by
  have hz : ∀ j, (List.replicate 20001 (0 : Int)).getD j 0 = 0 := fun j => by
    rw [List.getD_eq_getElem?_getD, List.getElem?_replicate]; split <;> rfl
  have hl : (List.replicate 20001 (0 : Int)).length = 20001 := List.length_replicate
  obtain ⟨L, M, h1, h2, h3⟩ := outer xs hx hp 20000 1 (List.replicate 20001 0) (List.replicate 20001 0) (by omega) (by omega) (by omega) ⟨hl, hl, fun j hj => by rw [hz]; exact .inr ⟨by omega, by omega, rfl⟩, hz 0⟩
  refine ⟨L, M, h1, fun k hk => ?_, fun k hk => ?_⟩
  · unfold spec_l11Fewest.f
    rw [if_pos (by omega)]
    exact h2 k (by omega)
  · unfold impl_fewestPieces.f
    rw [if_pos (by omega)]
    exact h3 k (by omega)
def Good (M : List Int) (n : Nat) : Prop := n ≤ 20000 ∧ M.getD n 0 ≤ 30
def far (T n : Nat) : Nat := if n ≤ T then T - n else n - T
def Best (M : List Int) (T b : Nat) : Prop := Good M b ∧ ∀ n, Good M n → far T b < far T n ∨ (far T b = far T n ∧ b ≤ n)
theorem best_one {M : List Int} {T a b : Nat} (ha : Best M T a) (hb : Best M T b) : a = b := by
  have h1 := ha.2 b hb.1
  have h2 := hb.2 a ha.1
  omega
theorem abs_eq {x : Int} (h : -1000000 ≤ x ∧ x ≤ 1000000) : impl_abs.f x = some (if x < 0 then -x else x) := by
  unfold impl_abs.f
  by_cases c : x < 0
  · rw [if_pos c, if_pos c, w64 (by omega)]
  · rw [if_neg c, if_neg c]
theorem abs_far {T n : Nat} (hT : T ≤ 20000) (hn : n ≤ 20000) : impl_abs.f (wrap64 ((n : Int) - (T : Int))) = some ((far T n : Nat) : Int) := by
  rw [w64 (by omega), abs_eq (by omega)]
  congr 1
  unfold far
  by_cases c : n ≤ T
  · rw [if_pos c]; split <;> omega
  · rw [if_neg c, if_neg (by omega)]; omega
theorem impl_best (M : List Int) (hm : M.length = 20001) (T : Nat) (hT : T ≤ 20000) : ∀ (d i b : Nat), 20001 - i = d → i ≤ 20001 → Good M b → (∀ n, Good M n → n < i → far T b < far T n ∨ (far T b = far T n ∧ b ≤ n)) → b ≤ i → ∃ c, Best M T c ∧ ∀ k, d + 1 ≤ k → impl_NearestMix.l0 k (T : Int) (b : Int) M (M.length : Int) (i : Int) = some ((c : Int), 0) := by
  intro d
  induction d with
  | zero =>
    intro i b hd hi hg hb hlt
    refine ⟨b, ⟨hg, fun n hn => hb n hn (by have := hn.1; omega)⟩, fun k hk => ?_⟩
    obtain ⟨k, rfl⟩ : ∃ m, k = m + 1 := ⟨k - 1, by omega⟩
    unfold impl_NearestMix.l0
    rw [if_neg (by omega)]
  | succ d ih =>
    intro i b hd hi hg hb hlt
    have hw : wrap64 ((i : Int) + 1) = ((i + 1 : Nat) : Int) := w64 (by omega)
    by_cases c1 : M.getD i 0 ≤ 30
    · by_cases c2 : far T i < far T b
      · obtain ⟨c, h1, h2⟩ := ih (i + 1) i (by omega) (by omega) ⟨by omega, c1⟩ (fun n hn hl => by
          by_cases e : n = i
          · subst e; exact .inr ⟨rfl, Nat.le_refl _⟩
          · have := hb n hn (by omega); omega) (by omega)
        refine ⟨c, h1, fun k hk => ?_⟩
        obtain ⟨k, rfl⟩ : ∃ m, k = m + 1 := ⟨k - 1, by omega⟩
        unfold impl_NearestMix.l0
        rw [if_pos (by omega), if_pos (by omega), if_pos (by omega), rd_nat, if_pos c1, abs_far hT (by omega), abs_far hT hg.1, Option.bind_some, Option.bind_some, if_pos (by omega), hw]
        exact h2 k (by omega)
      · obtain ⟨c, h1, h2⟩ := ih (i + 1) b (by omega) (by omega) hg (fun n hn hl => by
          by_cases e : n = i
          · subst e; omega
          · exact hb n hn (by omega)) (by omega)
        refine ⟨c, h1, fun k hk => ?_⟩
        obtain ⟨k, rfl⟩ : ∃ m, k = m + 1 := ⟨k - 1, by omega⟩
        unfold impl_NearestMix.l0
        rw [if_pos (by omega), if_pos (by omega), if_pos (by omega), rd_nat, if_pos c1, abs_far hT (by omega), abs_far hT hg.1, Option.bind_some, Option.bind_some, if_neg (by omega), hw]
        exact h2 k (by omega)
    · obtain ⟨c, h1, h2⟩ := ih (i + 1) b (by omega) (by omega) hg (fun n hn hl => by
        by_cases e : n = i
        · subst e; exact absurd hn.2 c1
        · exact hb n hn (by omega)) (by omega)
      refine ⟨c, h1, fun k hk => ?_⟩
      obtain ⟨k, rfl⟩ : ∃ m, k = m + 1 := ⟨k - 1, by omega⟩
      unfold impl_NearestMix.l0
      rw [if_pos (by omega), if_pos (by omega), if_pos (by omega), rd_nat, if_neg c1, hw]
      exact h2 k (by omega)
theorem good_iff {L M : List Int} (h : Inv 20000 L M) {n : Nat} (hn : n ≤ 20000) : 0 ≤ L.getD n 0 ↔ M.getD n 0 ≤ 30 := by
  have := h.r n hn
  unfold Rel at this
  omega
theorem far_of {T n d : Nat} (h : d = far T n) : (n ≤ T ∧ n + d = T) ∨ (T < n ∧ n = T + d) := by
  unfold far at h
  split at h <;> omega
theorem spec_best {L M : List Int} (h : Inv 20000 L M) (T : Nat) (hT : T ≤ 20000) : ∀ (e d : Nat), T - d = e → d ≤ T → (∀ n, Good M n → d ≤ far T n) → ∃ c, Best M T c ∧ ∀ k, 2 * e + 2 ≤ k → spec_NearestMix.l0 k (T : Int) L (d : Int) = some ((c : Int), 0) := by
  have hl := h.l
  have hz := h.z
  intro e
  induction e with
  | zero =>
    intro d he hd hb
    obtain rfl : d = T := by omega
    have hg : Good M 0 := ⟨by omega, (good_iff h (by omega)).1 (by omega)⟩
    refine ⟨0, ⟨hg, fun n hn => ?_⟩, fun k hk => ?_⟩
    · have := hb n hn
      have : far d 0 = d := by unfold far; rw [if_pos (by omega)]; omega
      omega
    · obtain ⟨k, rfl⟩ : ∃ m, k = m + 1 + 1 := ⟨k - 2, by omega⟩
      have hw : wrap64 ((d : Int) - (d : Int)) = ((0 : Nat) : Int) := by rw [w64 (by omega)]; omega
      simp only [spec_NearestMix.l0, spec_NearestMix.j1, hw, rd_nat]
      rw [if_pos (by omega), if_pos (by omega), if_pos (by omega), if_pos (decide_eq_true (by omega))]
  | succ e ih =>
    intro d he hd hb
    obtain ⟨a, ha⟩ : ∃ a : Nat, T = a + d := ⟨T - d, by omega⟩
    have hw : wrap64 ((T : Int) - (d : Int)) = (a : Int) := by rw [w64 (by omega)]; omega
    have hw2 : wrap64 ((T : Int) + (d : Int)) = ((T + d : Nat) : Int) := by rw [w64 (by omega)]; omega
    have hw3 : wrap64 ((d : Int) + 1) = ((d + 1 : Nat) : Int) := w64 (by omega)
    have fa : far T a = d := by unfold far; rw [if_pos (by omega)]; omega
    have fb : far T (T + d) = d := by unfold far; split <;> omega
    by_cases c1 : 0 ≤ L.getD a 0
    · refine ⟨a, ⟨⟨by omega, (good_iff h (by omega)).1 c1⟩, fun n hn => ?_⟩, fun k hk => ?_⟩
      · have h1 := hb n hn
        have h2 := far_of (T := T) (n := n) rfl
        omega
      · obtain ⟨k, rfl⟩ : ∃ m, k = m + 1 + 1 := ⟨k - 2, by omega⟩
        simp only [spec_NearestMix.l0, spec_NearestMix.j1, hw, rd_nat]
        rw [if_pos (by omega), if_pos (by omega), if_pos (by omega), if_pos (decide_eq_true c1)]
    · have na : ¬ Good M a := fun hg => c1 ((good_iff h (by omega)).2 hg.2)
      have st : ∀ k, spec_NearestMix.l0 (k + 1 + 1) (T : Int) L (d : Int) = (if ((T + d : Nat) : Int) ≤ 20000 then (if 0 ≤ ((T + d : Nat) : Int) then (if ((T + d : Nat) : Int) < (L.length : Int) then (if L.getD (T + d) 0 ≥ 0 then (some (((T + d : Nat) : Int), 0)) else (spec_NearestMix.l0 k (T : Int) L ((d + 1 : Nat) : Int))) else (none)) else (none)) else (spec_NearestMix.l0 k (T : Int) L ((d + 1 : Nat) : Int))) := fun k => by
        simp only [spec_NearestMix.l0, spec_NearestMix.j1, hw, hw2, hw3, rd_nat]
        rw [if_pos (by omega), if_pos (by omega), if_pos (by omega), if_neg (by rw [decide_eq_true_eq]; exact c1)]
      by_cases c2 : T + d ≤ 20000 ∧ 0 ≤ L.getD (T + d) 0
      · refine ⟨T + d, ⟨⟨c2.1, (good_iff h c2.1).1 c2.2⟩, fun n hn => ?_⟩, fun k hk => ?_⟩
        · have h1 := hb n hn
          have h2 := far_of (T := T) (n := n) rfl
          have h3 : n ≠ a := fun e => na (e ▸ hn)
          omega
        · obtain ⟨k, rfl⟩ : ∃ m, k = m + 1 + 1 := ⟨k - 2, by omega⟩
          rw [st, if_pos (by omega), if_pos (by omega), if_pos (by omega), if_pos c2.2]
      · obtain ⟨c, h1, h2⟩ := ih (d + 1) (by omega) (by omega) (fun n hn => by
          have h1 := hb n hn
          have h2 := far_of (T := T) (n := n) rfl
          have h3 : n ≠ a := fun e => na (e ▸ hn)
          have h4 : n ≠ T + d := fun e => c2 ⟨by have := hn.1; omega, (good_iff h (by have := hn.1; omega)).2 (e ▸ hn.2)⟩
          omega)
        refine ⟨c, h1, fun k hk => ?_⟩
        obtain ⟨k, rfl⟩ : ∃ m, k = m + 1 + 1 := ⟨k - 2, by omega⟩
        rw [st]
        by_cases c3 : T + d ≤ 20000
        · rw [if_pos (by omega), if_pos (by omega), if_pos (by omega), if_neg (fun h => c2 ⟨c3, h⟩)]
          exact h2 k (by omega)
        · rw [if_neg (by omega)]
          exact h2 k (by omega)
theorem pieces_true {xs : List Int} (h : arePieces xs = true) : xs.length ≤ 8 ∧ ∀ i, i < xs.length → 1 ≤ xs.getD i 0 ∧ xs.getD i 0 ≤ 10000 := by
  unfold arePieces at h
  rw [Bool.and_eq_true, allF_true, inB_true] at h
  refine ⟨by omega, fun i hi => ?_⟩
  have := h.1 i (by omega) (by omega)
  unfold pieceAt at this
  rw [Bool.and_eq_true, inB_true] at this
  exact this.1
theorem main_FnExactNearestMix (M0 : List Int) (a1 : Int) (hM : M0.length ≤ 1000000) (hP : ∀ x ∈ M0, I64 x) (_ : I64 a1) : ∃ q1 q2, Evt (fun k => spec_NearestMix.f k M0 a1 = some (q1, q2)) ∧ Evt (fun k => impl_NearestMix.f k M0 a1 = some (q1, q2)) := by
  have sp := spec_pieces M0 (by omega)
  have ip := impl_pieces M0 (by omega)
  cases h : arePieces M0 with
  | false =>
    rw [h] at sp ip
    refine ⟨0, 1, ⟨M0.length + 2, fun k hk => ?_⟩, ⟨M0.length + 2, fun k hk => ?_⟩⟩
    · show _ = _; unfold spec_NearestMix.f spec_l11Code.f
      rw [sp k (by omega), Option.bind_some, if_neg (by decide), Option.bind_some, if_neg (by decide)]
    · show _ = _; unfold impl_NearestMix.f
      rw [ip k (by omega), Option.bind_some, if_neg (by decide)]
  | true =>
    rw [h] at sp ip
    obtain ⟨h8, hp⟩ := pieces_true h
    cases g : inB a1 0 20000 with
    | false =>
      refine ⟨0, 2, ⟨M0.length + 2, fun k hk => ?_⟩, ⟨M0.length + 2, fun k hk => ?_⟩⟩
      · show _ = _; unfold spec_NearestMix.f spec_l11Code.f
        rw [sp k (by omega), Option.bind_some, if_pos rfl, In_eq, Option.bind_some, g, if_neg (by decide), Option.bind_some, if_neg (by decide)]
      · show _ = _; unfold impl_NearestMix.f impl_isDelay.f
        rw [ip k (by omega), Option.bind_some, if_pos rfl, Wi_eq, Option.bind_some, g, Option.bind_some, if_neg (by decide)]
    | true =>
      have g' := inB_true.1 g
      obtain ⟨T, rfl⟩ : ∃ T : Nat, a1 = (T : Int) := ⟨a1.toNat, by omega⟩
      obtain ⟨L, M, hI, e1, e2⟩ := fewest_ok M0 h8 hp
      have hz : M.getD 0 0 ≤ 30 := (good_iff hI (by omega)).1 (by have := hI.z; omega)
      obtain ⟨c, b1, s1⟩ := spec_best hI T (by omega) T 0 (by omega) (by omega) (fun n _ => by omega)
      obtain ⟨c', b2, s2⟩ := impl_best M hI.m T (by omega) 20001 0 0 (by omega) (by omega) ⟨by omega, hz⟩ (fun n _ hl => by omega) (by omega)
      obtain rfl := best_one b1 b2
      refine ⟨(c : Int), 0, ⟨M0.length + 360001, fun k hk => ?_⟩, ⟨M0.length + 360001, fun k hk => ?_⟩⟩
      · show _ = _; unfold spec_NearestMix.f spec_l11Code.f
        rw [sp k (by omega), Option.bind_some, if_pos rfl, In_eq, Option.bind_some, g, if_pos rfl, Option.bind_some, if_pos rfl, e1 k (by omega), Option.bind_some]
        exact s1 k (by omega)
      · show _ = _; unfold impl_NearestMix.f impl_isDelay.f
        rw [ip k (by omega), Option.bind_some, if_pos rfl, Wi_eq, Option.bind_some, g, Option.bind_some, if_pos rfl, e2 k (by omega), Option.bind_some]
        exact s2 k (by omega)
theorem pure_FnExactNearestMix : Pure_FnExactNearestMix := by
  intro l0 a1 n0 p0 b1
  by_cases z90 : (l0.length : Int) > 1000000
  · exact ⟨0, Or.inl z90⟩
  obtain ⟨L0, t0, ne0, tk0, ln0, le0, rm0, jn0, fu0, to0⟩ := to_Int64S l0 (by omega)
  have eq0 := eq_Int64S L0 (by omega)
  obtain ⟨q1, q2, sp, im⟩ := main_FnExactNearestMix (l0.map conv_Int64S) a1 (by rw [ln0]; omega) (prc_Int64S p0) b1
  obtain ⟨k, hfu0, hto0, heq0, hsp, him⟩ := (fu0.and (to0.and (eq0.and (sp.and im)))).ex
  exact ⟨k, Or.inr ⟨z90, ⟨L0, _, t0, q1, q2, { ne0 := ne0, tk0 := tk0, ln0 := ln0, fu0 := hfu0, rm0 := rm0, jn0 := jn0, eq0 := heq0, sp := hsp, im := him, to0 := hto0 }⟩⟩⟩

end Go.Proofs.Ytgboijlipcimkaa.F
