import Derived.Test.YtaonanedhmbmpaaGq
import Derived.Test.YtaonanedhmbmpaaGvfloor
import Derived.Test.YtaonanedhmbmpaaFspec0l04Height
import Derived.Test.YtaonanedhmbmpaaFimpl0heightAt
import Derived.Test.YtaonanedhmbmpaaFspec0l04Top
import Derived.Test.YtaonanedhmbmpaaFimpl0topOf
namespace Go.Proofs.Ytaonanedhmbmpaa.F
open Go.RowKit Go.Proofs.YtaonanedhmbmpaaW.PrintWords Go.Proofs.YtaonanedhmbmpaaW.PrintLast Go.Proofs.YtaonanedhmbmpaaW.PrintMore
set_option linter.unusedVariables false
set_option linter.unusedSimpArgs false
def gg (up t : Int) : Int := 2000 * up * t - 9810 * t * t
def HH (up t : Int) : Int := gg up t / 2000000
def lastT (up : Int) : Int := 1000 * up / 9810
theorem gg_small {up t : Int} (hu : 0 ≤ up ∧ up ≤ 200000) (ht : 0 ≤ t ∧ t ≤ 60001) : 0 ≤ 2000 * up * t ∧ 2000 * up * t ≤ 24000400000000 ∧ 0 ≤ 9810 * t * t ∧ 9810 * t * t ≤ 35317177209810 := by
  have h1 := prod_nn (a := 2000 * up) (b := t) (A := 400000000) (B := 60001) (by omega) ht
  have h2 := prod_nn (a := 9810 * t) (b := t) (A := 588609810) (B := 60001) (by omega) ht
  omega
theorem H_spec {up t : Int} (hu : 0 ≤ up ∧ up ≤ 200000) (ht : 0 ≤ t ∧ t ≤ 60001) : spec_l04Height.f up t = some (HH up t) := by
  have h := gg_small hu ht
  unfold spec_l04Height.f
  rw [w64 (n := 2000 * up) (by omega), w64 (n := 2000 * up * t) (by omega), w64 (n := 9810 * t) (by omega), w64 (n := 9810 * t * t) (by omega), w64 (n := 2000 * up * t - _) (by omega), SFl_eq (by omega) (by omega)]
  rfl
theorem H_impl {up t : Int} (hu : 0 ≤ up ∧ up ≤ 200000) (ht : 0 ≤ t ∧ t ≤ 60001) : impl_heightAt.f up t = some (HH up t) := by
  have h := gg_small hu ht
  unfold impl_heightAt.f
  rw [w64 (n := 2000 * up) (by omega), w64 (n := 2000 * up * t) (by omega), w64 (n := 9810 * t) (by omega), w64 (n := 9810 * t * t) (by omega), w64 (n := 2000 * up * t - _) (by omega), Fl_eq (by omega) (by omega)]
  rfl
theorem gg_step (up t : Int) : gg up (t + 1) = gg up t + 2000 * up - 9810 * (2 * t + 1) := by
  unfold gg
  rw [Int.mul_add (2000 * up), Int.mul_add 9810, Int.mul_add, Int.add_mul]
  omega
theorem last_le {up : Int} (hu : 0 ≤ up ∧ up ≤ 200000) : 0 ≤ lastT up ∧ lastT up ≤ 20387 ∧ 9810 * lastT up ≤ 1000 * up ∧ 1000 * up < 9810 * lastT up + 9810 := by unfold lastT; omega
theorem HH_of_gg {up s t : Int} (h : gg up s ≤ gg up t) : HH up s ≤ HH up t := Int.ediv_le_ediv (by omega) h
theorem gg_rise {up : Int} (hu : 0 ≤ up ∧ up ≤ 200000) {s : Int} (hs : 0 ≤ s) : ∀ n : Nat, s + n ≤ lastT up → gg up s ≤ gg up (s + n)
  | 0, _ => by rw [Int.natCast_zero, Int.add_zero]; exact Int.le_refl _
  | n + 1, h => by
    have h1 := gg_rise hu hs n (by omega)
    have h2 := gg_step up (s + n)
    have h3 := last_le hu
    rw [show s + ((n + 1 : Nat) : Int) = s + n + 1 by omega]
    omega
theorem H_rise {up s t : Int} (hu : 0 ≤ up ∧ up ≤ 200000) (hs : 0 ≤ s) (hst : s ≤ t) (ht : t ≤ lastT up) : HH up s ≤ HH up t := by
  have := gg_rise hu hs (t - s).toNat (by omega)
  rw [show s + ((t - s).toNat : Int) = t by omega] at this
  exact HH_of_gg this
theorem gg_fall {up : Int} (hu : 0 ≤ up ∧ up ≤ 200000) {s : Int} (hs : lastT up + 1 ≤ s) : ∀ n : Nat, gg up (s + n) ≤ gg up s
  | 0 => by rw [Int.natCast_zero, Int.add_zero]; exact Int.le_refl _
  | n + 1 => by
    have h1 := gg_fall hu hs n
    have h2 := gg_step up (s + n)
    have h3 := last_le hu
    rw [show s + ((n + 1 : Nat) : Int) = s + n + 1 by omega]
    omega
theorem H_fall {up s t : Int} (hu : 0 ≤ up ∧ up ≤ 200000) (hs : lastT up + 1 ≤ s) (hst : s ≤ t) : HH up t ≤ HH up s := by
  have := gg_fall hu hs (t - s).toNat
  rw [show s + ((t - s).toNat : Int) = t by omega] at this
  exact HH_of_gg this
/-- the least time of the top, and the top -/
def IsTop (up t top : Int) : Prop := 0 ≤ t ∧ t ≤ lastT up + 1 ∧ HH up t = top ∧ (∀ s, 0 ≤ s → s < t → HH up s < top) ∧ ∀ s, 0 ≤ s → s ≤ lastT up + 1 → HH up s ≤ top
theorem IsTop.unique {up t top t' top' : Int} (h : IsTop up t top) (h' : IsTop up t' top') : t' = t ∧ top' = top := by
  obtain ⟨a, b, c, d, e⟩ := h
  obtain ⟨a', b', c', d', e'⟩ := h'
  have h1 := e t' a' b'
  have h2 := e' t a b
  refine ⟨?_, by omega⟩
  rcases Int.lt_trichotomy t t' with x | x | x
  · have := d' t a x; omega
  · exact x.symm
  · have := d t' a' x; omega
theorem top_all {up top : Int} (hu : 0 ≤ up ∧ up ≤ 200000) (h1 : HH up (lastT up) ≤ top) (h2 : HH up (lastT up + 1) ≤ top) : ∀ s, 0 ≤ s → s ≤ lastT up + 1 → HH up s ≤ top := by
  intro s hs hs2
  by_cases e : s = lastT up + 1
  · rw [e]; exact h2
  · exact Int.le_trans (H_rise hu hs (by omega) (Int.le_refl _)) h1
theorem spec_top_loop {up top : Int} (hu : 0 ≤ up ∧ up ≤ 200000) (n : Nat) : ∀ (k : Nat) (t : Int), t = n → t ≤ lastT up → HH up t = top → n < k →
    ∃ r, spec_l04Top.l0 k up t top = some (r, top) ∧ 0 ≤ r ∧ r ≤ lastT up ∧ HH up r = top ∧ ∀ s, 0 ≤ s → s < r → HH up s < top := by
  have hl := last_le hu
  induction n with
  | zero =>
    intro k t ht h1 h2 hk
    obtain ⟨k, rfl⟩ : ∃ m, k = m + 1 := ⟨k - 1, by omega⟩
    refine ⟨t, ?_, by omega, h1, h2, fun s h3 h4 => by omega⟩
    simp only [spec_l04Top.l0]
    rw [if_neg (by omega), H_spec hu (by omega)]
    simp only [Option.bind_some]
    rw [if_neg (by omega)]
  | succ n ih =>
    intro k t ht h1 h2 hk
    obtain ⟨k, rfl⟩ : ∃ m, k = m + 1 := ⟨k - 1, by omega⟩
    simp only [spec_l04Top.l0]
    rw [if_pos (by omega), w64 (by omega), H_spec hu (by omega), H_spec hu (by omega)]
    simp only [Option.bind_some]
    by_cases e : HH up (t - 1) = top
    · rw [if_pos e]
      exact ih k (t - 1) (by omega) (by omega) e (by omega)
    · rw [if_neg e, if_neg (by omega)]
      refine ⟨t, rfl, by omega, h1, h2, fun s h3 h4 => ?_⟩
      have h5 := H_rise hu h3 (show s ≤ t - 1 by omega) (by omega)
      have h6 := H_rise hu (show 0 ≤ t - 1 by omega) (show t - 1 ≤ t by omega) h1
      omega
theorem spec_top {up : Int} (hu : 0 ≤ up ∧ up ≤ 200000) (k : Nat) (hk : 30000 ≤ k) : ∃ t top, spec_l04Top.f k up = some (t, top) ∧ IsTop up t top := by
  have hl := last_le hu
  unfold spec_l04Top.f
  rw [w64 (n := 1000 * up) (by omega), tdiv_nn (by omega)]
  show ∃ t top, ((spec_l04Height.f up (wrap64 (lastT up))).bind fun t174 => ((spec_l04Height.f up (wrap64 (wrap64 (lastT up) + 1))).bind fun t175 => spec_l04Top.l0 k up (wrap64 (lastT up)) (mx t174 t175))) = some (t, top) ∧ _
  rw [w64 (n := lastT up) (by omega), w64 (n := lastT up + 1) (by omega), H_spec hu (by omega), H_spec hu (by omega)]
  simp only [Option.bind_some]
  by_cases c : HH up (lastT up) < HH up (lastT up + 1)
  · have em : mx (HH up (lastT up)) (HH up (lastT up + 1)) = HH up (lastT up + 1) := by unfold mx; rw [if_pos c]
    rw [em]
    obtain ⟨k, rfl⟩ : ∃ m, k = m + 1 := ⟨k - 1, by omega⟩
    refine ⟨lastT up + 1, HH up (lastT up + 1), ?_, by omega, by omega, rfl, fun s h1 h2 => ?_, top_all hu (by omega) (Int.le_refl _)⟩
    · simp only [spec_l04Top.l0]
      by_cases h0 : lastT up > 0
      · have h6 := H_rise hu (show 0 ≤ lastT up - 1 by omega) (show lastT up - 1 ≤ lastT up by omega) (Int.le_refl _)
        rw [if_pos h0, w64 (n := lastT up - 1) (by omega), H_spec hu (by omega), H_spec hu (by omega)]
        simp only [Option.bind_some]
        rw [if_neg (by omega), if_pos c, w64 (by omega)]
      · rw [if_neg h0, H_spec hu (by omega)]
        simp only [Option.bind_some]
        rw [if_pos c, w64 (by omega)]
    · exact Int.lt_of_le_of_lt (H_rise hu h1 (by omega) (Int.le_refl _)) c
  · have em : mx (HH up (lastT up)) (HH up (lastT up + 1)) = HH up (lastT up) := by unfold mx; rw [if_neg c]
    rw [em]
    obtain ⟨r, hr, h1, h2, h3, h4⟩ := spec_top_loop (top := HH up (lastT up)) hu (lastT up).toNat k (lastT up) (by omega) (Int.le_refl _) rfl (by omega)
    exact ⟨r, _, hr, h1, by omega, h3, h4, top_all hu (Int.le_refl _) (by omega)⟩
theorem impl_top_loop {up top : Int} (hu : 0 ≤ up ∧ up ≤ 200000) (n : Nat) : ∀ (k : Nat) (lo hi : Int), hi - lo ≤ n → 0 ≤ lo → lo ≤ hi → hi ≤ lastT up → top ≤ HH up hi → (∀ s, 0 ≤ s → s < lo → HH up s < top) → n < k →
    ∃ r, impl_topOf.l0 k up top lo hi = some (r, top) ∧ 0 ≤ r ∧ r ≤ lastT up ∧ top ≤ HH up r ∧ ∀ s, 0 ≤ s → s < r → HH up s < top := by
  have hl := last_le hu
  induction n with
  | zero =>
    intro k lo hi h1 h2 h3 h4 h5 h6 hk
    obtain ⟨k, rfl⟩ : ∃ m, k = m + 1 := ⟨k - 1, by omega⟩
    have e : lo = hi := by omega
    subst e
    refine ⟨lo, ?_, h2, h4, h5, h6⟩
    simp only [impl_topOf.l0]
    rw [if_neg (by omega)]
  | succ n ih =>
    intro k lo hi h1 h2 h3 h4 h5 h6 hk
    obtain ⟨k, rfl⟩ : ∃ m, k = m + 1 := ⟨k - 1, by omega⟩
    simp only [impl_topOf.l0]
    by_cases c : lo < hi
    · rw [if_pos c, w64 (n := lo + hi) (by omega), tdiv_nn (by omega), w64 (n := (lo + hi) / 2) (by omega), H_impl hu (by omega)]
      simp only [Option.bind_some]
      by_cases d : HH up ((lo + hi) / 2) ≥ top
      · rw [if_pos d]
        exact ih k lo ((lo + hi) / 2) (by omega) h2 (by omega) (by omega) d h6 (by omega)
      · rw [if_neg d, w64 (by omega)]
        refine ih k ((lo + hi) / 2 + 1) hi (by omega) (by omega) (by omega) h4 h5 (fun s h7 h8 => ?_) (by omega)
        have := H_rise hu h7 (show s ≤ (lo + hi) / 2 by omega) (by omega)
        omega
    · rw [if_neg c]
      have e : lo = hi := by omega
      subst e
      exact ⟨lo, rfl, h2, h4, h5, h6⟩
theorem impl_top {up : Int} (hu : 0 ≤ up ∧ up ≤ 200000) (k : Nat) (hk : 30000 ≤ k) : ∃ t top, impl_topOf.f k up = some (t, top) ∧ IsTop up t top := by
  have hl := last_le hu
  unfold impl_topOf.f
  rw [w64 (n := 1000 * up) (by omega), tdiv_nn (by omega)]
  show ∃ t top, ((impl_heightAt.f up (wrap64 (lastT up))).bind fun t202 => ((impl_heightAt.f up (wrap64 (wrap64 (lastT up) + 1))).bind fun t203 => (if t203 > t202 then (some (wrap64 (wrap64 (lastT up) + 1), t203)) else (impl_topOf.l0 k up t202 0 (wrap64 (lastT up)))))) = some (t, top) ∧ _
  rw [w64 (n := lastT up) (by omega), w64 (n := lastT up + 1) (by omega), H_impl hu (by omega), H_impl hu (by omega)]
  simp only [Option.bind_some]
  by_cases c : HH up (lastT up) < HH up (lastT up + 1)
  · rw [if_pos c]
    exact ⟨_, _, rfl, by omega, by omega, rfl, fun s h1 h2 => Int.lt_of_le_of_lt (H_rise hu h1 (by omega) (Int.le_refl _)) c, top_all hu (by omega) (Int.le_refl _)⟩
  · rw [if_neg c]
    obtain ⟨r, hr, h1, h2, h3, h4⟩ := impl_top_loop (top := HH up (lastT up)) hu (lastT up).toNat k 0 (lastT up) (by omega) (by omega) (by omega) (Int.le_refl _) (Int.le_refl _) (fun s h1 h2 => by omega) (by omega)
    have h5 := H_rise hu h1 h2 (Int.le_refl _)
    exact ⟨r, _, hr, h1, by omega, by omega, h4, top_all hu (Int.le_refl _) (by omega)⟩
/-- what both searches find -/
theorem top_both {up : Int} (hu : 0 ≤ up ∧ up ≤ 200000) : ∃ t top, IsTop up t top ∧ (∀ k, 30000 ≤ k → spec_l04Top.f k up = some (t, top)) ∧ ∀ k, 30000 ≤ k → impl_topOf.f k up = some (t, top) := by
  obtain ⟨t, top, _, h⟩ := spec_top hu 30000 (Nat.le_refl _)
  refine ⟨t, top, h, fun k hk => ?_, fun k hk => ?_⟩
  · obtain ⟨t', top', e, h'⟩ := spec_top hu k hk
    obtain ⟨rfl, rfl⟩ := h.unique h'
    exact e
  · obtain ⟨t', top', e, h'⟩ := impl_top hu k hk
    obtain ⟨rfl, rfl⟩ := h.unique h'
    exact e
theorem top_range {up t top : Int} (hu : 0 ≤ up ∧ up ≤ 200000) (h : IsTop up t top) : 0 ≤ t ∧ t ≤ 20388 ∧ 0 ≤ top ∧ top ≤ 12000200 := by
  have hl := last_le hu
  obtain ⟨a, b, c, d, e⟩ := h
  have h0 := e 0 (Int.le_refl _) (by omega)
  have h1 : HH up 0 = 0 := by unfold HH gg; rw [Int.mul_zero, Int.mul_zero]; rfl
  have h2 := gg_small hu (show 0 ≤ t ∧ t ≤ 60001 by omega)
  have h3 : HH up t ≤ 24000400000000 / 2000000 := Int.ediv_le_ediv (by omega) (by unfold gg; omega)
  omega

end Go.Proofs.Ytaonanedhmbmpaa.F
