import Derived.Test.YtemkongfmceedaaJFnExactWorstShot3
import Derived.Below
import Derived.Deep.Draws
import Derived.Deep.AppendLies
import Derived.Maps.AppendAt
import Derived.OwnWalk
import Derived.Laws.BytesArg
import Derived.Laws.MakeOwn
import Derived.Laws.OwnMore
import Derived.Deep.OwnRows
import Derived.Tactics
import Derived.Lib.ConvBytes
import Derived.Laws.Slices
import Derived.WalkKit
import Derived.KernelRfl
import Derived.RowKit3
import Derived.Deep.LoopGhost
import Derived.Deep.QuietTactic
import Derived.BigQuiet
import Derived.WideLaws
import Derived.Deep.DeepCutAuto
import Derived.Deep.CutBlock
import Derived.Deep.RegionHeld3
import Derived.Laws.Rows
import Derived.Lib.AppendStr
import Derived.ArgAppend
import Derived.Laws.IdiomCopy
import Derived.RowKit
import Derived.OrdersHeld
import Derived.Laws.BitsLemmas
import Derived.Laws.StructEq
import Derived.Test.YtemkongfmceedaaProg
import Derived.ChangeSlices
import Derived.OpenShut
import Derived.Test.YtemkongfmceedaaRows
import Derived.ProofKit
import Derived.ShutString
import Derived.ChangeOld
import Derived.SizedLaws
namespace Go.Proofs.Ytemkongfmceedaa.F
open Go.RowKit Go.Proofs.YtemkongfmceedaaW.PrintWords Go.Proofs.YtemkongfmceedaaW.PrintLast Go.Proofs.YtemkongfmceedaaW.PrintMore
set_option linter.unusedVariables false
set_option linter.unusedSimpArgs false
def gg (up t : Int) : Int := 2000 * up * t - 9810 * t * t
def HH (up t : Int) : Int := gg up t / 2000000
def lastT (up : Int) : Int := 1000 * up / 9810
theorem gg_small {up t : Int} (hu : 0 ≤ up ∧ up ≤ 200000) (ht : 0 ≤ t ∧ t ≤ 60001) : 0 ≤ 2000 * up * t ∧ 2000 * up * t ≤ 24000400000000 ∧ 0 ≤ 9810 * t * t ∧ 9810 * t * t ≤ 35317177209810 := by
 have h1 := prod_nn (a := 2000 * up) (b := t) (A := 400000000) (B := 60001) (by omega) ht
 have h2 := prod_nn (a := 9810 * t) (b := t) (A := 588609810) (B := 60001) (by omega) ht
 omega
theorem H_spec {up t : Int} (hu : 0 ≤ up ∧ up ≤ 200000) (ht : 0 ≤ t ∧ t ≤ 60001) : spec_l04Height.f up t = some (HH up t) := by
 have h := gg_small hu ht
 unfold spec_l04Height.f
 rw [w64 (n := 2000 * up) (by omega), w64 (n := 2000 * up * t) (by omega), w64 (n := 9810 * t) (by omega), w64 (n := 9810 * t * t) (by omega), w64 (n := 2000 * up * t - _) (by omega), SFl_eq (by omega) (by omega)]
 rfl
theorem H_impl {up t : Int} (hu : 0 ≤ up ∧ up ≤ 200000) (ht : 0 ≤ t ∧ t ≤ 60001) : impl_heightAt.f up t = some (HH up t) := by
 have h := gg_small hu ht
 unfold impl_heightAt.f
 rw [w64 (n := 2000 * up) (by omega), w64 (n := 2000 * up * t) (by omega), w64 (n := 9810 * t) (by omega), w64 (n := 9810 * t * t) (by omega), w64 (n := 2000 * up * t - _) (by omega), Fl_eq (by omega) (by omega)]
 rfl
theorem gg_step (up t : Int) : gg up (t + 1) = gg up t + 2000 * up - 9810 * (2 * t + 1) := by
 unfold gg
 rw [Int.mul_add (2000 * up), Int.mul_add 9810, Int.mul_add, Int.add_mul]
 omega
theorem last_le {up : Int} (hu : 0 ≤ up ∧ up ≤ 200000) : 0 ≤ lastT up ∧ lastT up ≤ 20387 ∧ 9810 * lastT up ≤ 1000 * up ∧ 1000 * up < 9810 * lastT up + 9810 := by unfold lastT; omega
theorem HH_of_gg {up s t : Int} (h : gg up s ≤ gg up t) : HH up s ≤ HH up t := Int.ediv_le_ediv (by omega) h
theorem gg_rise {up : Int} (hu : 0 ≤ up ∧ up ≤ 200000) {s : Int} (hs : 0 ≤ s) : ∀ n : Nat, s + n ≤ lastT up → gg up s ≤ gg up (s + n)
 | 0, _ => by rw [Int.natCast_zero, Int.add_zero]; exact Int.le_refl _
 | n + 1, h => by
  have h1 := gg_rise hu hs n (by omega)
  have h2 := gg_step up (s + n)
  have h3 := last_le hu
  rw [show s + ((n + 1 : Nat) : Int) = s + n + 1 by omega]
  omega
theorem H_rise {up s t : Int} (hu : 0 ≤ up ∧ up ≤ 200000) (hs : 0 ≤ s) (hst : s ≤ t) (ht : t ≤ lastT up) : HH up s ≤ HH up t := by
 have := gg_rise hu hs (t - s).toNat (by omega)
 rw [show s + ((t - s).toNat : Int) = t by omega] at this
 exact HH_of_gg this
theorem gg_fall {up : Int} (hu : 0 ≤ up ∧ up ≤ 200000) {s : Int} (hs : lastT up + 1 ≤ s) : ∀ n : Nat, gg up (s + n) ≤ gg up s
 | 0 => by rw [Int.natCast_zero, Int.add_zero]; exact Int.le_refl _
 | n + 1 => by
  have h1 := gg_fall hu hs n
  have h2 := gg_step up (s + n)
  have h3 := last_le hu
  rw [show s + ((n + 1 : Nat) : Int) = s + n + 1 by omega]
  omega
theorem H_fall {up s t : Int} (hu : 0 ≤ up ∧ up ≤ 200000) (hs : lastT up + 1 ≤ s) (hst : s ≤ t) : HH up t ≤ HH up s := by
 have := gg_fall hu hs (t - s).toNat
 rw [show s + ((t - s).toNat : Int) = t by omega] at this
 exact HH_of_gg this
def IsTop (up t top : Int) : Prop := 0 ≤ t ∧ t ≤ lastT up + 1 ∧ HH up t = top ∧ (∀ s, 0 ≤ s → s < t → HH up s < top) ∧ ∀ s, 0 ≤ s → s ≤ lastT up + 1 → HH up s ≤ top
theorem IsTop.unique {up t top t' top' : Int} (h : IsTop up t top) (h' : IsTop up t' top') : t' = t ∧ top' = top := by
 obtain ⟨a, b, c, d, e⟩ := h
 obtain ⟨a', b', c', d', e'⟩ := h'
 have h1 := e t' a' b'
 have h2 := e' t a b
 refine ⟨?_, by omega⟩
 rcases Int.lt_trichotomy t t' with x | x | x
 ·have := d' t a x; omega
 ·exact x.symm
 ·have := d t' a' x; omega
theorem top_all {up top : Int} (hu : 0 ≤ up ∧ up ≤ 200000) (h1 : HH up (lastT up) ≤ top) (h2 : HH up (lastT up + 1) ≤ top) : ∀ s, 0 ≤ s → s ≤ lastT up + 1 → HH up s ≤ top := by
 intro s hs hs2
 by_cases e : s = lastT up + 1
 ·rw [e]; exact h2
 ·exact Int.le_trans (H_rise hu hs (by omega) (Int.le_refl _)) h1
theorem spec_top_loop {up top : Int} (hu : 0 ≤ up ∧ up ≤ 200000) (n : Nat) : ∀ (k : Nat) (t : Int), t = n → t ≤ lastT up → HH up t = top → n < k →
  ∃ r, spec_l04Top.l0 k up t top = some (r, top) ∧ 0 ≤ r ∧ r ≤ lastT up ∧ HH up r = top ∧ ∀ s, 0 ≤ s → s < r → HH up s < top := by
 have hl := last_le hu
 induction n with
 | zero =>
  intro k t ht h1 h2 hk
  obtain ⟨k, rfl⟩ : ∃ m, k = m + 1 := ⟨k - 1, by omega⟩
  refine ⟨t, ?_, by omega, h1, h2, fun s h3 h4 => by omega⟩
  simp only [spec_l04Top.l0]
  rw [if_neg (by omega), H_spec hu (by omega)]
  simp only [Option.bind_some]
  rw [if_neg (by omega)]
 | succ n ih =>
  intro k t ht h1 h2 hk
  obtain ⟨k, rfl⟩ : ∃ m, k = m + 1 := ⟨k - 1, by omega⟩
  simp only [spec_l04Top.l0]
  rw [if_pos (by omega), w64 (by omega), H_spec hu (by omega), H_spec hu (by omega)]
  simp only [Option.bind_some]
  by_cases e : HH up (t - 1) = top
  ·rw [if_pos e]
   exact ih k (t - 1) (by omega) (by omega) e (by omega)
  ·rw [if_neg e, if_neg (by omega)]
   refine ⟨t, rfl, by omega, h1, h2, fun s h3 h4 => ?_⟩
   have h5 := H_rise hu h3 (show s ≤ t - 1 by omega) (by omega)
   have h6 := H_rise hu (show 0 ≤ t - 1 by omega) (show t - 1 ≤ t by omega) h1
   omega
theorem spec_top {up : Int} (hu : 0 ≤ up ∧ up ≤ 200000) (k : Nat) (hk : 30000 ≤ k) : ∃ t top, spec_l04Top.f k up = some (t, top) ∧ IsTop up t top := by
 have hl := last_le hu
 unfold spec_l04Top.f
 rw [w64 (n := 1000 * up) (by omega), tdiv_nn (by omega)]
 show ∃ t top, ((spec_l04Height.f up (wrap64 (lastT up))).bind fun t174 => ((spec_l04Height.f up (wrap64 (wrap64 (lastT up) + 1))).bind fun t175 => spec_l04Top.l0 k up (wrap64 (lastT up)) (mx t174 t175))) = some (t, top) ∧ _
 rw [w64 (n := lastT up) (by omega), w64 (n := lastT up + 1) (by omega), H_spec hu (by omega), H_spec hu (by omega)]
 simp only [Option.bind_some]
 by_cases c : HH up (lastT up) < HH up (lastT up + 1)
 ·have em : mx (HH up (lastT up)) (HH up (lastT up + 1)) = HH up (lastT up + 1) := by unfold mx; rw [if_pos c]
  rw [em]
  obtain ⟨k, rfl⟩ : ∃ m, k = m + 1 := ⟨k - 1, by omega⟩
  refine ⟨lastT up + 1, HH up (lastT up + 1), ?_, by omega, by omega, rfl, fun s h1 h2 => ?_, top_all hu (by omega) (Int.le_refl _)⟩
  ·simp only [spec_l04Top.l0]
   by_cases h0 : lastT up > 0
   ·have h6 := H_rise hu (show 0 ≤ lastT up - 1 by omega) (show lastT up - 1 ≤ lastT up by omega) (Int.le_refl _)
    rw [if_pos h0, w64 (n := lastT up - 1) (by omega), H_spec hu (by omega), H_spec hu (by omega)]
    simp only [Option.bind_some]
    rw [if_neg (by omega), if_pos c, w64 (by omega)]
   ·rw [if_neg h0, H_spec hu (by omega)]
    simp only [Option.bind_some]
    rw [if_pos c, w64 (by omega)]
  ·exact Int.lt_of_le_of_lt (H_rise hu h1 (by omega) (Int.le_refl _)) c
 ·have em : mx (HH up (lastT up)) (HH up (lastT up + 1)) = HH up (lastT up) := by unfold mx; rw [if_neg c]
  rw [em]
  obtain ⟨r, hr, h1, h2, h3, h4⟩ := spec_top_loop (top := HH up (lastT up)) hu (lastT up).toNat k (lastT up) (by omega) (Int.le_refl _) rfl (by omega)
  exact ⟨r, _, hr, h1, by omega, h3, h4, top_all hu (Int.le_refl _) (by omega)⟩
theorem impl_top_loop {up top : Int} (hu : 0 ≤ up ∧ up ≤ 200000) (n : Nat) : ∀ (k : Nat) (lo hi : Int), hi - lo ≤ n → 0 ≤ lo → lo ≤ hi → hi ≤ lastT up → top ≤ HH up hi → (∀ s, 0 ≤ s → s < lo → HH up s < top) → n < k →
  ∃ r, impl_topOf.l0 k up top lo hi = some (r, top) ∧ 0 ≤ r ∧ r ≤ lastT up ∧ top ≤ HH up r ∧ ∀ s, 0 ≤ s → s < r → HH up s < top := by
 have hl := last_le hu
 induction n with
 | zero =>
  intro k lo hi h1 h2 h3 h4 h5 h6 hk
  obtain ⟨k, rfl⟩ : ∃ m, k = m + 1 := ⟨k - 1, by omega⟩
  have e : lo = hi := by omega
  subst e
  refine ⟨lo, ?_, h2, h4, h5, h6⟩
  simp only [impl_topOf.l0]
  rw [if_neg (by omega)]
 | succ n ih =>
  intro k lo hi h1 h2 h3 h4 h5 h6 hk
  obtain ⟨k, rfl⟩ : ∃ m, k = m + 1 := ⟨k - 1, by omega⟩
  simp only [impl_topOf.l0]
  by_cases c : lo < hi
  ·rw [if_pos c, w64 (n := lo + hi) (by omega), tdiv_nn (by omega), w64 (n := (lo + hi) / 2) (by omega), H_impl hu (by omega)]
   simp only [Option.bind_some]
   by_cases d : HH up ((lo + hi) / 2) ≥ top
   ·rw [if_pos d]
    exact ih k lo ((lo + hi) / 2) (by omega) h2 (by omega) (by omega) d h6 (by omega)
   ·rw [if_neg d, w64 (by omega)]
    refine ih k ((lo + hi) / 2 + 1) hi (by omega) (by omega) (by omega) h4 h5 (fun s h7 h8 => ?_) (by omega)
    have := H_rise hu h7 (show s ≤ (lo + hi) / 2 by omega) (by omega)
    omega
  ·rw [if_neg c]
   have e : lo = hi := by omega
   subst e
   exact ⟨lo, rfl, h2, h4, h5, h6⟩
theorem impl_top {up : Int} (hu : 0 ≤ up ∧ up ≤ 200000) (k : Nat) (hk : 30000 ≤ k) : ∃ t top, impl_topOf.f k up = some (t, top) ∧ IsTop up t top := by
 have hl := last_le hu
 unfold impl_topOf.f
 rw [w64 (n := 1000 * up) (by omega), tdiv_nn (by omega)]
 show ∃ t top, ((impl_heightAt.f up (wrap64 (lastT up))).bind fun t202 => ((impl_heightAt.f up (wrap64 (wrap64 (lastT up) + 1))).bind fun t203 => (if t203 > t202 then (some (wrap64 (wrap64 (lastT up) + 1), t203)) else (impl_topOf.l0 k up t202 0 (wrap64 (lastT up)))))) = some (t, top) ∧ _
 rw [w64 (n := lastT up) (by omega), w64 (n := lastT up + 1) (by omega), H_impl hu (by omega), H_impl hu (by omega)]
 simp only [Option.bind_some]
 by_cases c : HH up (lastT up) < HH up (lastT up + 1)
 ·rw [if_pos c]
  exact ⟨_, _, rfl, by omega, by omega, rfl, fun s h1 h2 => Int.lt_of_le_of_lt (H_rise hu h1 (by omega) (Int.le_refl _)) c, top_all hu (by omega) (Int.le_refl _)⟩
 ·rw [if_neg c]
  obtain ⟨r, hr, h1, h2, h3, h4⟩ := impl_top_loop (top := HH up (lastT up)) hu (lastT up).toNat k 0 (lastT up) (by omega) (by omega) (by omega) (Int.le_refl _) (Int.le_refl _) (fun s h1 h2 => by omega) (by omega)
  have h5 := H_rise hu h1 h2 (Int.le_refl _)
  exact ⟨r, _, hr, h1, by omega, by omega, h4, top_all hu (Int.le_refl _) (by omega)⟩
theorem top_both {up : Int} (hu : 0 ≤ up ∧ up ≤ 200000) : ∃ t top, IsTop up t top ∧ (∀ k, 30000 ≤ k → spec_l04Top.f k up = some (t, top)) ∧ ∀ k, 30000 ≤ k → impl_topOf.f k up = some (t, top) := by
 obtain ⟨t, top, _, h⟩ := spec_top hu 30000 (Nat.le_refl _)
 refine ⟨t, top, h, fun k hk => ?_, fun k hk => ?_⟩
 ·obtain ⟨t', top', e, h'⟩ := spec_top hu k hk
  obtain ⟨rfl, rfl⟩ := h.unique h'
  exact e
 ·obtain ⟨t', top', e, h'⟩ := impl_top hu k hk
  obtain ⟨rfl, rfl⟩ := h.unique h'
  exact e
theorem top_range {up t top : Int} (hu : 0 ≤ up ∧ up ≤ 200000) (h : IsTop up t top) : 0 ≤ t ∧ t ≤ 20388 ∧ 0 ≤ top ∧ top ≤ 12000200 := by
 have hl := last_le hu
 obtain ⟨a, b, c, d, e⟩ := h
 have h0 := e 0 (Int.le_refl _) (by omega)
 have h1 : HH up 0 = 0 := by unfold HH gg; rw [Int.mul_zero, Int.mul_zero]; rfl
 have h2 := gg_small hu (show 0 ≤ t ∧ t ≤ 60001 by omega)
 have h3 : HH up t ≤ 24000400000000 / 2000000 := Int.ediv_le_ediv (by omega) (by unfold gg; omega)
 omega
def topPair (up : Int) : Int × Int := (impl_topOf.f 30000 up).getD (0, 0)
def tTop (up : Int) : Int := (topPair up).1
def vTop (up : Int) : Int := (topPair up).2
theorem top_is {up : Int} (hu : 0 ≤ up ∧ up ≤ 200000) : IsTop up (tTop up) (vTop up) ∧ (∀ k, 30000 ≤ k → spec_l04Top.f k up = some (tTop up, vTop up)) ∧ (∀ k, 30000 ≤ k → impl_topOf.f k up = some (tTop up, vTop up)) := by
 obtain ⟨t, top, h, hs, hi⟩ := top_both hu
 have e : topPair up = (t, top) := by unfold topPair; rw [hi 30000 (Nat.le_refl _)]; rfl
 unfold tTop vTop
 rw [e]
 exact ⟨h, hs, hi⟩
theorem tTop_range {up : Int} (hu : 0 ≤ up ∧ up ≤ 200000) : 0 ≤ tTop up ∧ tTop up ≤ 20388 ∧ 0 ≤ vTop up ∧ vTop up ≤ 12000200 := top_range hu (top_is hu).1
end Go.Proofs.Ytemkongfmceedaa.F
namespace Go.Proofs.Ytemkongfmceedaa.F
open Go.RowKit Go.Proofs.YtemkongfmceedaaW.PrintWords Go.Proofs.YtemkongfmceedaaW.PrintLast Go.Proofs.YtemkongfmceedaaW.PrintMore
set_option linter.unusedVariables false
set_option linter.unusedSimpArgs false
def isShot (u s f r : Int) : Bool := inB u 0 200000 && (inB s (-50000) 50000 && (inB f 100 10000 && inB r 0 200000))
def areWinds (lo hi : Int) : Bool := inB lo (-50000) 50000 && inB hi lo 50000
theorem spec_shot (u s f r : Int) : spec_IsShot.f u s f r = some (isShot u s f r) := by
 unfold spec_IsShot.f spec_l04Code.f isShot
 simp only [In_eq, Option.bind_some]
 cases inB u 0 200000 <;> cases inB s (-50000) 50000 <;> cases inB f 100 10000 <;> cases inB r 0 200000 <;> rfl
theorem impl_shot (u s f r : Int) : impl_IsShot.f u s f r = some (isShot u s f r) := by
 unfold impl_IsShot.f impl_isUp.f impl_isSide.f isShot
 simp only [Wi_eq, Option.bind_some]
 cases inB u 0 200000 <;> cases inB s (-50000) 50000 <;> cases inB f 100 10000 <;> cases inB r 0 200000 <;> rfl
theorem spec_winds (lo hi : Int) : spec_l06Winds.f lo hi = some (areWinds lo hi) := by
 unfold spec_l06Winds.f areWinds
 simp only [In_eq, Option.bind_some]
 cases inB lo (-50000) 50000 <;> cases inB hi lo 50000 <;> rfl
theorem impl_winds (lo hi : Int) : impl_areWinds.f lo hi = some (areWinds lo hi) := by
 unfold impl_areWinds.f impl_isSide.f areWinds
 simp only [Wi_eq, Option.bind_some]
 cases h : inB lo (-50000) 50000 with
 | false => rfl
 | true =>
  rw [inB_true] at h
  rw [if_pos rfl, Bool.true_and]
  cases h2 : inB hi (-50000) 50000 with
  | false =>
   rw [inB_false] at h2
   rw [inB_false.2 (by omega)]; rfl
  | true =>
   rw [inB_true] at h2
   rw [if_pos rfl]
   congr 1
   rw [Bool.eq_iff_iff, inB_true, decide_eq_true_iff]
   omega
def drift (s wnd t : Int) : Int := (s + wnd) * t / 1000
theorem drift_small {s wnd t : Int} (hs : -50000 ≤ s ∧ s ≤ 50000) (hw : -50000 ≤ wnd ∧ wnd ≤ 50000) (ht : 0 ≤ t ∧ t ≤ 60000) : -6000000000 ≤ (s + wnd) * t ∧ (s + wnd) * t ≤ 6000000000 := by
 have := prod_abs (a := s + wnd) (b := t) (A := 100000) (B := 60000) (by omega) ht
 omega
theorem spec_drift {s wnd t : Int} (hs : -50000 ≤ s ∧ s ≤ 50000) (hw : -50000 ≤ wnd ∧ wnd ≤ 50000) (ht : 0 ≤ t ∧ t ≤ 60000) : spec_l04Drift.f s wnd t = some (drift s wnd t) := by
 have h := drift_small hs hw ht
 unfold spec_l04Drift.f
 rw [w64 (n := s + wnd) (by omega), w64 (by omega), SFl_eq (by omega) (by omega)]
 rfl
theorem impl_drift {s wnd t : Int} (hs : -50000 ≤ s ∧ s ≤ 50000) (hw : -50000 ≤ wnd ∧ wnd ≤ 50000) (ht : 0 ≤ t ∧ t ≤ 60000) : impl_driftAt.f s wnd t = some (drift s wnd t) := by
 have h := drift_small hs hw ht
 unfold impl_driftAt.f
 rw [w64 (n := s + wnd) (by omega), w64 (by omega), Fl_eq (by omega) (by omega)]
 rfl
theorem isShot_true {u s f r : Int} (h : isShot u s f r = true) : (0 ≤ u ∧ u ≤ 200000) ∧ (-50000 ≤ s ∧ s ≤ 50000) ∧ (100 ≤ f ∧ f ≤ 10000) ∧ (0 ≤ r ∧ r ≤ 200000) := by
 unfold isShot at h
 simpa only [Bool.and_eq_true, inB_true] using h
theorem areWinds_true {lo hi : Int} (h : areWinds lo hi = true) : (-50000 ≤ lo ∧ lo ≤ 50000) ∧ lo ≤ hi ∧ hi ≤ 50000 := by
 unfold areWinds at h
 simpa only [Bool.and_eq_true, inB_true] using h
end Go.Proofs.Ytemkongfmceedaa.F
namespace Go.Proofs.Ytemkongfmceedaa.F
open Go.RowKit Go.Proofs.YtemkongfmceedaaW.PrintWords Go.Proofs.YtemkongfmceedaaW.PrintLast Go.Proofs.YtemkongfmceedaaW.PrintMore
set_option linter.unusedVariables false
set_option linter.unusedSimpArgs false
end Go.Proofs.Ytemkongfmceedaa.F
namespace Go.Proofs.Ytemkongfmceedaa.F
open Go.RowKit Go.Proofs.YtemkongfmceedaaW.PrintWords Go.Proofs.YtemkongfmceedaaW.PrintLast Go.Proofs.YtemkongfmceedaaW.PrintMore
set_option linter.unusedVariables false
set_option linter.unusedSimpArgs false
theorem ceil_eq {a b : Int} (hb : 0 < b) : -((-a) / b) = (a + b - 1) / b := by
 have h1 := Int.emod_nonneg (-a) (show b ≠ 0 by omega)
 have h2 := Int.emod_lt_of_pos (-a) hb
 have h3 := Int.mul_ediv_add_emod (-a) b
 have h4 : (a + b - 1) / b = -((-a) / b) ∧ (a + b - 1) % b = b - 1 - (-a) % b := (Int.ediv_emod_unique hb).2 (by
  rw [Int.mul_neg]
  refine ⟨by omega, by omega, by omega⟩)
 exact h4.1.symm
theorem Ce_eq {a b : Int} (hb : 0 < b) (ha : -4611686018427387904 ≤ a ∧ a ≤ 4611686018427387904) : spec_l01Ceil.f a b = some (-((-a) / b)) := by
 have hs := ediv_small (a := -a) hb (by omega)
 unfold spec_l01Ceil.f
 rw [w64 (n := -a) (by omega), SFl_eq hb (by omega)]
 simp only [Option.bind_some]
 rw [w64 (by omega)]
theorem Cd_eq {a b : Int} (hb : 0 < b ∧ b ≤ 1000000) (ha : 0 ≤ a ∧ a ≤ 4611686018427387904) : impl_ceilDiv.f a b = some ((a + b - 1) / b) := by
 have h1 := Int.ediv_le_self b (show 0 ≤ a + b - 1 by omega)
 have h2 := Int.ediv_nonneg (show 0 ≤ a + b - 1 by omega) (show 0 ≤ b by omega)
 unfold impl_ceilDiv.f
 rw [if_neg (by omega), w64 (n := a + b) (by omega), w64 (n := a + b - 1) (by omega), Int.tdiv_eq_ediv_of_nonneg (by omega), w64 (by omega)]
def dTime (u f : Int) : Int := (1000 * vTop u + f - 1) / f
theorem dTime_range {u f : Int} (hu : 0 ≤ u ∧ u ≤ 200000) (hf : 100 ≤ f ∧ f ≤ 10000) : 0 ≤ dTime u f ∧ dTime u f ≤ 120002100 := by
 have ht := tTop_range hu
 unfold dTime
 refine ⟨Int.ediv_nonneg (by omega) (by omega), ?_⟩
 have h1 : (1000 * vTop u + f - 1) / f ≤ (1000 * vTop u + f - 1) / 100 := by
  have a : 100 * ((1000 * vTop u + f - 1) / f) ≤ f * ((1000 * vTop u + f - 1) / f) := Int.mul_le_mul_of_nonneg_right hf.1 (Int.ediv_nonneg (by omega) (by omega))
  have b := Int.mul_ediv_self_le (x := 1000 * vTop u + f - 1) (k := f) (by omega)
  omega
 omega
theorem time_both {u s f r : Int} (h : isShot u s f r = true) : (∀ k, 30000 ≤ k → spec_l06Time.f k u s f r = some (dTime u f)) ∧ (∀ k, 30000 ≤ k → impl_debrisTime.f k u s f r = some (dTime u f)) := by
 obtain ⟨h1, h2, h3, h4⟩ := isShot_true h
 have ht := tTop_range h1
 have hi := top_is h1
 refine ⟨fun k hk => ?_, fun k hk => ?_⟩
 ·unfold spec_l06Time.f
  rw [hi.2.1 k hk]
  simp only [Option.bind_some]
  rw [w64 (n := 1000 * vTop u) (by omega), Ce_eq (by omega) (by omega), ceil_eq (by omega)]; rfl
 ·unfold impl_debrisTime.f
  rw [hi.2.2 k hk]
  simp only [Option.bind_some]
  rw [w64 (n := 1000 * vTop u) (by omega), Cd_eq (by omega) (by omega)]; rfl
def dbLo (u s f r lo : Int) : Int := drift s lo (tTop u) + lo * dTime u f / 1000 - r
def dbHi (u s f r hi : Int) : Int := drift s hi (tTop u) - (-hi) * dTime u f / 1000 + r
theorem burst_is {u s f r lo hi : Int} (h : isShot u s f r = true) (hw : areWinds lo hi = true) : (∀ k, 30000 ≤ k → spec_l06Burst.f k u s f r lo hi = some (drift s lo (tTop u), drift s hi (tTop u))) ∧ ∀ k, 30000 ≤ k → impl_burstRange.f k u s f r lo hi = some (drift s lo (tTop u), drift s hi (tTop u)) := by
 obtain ⟨h1, h2, h3, h4⟩ := isShot_true h
 obtain ⟨w1, w2, w3⟩ := areWinds_true hw
 obtain ⟨_, hs, hi'⟩ := top_is h1
 have hr := tTop_range h1
 refine ⟨fun k hk => ?_, fun k hk => ?_⟩
 ·unfold spec_l06Burst.f
  rw [hs k hk]
  simp only [Option.bind_some]
  rw [spec_drift h2 w1 (by omega), spec_drift h2 (by omega) (by omega)]; rfl
 ·unfold impl_burstRange.f
  rw [hi' k hk]
  simp only [Option.bind_some]
  rw [impl_drift h2 w1 (by omega), impl_drift h2 (by omega) (by omega)]; rfl
theorem drift_range {s wnd t : Int} (hs : -50000 ≤ s ∧ s ≤ 50000) (hw : -50000 ≤ wnd ∧ wnd ≤ 50000) (ht : 0 ≤ t ∧ t ≤ 60000) : -6000000 ≤ drift s wnd t ∧ drift s wnd t ≤ 6000000 := by
 have h := drift_small hs hw ht
 unfold drift
 omega
theorem debris_small {u s f r lo : Int} (h : isShot u s f r = true) (hl : -50000 ≤ lo ∧ lo ≤ 50000) : (-6000105000000 ≤ lo * dTime u f ∧ lo * dTime u f ≤ 6000105000000) ∧ (-6000000 ≤ drift s lo (tTop u) ∧ drift s lo (tTop u) ≤ 6000000) := by
 obtain ⟨h1, h2, h3, h4⟩ := isShot_true h
 have hd := dTime_range h1 h3
 have ht := tTop_range h1
 have := prod_abs (a := lo) (b := dTime u f) (A := 50000) (B := 120002100) hl hd
 exact ⟨by omega, drift_range h2 hl (by omega)⟩
theorem debris_range {u s f r lo hi : Int} (h : isShot u s f r = true) (hw : areWinds lo hi = true) : (-7000000000 ≤ dbLo u s f r lo ∧ dbLo u s f r lo ≤ 7000000000) ∧ (-7000000000 ≤ dbHi u s f r hi ∧ dbHi u s f r hi ≤ 7000000000) := by
 obtain ⟨h1, h2, h3, h4⟩ := isShot_true h
 obtain ⟨w1, w2, w3⟩ := areWinds_true hw
 have a := debris_small h w1
 have b := debris_small h (lo := hi) (by omega)
 unfold dbLo dbHi
 rw [Int.neg_mul]
 omega
theorem debris_is {u s f r lo hi : Int} (h : isShot u s f r = true) (hw : areWinds lo hi = true) : (∀ k, 30000 ≤ k → spec_l06Debris.f k u s f r lo hi = some (dbLo u s f r lo, dbHi u s f r hi)) ∧ ∀ k, 30000 ≤ k → impl_debrisRange.f k u s f r lo hi = some (dbLo u s f r lo, dbHi u s f r hi) := by
 obtain ⟨h1, h2, h3, h4⟩ := isShot_true h
 obtain ⟨w1, w2, w3⟩ := areWinds_true hw
 have a := debris_small h w1
 have b := debris_small h (lo := hi) (by omega)
 obtain ⟨bs, bi⟩ := burst_is h hw
 obtain ⟨ts, ti⟩ := time_both h
 have en : (-hi) * dTime u f = -(hi * dTime u f) := Int.neg_mul _ _
 refine ⟨fun k hk => ?_, fun k hk => ?_⟩
 ·unfold spec_l06Debris.f
  rw [bs k hk, ts k hk]
  simp only [Option.bind_some]
  rw [w64 (n := lo * dTime u f) (by omega), w64 (n := hi * dTime u f) (by omega), SFl_eq (by omega) (by omega), Ce_eq (by omega) (by omega)]
  simp only [Option.bind_some]
  rw [w64 (n := drift s lo (tTop u) + _) (by omega), w64 (n := drift s lo (tTop u) + _ - r) (by omega), w64 (n := drift s hi (tTop u) + _) (by omega), w64 (by omega)]
  unfold dbLo dbHi
  rw [en]
  congr 2 <;> omega
 ·unfold impl_debrisRange.f
  rw [bi k hk, ti k hk]
  simp only [Option.bind_some]
  rw [w64 (n := lo * dTime u f) (by omega), w64 (n := -hi) (by omega), w64 (n := (-hi) * dTime u f) (by omega), Fl_eq (by omega) (by omega), Fl_eq (by omega) (by omega)]
  simp only [Option.bind_some]
  rw [w64 (n := drift s lo (tTop u) + _) (by omega), w64 (n := drift s lo (tTop u) + _ - r) (by omega), w64 (n := drift s hi (tTop u) - _) (by omega), w64 (by omega)]
  rfl
end Go.Proofs.Ytemkongfmceedaa.F
namespace Go.Proofs.Ytemkongfmceedaa.F
open Go.RowKit Go.Proofs.YtemkongfmceedaaW.PrintWords Go.Proofs.YtemkongfmceedaaW.PrintLast Go.Proofs.YtemkongfmceedaaW.PrintMore
set_option linter.unusedVariables false
set_option linter.unusedSimpArgs false
theorem HH_end {up : Int} (hu : 0 ≤ up ∧ up ≤ 200000) : HH up 60000 ≤ 0 := by
 unfold HH gg
 omega
def IsFl (up t : Int) : Prop := 1 ≤ t ∧ t ≤ 60000 ∧ HH up t ≤ 0 ∧ ∀ s, 1 ≤ s → s < t → 0 < HH up s
theorem IsFl.unique {up t t' : Int} (h : IsFl up t) (h' : IsFl up t') : t' = t := by
 obtain ⟨a, b, c, d⟩ := h
 obtain ⟨a', b', c', d'⟩ := h'
 rcases Int.lt_trichotomy t t' with x | x | x
 ·have := d' t a x; omega
 ·exact x.symm
 ·have := d t' a' x; omega
theorem pos_rise {up : Int} (hu : 0 ≤ up ∧ up ≤ 200000) (h1 : 0 < HH up 1) : ∀ s, 1 ≤ s → s ≤ lastT up → 0 < HH up s := fun s h2 h3 => by
 have := H_rise hu (show (0 : Int) ≤ 1 by omega) h2 h3
 omega
theorem impl_flight_loop {up : Int} (hu : 0 ≤ up ∧ up ≤ 200000) (n : Nat) : ∀ (k : Nat) (lo hi : Int), hi - lo ≤ n → lastT up + 1 ≤ lo → lo ≤ hi → hi ≤ 60000 → HH up hi ≤ 0 → (∀ s, 1 ≤ s → s < lo → 0 < HH up s) → n < k →
  ∃ r, impl_flightOf.l0 k up lo hi = some r ∧ IsFl up r := by
 have hl := last_le hu
 induction n with
 | zero =>
  intro k lo hi h1 h2 h3 h4 h5 h6 hk
  obtain ⟨k, rfl⟩ : ∃ m, k = m + 1 := ⟨k - 1, by omega⟩
  have e : lo = hi := by omega
  subst e
  refine ⟨lo, ?_, by omega, h4, h5, h6⟩
  simp only [impl_flightOf.l0]
  rw [if_neg (by omega)]
 | succ n ih =>
  intro k lo hi h1 h2 h3 h4 h5 h6 hk
  obtain ⟨k, rfl⟩ : ∃ m, k = m + 1 := ⟨k - 1, by omega⟩
  simp only [impl_flightOf.l0]
  by_cases c : lo < hi
  ·rw [if_pos c, w64 (n := lo + hi) (by omega), tdiv_nn (by omega), w64 (n := (lo + hi) / 2) (by omega), H_impl hu (by omega)]
   simp only [Option.bind_some]
   by_cases d : HH up ((lo + hi) / 2) ≤ 0
   ·rw [if_pos d]
    exact ih k lo ((lo + hi) / 2) (by omega) h2 (by omega) (by omega) d h6 (by omega)
   ·rw [if_neg d, w64 (by omega)]
    refine ih k ((lo + hi) / 2 + 1) hi (by omega) (by omega) (by omega) h4 h5 (fun s h7 h8 => ?_) (by omega)
    by_cases e : s < lo
    ·exact h6 s h7 e
    ·have := H_fall hu (show lastT up + 1 ≤ s by omega) (show s ≤ (lo + hi) / 2 by omega)
     omega
  ·rw [if_neg c]
   have e : lo = hi := by omega
   subst e
   exact ⟨lo, rfl, by omega, h4, h5, h6⟩
theorem impl_flight {up : Int} (hu : 0 ≤ up ∧ up ≤ 200000) (k : Nat) (hk : 150000 ≤ k) : ∃ t, impl_flightOf.f k up = some t ∧ IsFl up t := by
 have hl := last_le hu
 unfold impl_flightOf.f
 rw [H_impl hu (by omega)]
 simp only [Option.bind_some]
 by_cases c : HH up 1 ≤ 0
 ·rw [if_pos c]
  exact ⟨1, rfl, by omega, by omega, c, fun s h1 h2 => by omega⟩
 ·rw [if_neg c, w64 (n := 1000 * up) (by omega), tdiv_nn (by omega)]
  show ∃ t, impl_flightOf.l0 k up (wrap64 (wrap64 (lastT up) + 1)) 60000 = some t ∧ _
  rw [w64 (n := lastT up) (by omega), w64 (n := lastT up + 1) (by omega)]
  exact impl_flight_loop hu 60000 k (lastT up + 1) 60000 (by omega) (by omega) (by omega) (by omega) (HH_end hu) (fun s h1 h2 => pos_rise hu (by omega) s h1 (by omega)) (by omega)
theorem spec_flight0 {up : Int} (hu : 0 ≤ up ∧ up ≤ 200000) (n : Nat) : ∀ (k : Nat) (lo hi : Int), hi - lo ≤ n → (0 ≤ lo ∧ lo ≤ hi) → 1 ≤ hi → hi ≤ 60000 → HH up hi ≤ 0 → n < k →
  ∃ (k' : Nat) (hi' : Int), k ≤ k' + n + 1 ∧ spec_l04Flight.l0 k up lo hi = spec_l04Flight.l1 k' up hi' ∧ 1 ≤ hi' ∧ hi' ≤ 60000 ∧ HH up hi' ≤ 0 := by
 induction n with
 | zero =>
  intro k lo hi h1 h2 h3 h4 h5 hk
  obtain ⟨k, rfl⟩ : ∃ m, k = m + 1 := ⟨k - 1, by omega⟩
  refine ⟨k, hi, by omega, ?_, h3, h4, h5⟩
  simp only [spec_l04Flight.l0]
  rw [w64 (n := lo + 1) (by omega), if_neg (by omega)]
 | succ n ih =>
  intro k lo hi h1 h2 h3 h4 h5 hk
  obtain ⟨k, rfl⟩ : ∃ m, k = m + 1 := ⟨k - 1, by omega⟩
  simp only [spec_l04Flight.l0]
  rw [w64 (n := lo + 1) (by omega)]
  by_cases c : lo + 1 < hi
  ·rw [if_pos c, w64 (n := lo + hi) (by omega), tdiv_nn (by omega), w64 (n := (lo + hi) / 2) (by omega), H_spec hu (by omega)]
   simp only [Option.bind_some]
   by_cases d : HH up ((lo + hi) / 2) ≤ 0
   ·rw [if_pos d]
    obtain ⟨k', hi', e1, e2⟩ := ih k lo ((lo + hi) / 2) (by omega) (by omega) (by omega) (by omega) d (by omega)
    exact ⟨k', hi', by omega, e2⟩
   ·rw [if_neg d]
    obtain ⟨k', hi', e1, e2⟩ := ih k ((lo + hi) / 2) hi (by omega) (by omega) h3 h4 h5 (by omega)
    exact ⟨k', hi', by omega, e2⟩
  ·rw [if_neg c]
   exact ⟨k, hi, by omega, rfl, h3, h4, h5⟩
theorem spec_flight1 {up : Int} (hu : 0 ≤ up ∧ up ≤ 200000) (n : Nat) : ∀ (k : Nat) (hi : Int), hi = n + 1 → hi ≤ 60000 → HH up hi ≤ 0 → n + 1 < k →
  ∃ (k' : Nat) (hi' : Int), k ≤ k' + n + 2 ∧ spec_l04Flight.l1 k up hi = spec_l04Flight.l2 k' up hi' 1 ∧ 1 ≤ hi' ∧ hi' ≤ 60000 ∧ HH up hi' ≤ 0 ∧ (hi' = 1 ∨ 0 < HH up (hi' - 1)) := by
 induction n with
 | zero =>
  intro k hi h1 h2 h3 hk
  obtain ⟨k, rfl⟩ : ∃ m, k = m + 2 := ⟨k - 2, by omega⟩
  refine ⟨k, hi, by omega, ?_, by omega, h2, h3, .inl (by omega)⟩
  simp only [spec_l04Flight.l1, spec_l04Flight.j2]
  rw [if_neg (by omega)]
 | succ n ih =>
  intro k hi h1 h2 h3 hk
  obtain ⟨k, rfl⟩ : ∃ m, k = m + 2 := ⟨k - 2, by omega⟩
  by_cases d : HH up (hi - 1) ≤ 0
  ·obtain ⟨k', hi', e1, e2, e3⟩ := ih (k + 1) (hi - 1) (by omega) (by omega) d (by omega)
   refine ⟨k', hi', by omega, ?_, e3⟩
   rw [← e2]
   simp only [spec_l04Flight.l1, spec_l04Flight.j2]
   rw [if_pos (by omega), w64 (n := hi - 1) (by omega), H_spec hu (by omega)]
   simp only [Option.bind_some]
   rw [if_pos d]
  ·refine ⟨k, hi, by omega, ?_, by omega, h2, h3, .inr (by omega)⟩
   simp only [spec_l04Flight.l1, spec_l04Flight.j2]
   rw [if_pos (by omega), w64 (n := hi - 1) (by omega), H_spec hu (by omega)]
   simp only [Option.bind_some]
   rw [if_neg d]
theorem spec_flight {up : Int} (hu : 0 ≤ up ∧ up ≤ 200000) (k : Nat) (hk : 150000 ≤ k) : ∃ t, spec_l04Flight.f k up = some t ∧ IsFl up t := by
 have hl := last_le hu
 have ht := tTop_range hu
 unfold spec_l04Flight.f
 rw [(top_is hu).2.1 k (by omega)]
 simp only [Option.bind_some]
 obtain ⟨k1, hi, e1, e2, e3, e4, e5⟩ := spec_flight0 hu 60000 k (tTop up) 60000 (by omega) (by omega) (by omega) (by omega) (HH_end hu) (by omega)
 obtain ⟨k2, h, f1, f2, f3, f4, f5, f6⟩ := spec_flight1 hu (hi - 1).toNat k1 hi (by omega) e4 e5 (by omega)
 rw [e2, f2]
 obtain ⟨k3, rfl⟩ : ∃ m, k2 = m + 6 := ⟨k2 - 6, by omega⟩
 clear hk e1 e2 f1 f2 e3 e4 e5
 by_cases c : HH up 1 ≤ 0
 ·refine ⟨1, ?_, by omega, by omega, c, fun s h1 h2 => by omega⟩
  simp only [spec_l04Flight.l2, spec_l04Flight.j4]
  by_cases d : 1 < h
  ·rw [if_pos d, if_pos (by decide), H_spec hu (by omega)]
   simp only [Option.bind_some]
   rw [if_pos c]
  ·rw [if_neg d, if_neg (by decide)]
   congr 1; omega
 ·have hp : ∀ s, 1 ≤ s → s < h → 0 < HH up s := fun s h1 h2 => by
   by_cases e : s ≤ lastT up
   ·exact pos_rise hu (by omega) s h1 e
   ·have := H_fall hu (show lastT up + 1 ≤ s by omega) (show s ≤ h - 1 by omega)
    omega
  refine ⟨h, ?_, f3, f4, f5, hp⟩
  have w2 : wrap64 (1 + 1) = 2 := w64 (by omega)
  have w3 : wrap64 (2 + 1) = 3 := w64 (by omega)
  simp only [spec_l04Flight.l2, spec_l04Flight.j4, w2, w3]
  by_cases d : 1 < h
  ·rw [if_pos d, if_pos (by decide), H_spec hu (by omega)]
   simp only [Option.bind_some]
   rw [if_neg c]
   by_cases d2 : 2 < h
   ·have := hp 2 (by omega) d2
    rw [if_pos d2, if_pos (by decide), H_spec hu (by omega)]
    simp only [Option.bind_some]
    rw [if_neg (by omega)]
    by_cases d3 : 3 < h
    ·rw [if_pos d3, if_neg (by decide)]
    ·rw [if_neg d3, if_neg (by decide)]
   ·rw [if_neg d2, if_neg (by decide)]
  ·rw [if_neg d, if_neg (by decide)]
def flT (up : Int) : Int := (impl_flightOf.f 150000 up).getD 0
theorem flight_is {up : Int} (hu : 0 ≤ up ∧ up ≤ 200000) : IsFl up (flT up) ∧ (∀ k, 150000 ≤ k → spec_l04Flight.f k up = some (flT up)) ∧ ∀ k, 150000 ≤ k → impl_flightOf.f k up = some (flT up) := by
 obtain ⟨t, e, h⟩ := impl_flight hu 150000 (Nat.le_refl _)
 have et : flT up = t := by unfold flT; rw [e]; rfl
 rw [et]
 refine ⟨h, fun k hk => ?_, fun k hk => ?_⟩
 ·obtain ⟨t', e', h'⟩ := spec_flight hu k hk
  rw [h.unique h'] at e'
  exact e'
 ·obtain ⟨t', e', h'⟩ := impl_flight hu k hk
  rw [h.unique h'] at e'
  exact e'
end Go.Proofs.Ytemkongfmceedaa.F
namespace Go.Proofs.Ytemkongfmceedaa.F
open Go.RowKit Go.Proofs.YtemkongfmceedaaW.PrintWords Go.Proofs.YtemkongfmceedaaW.PrintLast Go.Proofs.YtemkongfmceedaaW.PrintMore
set_option linter.unusedVariables false
set_option linter.unusedSimpArgs false
theorem mn_is (a b : Int) : mn a b ≤ a ∧ mn a b ≤ b ∧ (mn a b = a ∨ mn a b = b) := by unfold mn; split <;> omega
theorem mx_is (a b : Int) : a ≤ mx a b ∧ b ≤ mx a b ∧ (mx a b = a ∨ mx a b = b) := by unfold mx; split <;> omega
def stLo (u s f r lo : Int) : Int := mn (mn (dbLo u s f r lo) (drift s lo (flT u))) 0
def stHi (u s f r hi : Int) : Int := mx (mx (dbHi u s f r hi) (drift s hi (flT u))) 0
theorem flT_range {up : Int} (hu : 0 ≤ up ∧ up ≤ 200000) : 1 ≤ flT up ∧ flT up ≤ 60000 := ⟨(flight_is hu).1.1, (flight_is hu).1.2.1⟩
theorem strip_is {u s f r lo hi : Int} (h : isShot u s f r = true) (hw : areWinds lo hi = true) : (∀ k, 150000 ≤ k → spec_l06Strip.f k u s f r lo hi = some (stLo u s f r lo, stHi u s f r hi)) ∧ ∀ k, 150000 ≤ k → impl_stripOf.f k u s f r lo hi = some (stLo u s f r lo, stHi u s f r hi) := by
 obtain ⟨h1, h2, h3, h4⟩ := isShot_true h
 obtain ⟨w1, w2, w3⟩ := areWinds_true hw
 obtain ⟨ds, di⟩ := debris_is h hw
 obtain ⟨_, fs, fi⟩ := flight_is h1
 have fr := flT_range h1
 refine ⟨fun k hk => ?_, fun k hk => ?_⟩
 ·unfold spec_l06Strip.f
  rw [ds k (by omega), fs k hk]
  simp only [Option.bind_some]
  rw [spec_drift h2 w1 (by omega), spec_drift h2 (by omega) (by omega)]
  simp only [Option.bind_some]
  have a1 := mn_is 0 (dbLo u s f r lo)
  have a2 := mn_is (mn 0 (dbLo u s f r lo)) (drift s lo (flT u))
  have a3 := mn_is (dbLo u s f r lo) (drift s lo (flT u))
  have a4 := mn_is (mn (dbLo u s f r lo) (drift s lo (flT u))) 0
  have b1 := mx_is 0 (dbHi u s f r hi)
  have b2 := mx_is (mx 0 (dbHi u s f r hi)) (drift s hi (flT u))
  have b3 := mx_is (dbHi u s f r hi) (drift s hi (flT u))
  have b4 := mx_is (mx (dbHi u s f r hi) (drift s hi (flT u))) 0
  unfold stLo stHi
  congr 2 <;> omega
 ·unfold impl_stripOf.f
  rw [di k (by omega), fi k hk]
  simp only [Option.bind_some]
  rw [impl_drift h2 w1 (by omega), impl_drift h2 (by omega) (by omega)]
  rfl
theorem strip_range {u s f r lo hi : Int} (h : isShot u s f r = true) (hw : areWinds lo hi = true) : (-7000000000 ≤ stLo u s f r lo ∧ stLo u s f r lo ≤ 0) ∧ 0 ≤ stHi u s f r hi ∧ stHi u s f r hi ≤ 7000000000 := by
 obtain ⟨h1, h2, h3, h4⟩ := isShot_true h
 obtain ⟨w1, w2, w3⟩ := areWinds_true hw
 have fr := flT_range h1
 have d := debris_range h hw
 have a := drift_range h2 w1 (t := flT u) (by omega)
 have b := drift_range h2 (wnd := hi) (by omega) (t := flT u) (by omega)
 have a3 := mn_is (dbLo u s f r lo) (drift s lo (flT u))
 have a4 := mn_is (mn (dbLo u s f r lo) (drift s lo (flT u))) 0
 have b3 := mx_is (dbHi u s f r hi) (drift s hi (flT u))
 have b4 := mx_is (mx (dbHi u s f r hi) (drift s hi (flT u))) 0
 unfold stLo stHi
 omega
end Go.Proofs.Ytemkongfmceedaa.F
namespace Go.Proofs.Ytemkongfmceedaa.F
open Go.RowKit Go.Proofs.YtemkongfmceedaaW.PrintWords Go.Proofs.YtemkongfmceedaaW.PrintLast Go.Proofs.YtemkongfmceedaaW.PrintMore
set_option linter.unusedVariables false
set_option linter.unusedSimpArgs false
def shAt (xs : List S26) (i : Nat) : Bool := isShot (xs.getD i z26).f0 (xs.getD i z26).f1 (xs.getD i z26).f2 (xs.getD i z26).f3
def areShots (xs : List S26) : Bool := allF (shAt xs) 0 xs.length && decide (xs.length ≤ 20)
theorem rd_shot (xs : List S26) (i : Nat) : rd_T26 xs (i : Int) = xs.getD i z26 := by unfold rd_T26; rw [Int.toNat_natCast]
theorem spec_codes_loop (xs : List S26) (hx : xs.length ≤ 4000000) (lo hi : Int) : ∀ d i k, xs.length - i = d → i ≤ xs.length → d < k → spec_l06Code.l0 k xs lo hi (i : Int) = some (if allF (shAt xs) i d = true then (if (xs.length : Int) > 20 then 1 else if areWinds lo hi = true then 0 else 2) else 1) := by
 intro d
 induction d with
 | zero =>
  intro i k hd hi' hk
  obtain ⟨k, rfl⟩ : ∃ m, k = m + 1 := ⟨k - 1, by omega⟩
  simp only [spec_l06Code.l0]
  rw [if_neg (by omega)]
  unfold allF
  rw [if_pos rfl, spec_winds]
  simp only [Option.bind_some]
  by_cases c : (xs.length : Int) > 20
  ·rw [if_pos c, if_pos c]
  ·rw [if_neg c, if_neg c]
   cases areWinds lo hi <;> rfl
 | succ d ih =>
  intro i k hd hi' hk
  obtain ⟨k, rfl⟩ : ∃ m, k = m + 1 := ⟨k - 1, by omega⟩
  simp only [spec_l06Code.l0]
  rw [if_pos (by omega), if_pos (by omega), rd_shot, spec_shot, w64 (by omega)]
  simp only [Option.bind_some]
  unfold allF
  have e : isShot (xs.getD i z26).f0 (xs.getD i z26).f1 (xs.getD i z26).f2 (xs.getD i z26).f3 = shAt xs i := rfl
  rw [e]
  cases shAt xs i with
  | false => rfl
  | true =>
   rw [if_pos rfl, Bool.true_and]
   exact ih (i + 1) k (by omega) (by omega) (by omega)
theorem spec_codes (xs : List S26) (hx : xs.length ≤ 4000000) (lo hi : Int) (k : Nat) (hk : xs.length < k) : spec_l06Code.f k xs lo hi = some (if areShots xs = true then (if areWinds lo hi = true then 0 else 2) else 1) := by
 have h := spec_codes_loop xs hx lo hi xs.length 0 k (by omega) (by omega) hk
 unfold spec_l06Code.f
 rw [show spec_l06Code.l0 k xs lo hi 0 = _ from h]
 unfold areShots
 cases allF (shAt xs) 0 xs.length with
 | false => rfl
 | true =>
  rw [if_pos rfl, Bool.true_and]
  by_cases c : (xs.length : Int) > 20
  ·rw [if_pos c, decide_eq_false (by omega), if_neg (by decide)]
  ·rw [if_neg c, decide_eq_true (by omega), if_pos rfl]
theorem impl_shots (xs : List S26) (hx : xs.length ≤ 4000000) (k : Nat) (hk : xs.length < k) : impl_areShots.f k xs = some (areShots xs) := by
 unfold impl_areShots.f areShots
 by_cases c : (xs.length : Int) > 20
 ·rw [if_pos c, decide_eq_false (by omega), Bool.and_false]
 ·rw [if_neg c, decide_eq_true (by omega)]
  refine all_loop (f := fun k i => impl_areShots.l0 k xs (xs.length : Int) (i : Int)) xs.length (fun k i hi => ?_) (fun k => ?_) xs.length k 0 (by omega) (by omega) (by omega)
  ·show impl_areShots.l0 (k + 1) xs (xs.length : Int) i = _
   simp only [impl_areShots.l0, impl_shot, Option.bind_some]
   rw [if_pos (by omega), if_pos (by omega), if_pos (by omega), w64 (by omega), rd_shot]
   rfl
  ·show impl_areShots.l0 (k + 1) xs (xs.length : Int) _ = _
   simp only [impl_areShots.l0]
   rw [if_neg (by omega)]
theorem areShots_true {xs : List S26} (h : areShots xs = true) : xs.length ≤ 20 ∧ ∀ i, i < xs.length → shAt xs i = true := by
 unfold areShots at h
 rw [Bool.and_eq_true, allF_true, decide_eq_true_iff] at h
 exact ⟨h.2, fun i hi => h.1 i (by omega) (by omega)⟩
def sLo (xs : List S26) (lo : Int) (i : Nat) : Int := stLo (xs.getD i z26).f0 (xs.getD i z26).f1 (xs.getD i z26).f2 (xs.getD i z26).f3 lo
def sHi (xs : List S26) (hi : Int) (i : Nat) : Int := stHi (xs.getD i z26).f0 (xs.getD i z26).f1 (xs.getD i z26).f2 (xs.getD i z26).f3 hi
theorem strip_at {xs : List S26} {lo hi : Int} {i : Nat} (h : shAt xs i = true) (hw : areWinds lo hi = true) : (∀ k, 150000 ≤ k → spec_l06Strip.f k (xs.getD i z26).f0 (xs.getD i z26).f1 (xs.getD i z26).f2 (xs.getD i z26).f3 lo hi = some (sLo xs lo i, sHi xs hi i)) ∧ (∀ k, 150000 ≤ k → impl_stripOf.f k (xs.getD i z26).f0 (xs.getD i z26).f1 (xs.getD i z26).f2 (xs.getD i z26).f3 lo hi = some (sLo xs lo i, sHi xs hi i)) ∧ (-7000000000 ≤ sLo xs lo i ∧ sLo xs lo i ≤ 0) ∧ 0 ≤ sHi xs hi i ∧ sHi xs hi i ≤ 7000000000 := ⟨(strip_is h hw).1, (strip_is h hw).2, strip_range h hw⟩
end Go.Proofs.Ytemkongfmceedaa.F
namespace Go.Proofs.Ytemkongfmceedaa.F
open Go.RowKit Go.Proofs.YtemkongfmceedaaW.PrintWords Go.Proofs.YtemkongfmceedaaW.PrintLast Go.Proofs.YtemkongfmceedaaW.PrintMore
set_option linter.unusedVariables false
set_option linter.unusedSimpArgs false
theorem both_loop {xs : List S26} (hx : xs.length ≤ 20) (hs : ∀ i, i < xs.length → shAt xs i = true) {lo hi : Int} (hw : areWinds lo hi = true) : ∀ (d i : Nat) (b c m : Int), xs.length - i = d → i ≤ xs.length → ((c = b ∧ 0 ≤ b) ∨ (i < xs.length ∧ m = -1)) →
  ∃ q1 q2, (∀ k, 150000 + d < k → spec_WorstShot.l0 k xs lo hi b m (i : Int) = some (q1, q2, 0)) ∧ ∀ k, 150000 + d < k → impl_WorstShot.l0 k lo hi c m xs (xs.length : Int) (i : Int) = some (q1, q2, 0) := by
 intro d
 induction d with
 | zero =>
  intro i b c m hd hi' hb
  refine ⟨b, m, fun k hk => ?_, fun k hk => ?_⟩
  ·obtain ⟨k, rfl⟩ : ∃ m, k = m + 1 := ⟨k - 1, by omega⟩
   simp only [spec_WorstShot.l0]
   rw [if_neg (by omega)]
  ·obtain ⟨k, rfl⟩ : ∃ m, k = m + 1 := ⟨k - 1, by omega⟩
   simp only [impl_WorstShot.l0]
   rw [if_neg (by omega), if_neg (by omega)]
   have e : c = b := by omega
   rw [e]
 | succ d ih =>
  intro i b c m hd hi' hb
  obtain ⟨s1, s2, s3, s4⟩ := strip_at (hs i (by omega)) hw
  have w : wrap64 ((i : Int) + 1) = ((i + 1 : Nat) : Int) := w64 (by omega)
  have w2 : wrap64 (sHi xs hi i - sLo xs lo i) = sHi xs hi i - sLo xs lo i := w64 (by omega)
  by_cases g : sHi xs hi i - sLo xs lo i > m
  ·obtain ⟨q1, q2, e1, e2⟩ := ih (i + 1) (i : Int) (i : Int) (sHi xs hi i - sLo xs lo i) (by omega) (by omega) (.inl ⟨rfl, by omega⟩)
   refine ⟨q1, q2, fun k hk => ?_, fun k hk => ?_⟩
   ·obtain ⟨k, rfl⟩ : ∃ m, k = m + 1 := ⟨k - 1, by omega⟩
    simp only [spec_WorstShot.l0]
    rw [if_pos (by omega), if_pos (by omega), rd_shot, s1 k (by omega), w]
    simp only [Option.bind_some]
    rw [w2, if_pos g]
    exact e1 k (by omega)
   ·obtain ⟨k, rfl⟩ : ∃ m, k = m + 1 := ⟨k - 1, by omega⟩
    simp only [impl_WorstShot.l0]
    rw [if_pos (by omega), if_pos (by omega), if_pos (by omega), rd_shot, s2 k (by omega), w]
    simp only [Option.bind_some]
    rw [w2, if_pos g]
    exact e2 k (by omega)
  ·obtain ⟨q1, q2, e1, e2⟩ := ih (i + 1) b c m (by omega) (by omega) (.inl (by omega))
   refine ⟨q1, q2, fun k hk => ?_, fun k hk => ?_⟩
   ·obtain ⟨k, rfl⟩ : ∃ m, k = m + 1 := ⟨k - 1, by omega⟩
    simp only [spec_WorstShot.l0]
    rw [if_pos (by omega), if_pos (by omega), rd_shot, s1 k (by omega), w]
    simp only [Option.bind_some]
    rw [w2, if_neg g]
    exact e1 k (by omega)
   ·obtain ⟨k, rfl⟩ : ∃ m, k = m + 1 := ⟨k - 1, by omega⟩
    simp only [impl_WorstShot.l0]
    rw [if_pos (by omega), if_pos (by omega), if_pos (by omega), rd_shot, s2 k (by omega), w]
    simp only [Option.bind_some]
    rw [w2, if_neg g]
    exact e2 k (by omega)
theorem main_FnExactWorstShot (M0 : List S26) (lo hi : Int) (hM : M0.length ≤ 1000000) (hP : ∀ x ∈ M0, PrI26 x) (_ : I64 lo) (_ : I64 hi) : ∃ q1 q2 q3, Evt (fun k => spec_WorstShot.f k M0 lo hi = some (q1, q2, q3)) ∧ Evt (fun k => impl_WorstShot.f k M0 lo hi = some (q1, q2, q3)) := by
 cases h : areShots M0 with
 | false =>
  refine ⟨0, 0, 1, ⟨M0.length + 9, fun k hk => ?_⟩, ⟨M0.length + 2, fun k hk => ?_⟩⟩
  ·show spec_WorstShot.f k M0 lo hi = _
   obtain ⟨k, rfl⟩ : ∃ m, k = m + 2 := ⟨k - 2, by omega⟩
   unfold spec_WorstShot.f
   rw [spec_codes M0 (by omega) _ _ (k + 2) (by omega), h]; rfl
  ·show impl_WorstShot.f k M0 lo hi = _
   unfold impl_WorstShot.f
   rw [impl_shots M0 (by omega) k (by omega), h]; rfl
 | true =>
  cases hw : areWinds lo hi with
  | false =>
   refine ⟨0, 0, 2, ⟨M0.length + 9, fun k hk => ?_⟩, ⟨M0.length + 2, fun k hk => ?_⟩⟩
   ·show spec_WorstShot.f k M0 lo hi = _
    obtain ⟨k, rfl⟩ : ∃ m, k = m + 2 := ⟨k - 2, by omega⟩
    unfold spec_WorstShot.f
    rw [spec_codes M0 (by omega) _ _ (k + 2) (by omega), h, hw]; rfl
   ·show impl_WorstShot.f k M0 lo hi = _
    unfold impl_WorstShot.f
    rw [impl_shots M0 (by omega) k (by omega), h, impl_winds, hw]; rfl
  | true =>
   obtain ⟨hx, hs⟩ := areShots_true h
   cases M0 with
   | nil =>
    refine ⟨0, 0, 4, ⟨9, fun k hk => ?_⟩, ⟨9, fun k hk => ?_⟩⟩
    ·show spec_WorstShot.f k [] lo hi = _
     obtain ⟨k, rfl⟩ : ∃ m, k = m + 2 := ⟨k - 2, by omega⟩
     unfold spec_WorstShot.f
     rw [spec_codes [] (by decide) _ _ (k + 2) (by show 0 < k + 2; omega), h, hw]; rfl
    ·show impl_WorstShot.f k [] lo hi = _
     obtain ⟨k, rfl⟩ : ∃ m, k = m + 2 := ⟨k - 2, by omega⟩
     unfold impl_WorstShot.f
     rw [impl_shots [] (by decide) (k + 2) (by show 0 < k + 2; omega), h, impl_winds, hw]; rfl
   | cons x L =>
    have hl : 0 < (x :: L).length := Nat.succ_pos _
    generalize x :: L = M0 at h hx hs hM hP hl ⊢
    obtain ⟨q1, q2, e1, e2⟩ := both_loop hx hs hw M0.length 0 0 (-1) (-1) (by omega) (by omega) (.inr ⟨hl, rfl⟩)
    refine ⟨q1, q2, 0, ⟨M0.length + 160000, fun k hk => ?_⟩, ⟨M0.length + 160000, fun k hk => ?_⟩⟩
    ·show spec_WorstShot.f k M0 lo hi = _
     obtain ⟨k, rfl⟩ : ∃ m, k = m + 2 := ⟨k - 2, by omega⟩
     have c : ((M0.length : Int) == 0) = false := by simp; intro hh; rw [hh] at hl; exact absurd hl (by decide)
     unfold spec_WorstShot.f
     rw [spec_codes M0 (by omega) _ _ (k + 2) (by omega), h, hw, c]
     exact e1 k (by omega)
    ·show impl_WorstShot.f k M0 lo hi = _
     unfold impl_WorstShot.f
     rw [impl_shots M0 (by omega) k (by omega), h, impl_winds, hw]
     exact e2 k (by omega)
theorem pure_FnExactWorstShot : Pure_FnExactWorstShot := by
 intro l0 a1 a2 n0 p0 b1 b2
 rcases sz_ShotS l0 (1000000) (by omega) (by omega) n0 with ⟨z1, s1⟩ | s1
 rotate_left
 ·exact ⟨0, ⟨-1, s1, Or.inl (by omega)⟩⟩
 obtain ⟨L0, t0, ne0, tk0, ln0, le0, rm0, jn0, fu0, to0⟩ := to_ShotS l0 (by omega)
 have eq0 := eq_ShotS L0 (by omega)
 obtain ⟨q1, q2, q3, sp, im⟩ := main_FnExactWorstShot (l0.map conv_ShotS) a1 a2 (by rw [ln0]; omega) (prc_ShotS p0) b1 b2
 obtain ⟨k, hfu0, hto0, heq0, hsp, him⟩ := (fu0.and (to0.and (eq0.and (sp.and im)))).ex
 exact ⟨k, ⟨1000000 - l0.length, s1, Or.inr ⟨by omega, ⟨L0, _, t0, q1, q2, q3, { ne0 := ne0, tk0 := tk0, ln0 := ln0, fu0 := hfu0, rm0 := rm0, jn0 := jn0, eq0 := heq0, sp := hsp, im := him, to0 := hto0 }⟩⟩⟩⟩
end Go.Proofs.Ytemkongfmceedaa.F
namespace Go.Proofs.Ytemkongfmceedaa.fnExactWorstShot
open Go.ChangeShapes Go.WideShapes Go.ChangeAt Go.RowKit Go.Proofs.Ytemkongfmceedaa.F Go.Proofs.YtemkongfmceedaaW.PrintWords
open Go.ChangeMaps (open_string shut_string)
set_option linter.unusedVariables false
theorem own : ownKnob Try.prog.godebug = none := by kernel_rfl
theorem laidOut : laidOutB Try.prog = true := by kernel_rfl
set_option maxRecDepth 100000 in
theorem lifted (os : Os) (started : os.Started) (H : Type) (enc : TypeId × Value → H) :
  ReturnsInHanded {} Try.checked os 7 .any (Rows.fnExactWorstShotSpec.pre6 enc Try.prog Try.f7 Rows.fnExactWorstShotRow.domain false) (Rows.fnExactWorstShotSpec.post enc Try.prog Try.f7 false true false false) := by
 refine returnsInHanded_of_change_sized (C := Try.checked) own started (by kernel_rfl) Try.func7
  (ChangeSpec.witness6 (enc := enc) (C := Try.checked) false ⟨#[], #[.slice none 0 0, .int .i64 0, .int .i64 0], []⟩ 8 (by kernel_rfl) (by kernel_rfl) (by kernel_rfl) (by kernel_rfl)) ?_
 intro W base args ds gs before hval0 hW hcnd hsz0 _
 have hval : ∀ (j : Nat) t v, Try.f7.params[j]? = some t → args[j]? = some v → Value.okWide Try.prog W .any base t v := hval0
 have hW' := hW
 obtain ⟨p, q, hA0, hV, rfl, hfz, hnd⟩ := hW
 have hA : DataW.TrodAll enc Try.prog W 0 (fun _ => true) true Try.f7.params.toList args.toList ds p := hA0
 rw [Try.params7] at hA hval
 obtain ⟨v0, vs0, d0, ds0, p0, q0, hargs, rfl, rfl, h0, r0⟩ := trodAll_cons hA
 obtain ⟨v1, vs1, d1, ds1, p1, q1, rfl, rfl, rfl, h1, r1⟩ := trodAll_cons r0
 obtain ⟨v2, vs2, d2, ds2, p2, q2, rfl, rfl, rfl, h2, r2⟩ := trodAll_cons r1
 obtain ⟨rfl, rfl, rfl⟩ := trodAll_nil r2
 obtain rfl : args = #[v0, v1, v2] := by cases args; simp_all
 obtain ⟨rfl, rfl⟩ := trodVars_none hV
 have k0 := h0
 have lt0 : ∀ x ∈ p0, x.block < W.heap.size := by obtain ⟨m, hm⟩ := k0; exact DataW.trod_lt m _ _ _ hm
 obtain ⟨A0, n0, c0, rfl⟩ := okWide_slice Try.underlying32 (hval 0 32 v0 rfl rfl)
 obtain ⟨l0, rfl, lc0, lm0, hC0, hP0⟩ : ∃ xs : List S23, n0 = xs.length ∧ xs.length ≤ c0 ∧ c0 ≤ maxLen ∧ Kd.C k23 W A0 xs.length xs ∧ ∀ x ∈ xs, Pr23 x := by
  obtain ⟨fuel, hf⟩ := h0
  obtain ⟨A, c, xs, hcs, h1, h2, h3, h4⟩ := open_rows k23 (Pr := Pr23) Try.underlying32 (by kernel_rfl) (fun f_ c_ y_ hy_ => open_S23 hy_ W) hf
  simp [Value.cells] at hcs
  obtain ⟨rfl, rfl, rfl⟩ := hcs
  exact ⟨xs, rfl, h1, h2, h3, h4⟩
 obtain ⟨a1, rfl, rfl, rfl, w1⟩ := open_int Try.underlying2 (hval 1 2 v1 rfl rfl) h1
 obtain ⟨a2, rfl, rfl, rfl, w2⟩ := open_int Try.underlying2 (hval 2 2 v2 rfl rfl) h2
 obtain ⟨k, hk⟩ := pure_FnExactWorstShot l0 a1 a2 (by omega) hP0 (I64_of w1) (I64_of w2)
 refine (law_FnExactWorstShot k A0 c0 l0 a1 a2 W hC0 lc0 hk).mono fun e W' ⟨he, bel⟩ => ?_
 subst he
 exact ⟨_, rfl, _, _, _, [], _, [], hW', trodAll_mk1 (shut_bool Try.underlying4 _), (trodAll_cons_mk (Below.trod laidOut (by kernel_rfl) (of_decide_eq_true (by kernel_rfl)) k0 bel lt0) (trodAll_cons_mk (shut_int Try.underlying2 w1) (trodAll_cons_mk (shut_int Try.underlying2 w2) trodAll_mk0))), rfl, bel.frame _, fun h => by cases h⟩
theorem over : Rows.fnExactWorstShotRow.holds Try.pinned (OpenSpec.ofChange Rows.fnExactWorstShotSpec) :=
 OpenClaim.holds_of_wide 7 Try.f7 rfl rfl rfl rfl rfl rfl rfl ⟨rfl, rfl, rfl, rfl, rfl⟩ rfl rfl rfl rfl rfl (by kernel_rfl) Try.func7 (by kernel_rfl)
  (of_decide_eq_true (by kernel_rfl)) (by unfold Func.isWrapper; first | (rw [if_pos (by decide +kernel)]; kernel_rfl) | (rw [if_neg (by decide +kernel)]; exact ⟨rfl, rfl⟩))
  (fun os started H enc _ => lifted os started H enc)
theorem proved : Rows.FnExactWorstShotSaid := over
end Go.Proofs.Ytemkongfmceedaa.fnExactWorstShot
namespace Go.Proofs.Ytemkongfmceedaa
theorem fnExactWorstShot_holds : Rows.FnExactWorstShotSaid := fnExactWorstShot.proved
#print axioms fnExactWorstShot_holds
end Go.Proofs.Ytemkongfmceedaa
