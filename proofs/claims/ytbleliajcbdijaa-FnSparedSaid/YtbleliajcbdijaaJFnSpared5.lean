import Derived.Test.YtbleliajcbdijaaJFnSpared4
import Derived.Below
import Derived.Deep.Draws
import Derived.Deep.AppendLies
import Derived.Maps.AppendAt
import Derived.OwnWalk
import Derived.Laws.BytesArg
import Derived.Laws.MakeOwn
import Derived.Laws.OwnMore
import Derived.Tactics
import Derived.Lib.ConvBytes
import Derived.Laws.Slices
import Derived.WalkKit
import Derived.KernelRfl
import Derived.RowKit3
import Derived.Deep.LoopGhost
import Derived.Deep.QuietTactic
import Derived.BigQuiet
import Derived.WideLaws
import Derived.Deep.DeepCutAuto
import Derived.Deep.CutBlock
import Derived.Deep.RegionHeld3
import Derived.Lib.AppendStr
import Derived.ArgAppend
import Derived.Laws.IdiomCopy
import Derived.RowKit
import Derived.OrdersHeld
import Derived.Laws.BitsLemmas
import Derived.Laws.StructEq
import Derived.Test.YtbleliajcbdijaaProg
namespace Go.Proofs.Ytbleliajcbdijaa.F
open Go.RowKit Go.Proofs.YtbleliajcbdijaaW.PrintWords Go.Proofs.YtbleliajcbdijaaW.PrintLast Go.Proofs.YtbleliajcbdijaaW.PrintMore
set_option linter.unusedVariables false
set_option linter.unusedSimpArgs false
def gg (up t : Int) : Int := 2000 * up * t - 9810 * t * t
def HH (up t : Int) : Int := gg up t / 2000000
def lastT (up : Int) : Int := 1000 * up / 9810
theorem gg_small {up t : Int} (hu : 0 ≤ up ∧ up ≤ 200000) (ht : 0 ≤ t ∧ t ≤ 60001) : 0 ≤ 2000 * up * t ∧ 2000 * up * t ≤ 24000400000000 ∧ 0 ≤ 9810 * t * t ∧ 9810 * t * t ≤ 35317177209810 := by
 have h1 := prod_nn (a := 2000 * up) (b := t) (A := 400000000) (B := 60001) (by omega) ht
 have h2 := prod_nn (a := 9810 * t) (b := t) (A := 588609810) (B := 60001) (by omega) ht
 omega
theorem H_spec {up t : Int} (hu : 0 ≤ up ∧ up ≤ 200000) (ht : 0 ≤ t ∧ t ≤ 60001) : spec_l04Height.f up t = some (HH up t) := by
 have h := gg_small hu ht
 unfold spec_l04Height.f
 rw [w64 (n := 2000 * up) (by omega), w64 (n := 2000 * up * t) (by omega), w64 (n := 9810 * t) (by omega), w64 (n := 9810 * t * t) (by omega), w64 (n := 2000 * up * t - _) (by omega), SFl_eq (by omega) (by omega)]
 rfl
theorem H_impl {up t : Int} (hu : 0 ≤ up ∧ up ≤ 200000) (ht : 0 ≤ t ∧ t ≤ 60001) : impl_heightAt.f up t = some (HH up t) := by
 have h := gg_small hu ht
 unfold impl_heightAt.f
 rw [w64 (n := 2000 * up) (by omega), w64 (n := 2000 * up * t) (by omega), w64 (n := 9810 * t) (by omega), w64 (n := 9810 * t * t) (by omega), w64 (n := 2000 * up * t - _) (by omega), Fl_eq (by omega) (by omega)]
 rfl
theorem gg_step (up t : Int) : gg up (t + 1) = gg up t + 2000 * up - 9810 * (2 * t + 1) := by
 unfold gg
 rw [Int.mul_add (2000 * up), Int.mul_add 9810, Int.mul_add, Int.add_mul]
 omega
theorem last_le {up : Int} (hu : 0 ≤ up ∧ up ≤ 200000) : 0 ≤ lastT up ∧ lastT up ≤ 20387 ∧ 9810 * lastT up ≤ 1000 * up ∧ 1000 * up < 9810 * lastT up + 9810 := by unfold lastT; omega
theorem HH_of_gg {up s t : Int} (h : gg up s ≤ gg up t) : HH up s ≤ HH up t := Int.ediv_le_ediv (by omega) h
theorem gg_rise {up : Int} (hu : 0 ≤ up ∧ up ≤ 200000) {s : Int} (hs : 0 ≤ s) : ∀ n : Nat, s + n ≤ lastT up → gg up s ≤ gg up (s + n)
 | 0, _ => by rw [Int.natCast_zero, Int.add_zero]; exact Int.le_refl _
 | n + 1, h => by
  have h1 := gg_rise hu hs n (by omega)
  have h2 := gg_step up (s + n)
  have h3 := last_le hu
  rw [show s + ((n + 1 : Nat) : Int) = s + n + 1 by omega]
  omega
theorem H_rise {up s t : Int} (hu : 0 ≤ up ∧ up ≤ 200000) (hs : 0 ≤ s) (hst : s ≤ t) (ht : t ≤ lastT up) : HH up s ≤ HH up t := by
 have := gg_rise hu hs (t - s).toNat (by omega)
 rw [show s + ((t - s).toNat : Int) = t by omega] at this
 exact HH_of_gg this
theorem gg_fall {up : Int} (hu : 0 ≤ up ∧ up ≤ 200000) {s : Int} (hs : lastT up + 1 ≤ s) : ∀ n : Nat, gg up (s + n) ≤ gg up s
 | 0 => by rw [Int.natCast_zero, Int.add_zero]; exact Int.le_refl _
 | n + 1 => by
  have h1 := gg_fall hu hs n
  have h2 := gg_step up (s + n)
  have h3 := last_le hu
  rw [show s + ((n + 1 : Nat) : Int) = s + n + 1 by omega]
  omega
theorem H_fall {up s t : Int} (hu : 0 ≤ up ∧ up ≤ 200000) (hs : lastT up + 1 ≤ s) (hst : s ≤ t) : HH up t ≤ HH up s := by
 have := gg_fall hu hs (t - s).toNat
 rw [show s + ((t - s).toNat : Int) = t by omega] at this
 exact HH_of_gg this
def IsTop (up t top : Int) : Prop := 0 ≤ t ∧ t ≤ lastT up + 1 ∧ HH up t = top ∧ (∀ s, 0 ≤ s → s < t → HH up s < top) ∧ ∀ s, 0 ≤ s → s ≤ lastT up + 1 → HH up s ≤ top
theorem IsTop.unique {up t top t' top' : Int} (h : IsTop up t top) (h' : IsTop up t' top') : t' = t ∧ top' = top := by
 obtain ⟨a, b, c, d, e⟩ := h
 obtain ⟨a', b', c', d', e'⟩ := h'
 have h1 := e t' a' b'
 have h2 := e' t a b
 refine ⟨?_, by omega⟩
 rcases Int.lt_trichotomy t t' with x | x | x
 ·have := d' t a x; omega
 ·exact x.symm
 ·have := d t' a' x; omega
theorem top_all {up top : Int} (hu : 0 ≤ up ∧ up ≤ 200000) (h1 : HH up (lastT up) ≤ top) (h2 : HH up (lastT up + 1) ≤ top) : ∀ s, 0 ≤ s → s ≤ lastT up + 1 → HH up s ≤ top := by
 intro s hs hs2
 by_cases e : s = lastT up + 1
 ·rw [e]; exact h2
 ·exact Int.le_trans (H_rise hu hs (by omega) (Int.le_refl _)) h1
theorem spec_top_loop {up top : Int} (hu : 0 ≤ up ∧ up ≤ 200000) (n : Nat) : ∀ (k : Nat) (t : Int), t = n → t ≤ lastT up → HH up t = top → n < k →
  ∃ r, spec_l04Top.l0 k up t top = some (r, top) ∧ 0 ≤ r ∧ r ≤ lastT up ∧ HH up r = top ∧ ∀ s, 0 ≤ s → s < r → HH up s < top := by
 have hl := last_le hu
 induction n with
 | zero =>
  intro k t ht h1 h2 hk
  obtain ⟨k, rfl⟩ : ∃ m, k = m + 1 := ⟨k - 1, by omega⟩
  refine ⟨t, ?_, by omega, h1, h2, fun s h3 h4 => by omega⟩
  simp only [spec_l04Top.l0]
  rw [if_neg (by omega), H_spec hu (by omega)]
  simp only [Option.bind_some]
  rw [if_neg (by omega)]
 | succ n ih =>
  intro k t ht h1 h2 hk
  obtain ⟨k, rfl⟩ : ∃ m, k = m + 1 := ⟨k - 1, by omega⟩
  simp only [spec_l04Top.l0]
  rw [if_pos (by omega), w64 (by omega), H_spec hu (by omega), H_spec hu (by omega)]
  simp only [Option.bind_some]
  by_cases e : HH up (t - 1) = top
  ·rw [if_pos e]
   exact ih k (t - 1) (by omega) (by omega) e (by omega)
  ·rw [if_neg e, if_neg (by omega)]
   refine ⟨t, rfl, by omega, h1, h2, fun s h3 h4 => ?_⟩
   have h5 := H_rise hu h3 (show s ≤ t - 1 by omega) (by omega)
   have h6 := H_rise hu (show 0 ≤ t - 1 by omega) (show t - 1 ≤ t by omega) h1
   omega
theorem spec_top {up : Int} (hu : 0 ≤ up ∧ up ≤ 200000) (k : Nat) (hk : 30000 ≤ k) : ∃ t top, spec_l04Top.f k up = some (t, top) ∧ IsTop up t top := by
 have hl := last_le hu
 unfold spec_l04Top.f
 rw [w64 (n := 1000 * up) (by omega), tdiv_nn (by omega)]
 show ∃ t top, ((spec_l04Height.f up (wrap64 (lastT up))).bind fun t174 => ((spec_l04Height.f up (wrap64 (wrap64 (lastT up) + 1))).bind fun t175 => spec_l04Top.l0 k up (wrap64 (lastT up)) (mx t174 t175))) = some (t, top) ∧ _
 rw [w64 (n := lastT up) (by omega), w64 (n := lastT up + 1) (by omega), H_spec hu (by omega), H_spec hu (by omega)]
 simp only [Option.bind_some]
 by_cases c : HH up (lastT up) < HH up (lastT up + 1)
 ·have em : mx (HH up (lastT up)) (HH up (lastT up + 1)) = HH up (lastT up + 1) := by unfold mx; rw [if_pos c]
  rw [em]
  obtain ⟨k, rfl⟩ : ∃ m, k = m + 1 := ⟨k - 1, by omega⟩
  refine ⟨lastT up + 1, HH up (lastT up + 1), ?_, by omega, by omega, rfl, fun s h1 h2 => ?_, top_all hu (by omega) (Int.le_refl _)⟩
  ·simp only [spec_l04Top.l0]
   by_cases h0 : lastT up > 0
   ·have h6 := H_rise hu (show 0 ≤ lastT up - 1 by omega) (show lastT up - 1 ≤ lastT up by omega) (Int.le_refl _)
    rw [if_pos h0, w64 (n := lastT up - 1) (by omega), H_spec hu (by omega), H_spec hu (by omega)]
    simp only [Option.bind_some]
    rw [if_neg (by omega), if_pos c, w64 (by omega)]
   ·rw [if_neg h0, H_spec hu (by omega)]
    simp only [Option.bind_some]
    rw [if_pos c, w64 (by omega)]
  ·exact Int.lt_of_le_of_lt (H_rise hu h1 (by omega) (Int.le_refl _)) c
 ·have em : mx (HH up (lastT up)) (HH up (lastT up + 1)) = HH up (lastT up) := by unfold mx; rw [if_neg c]
  rw [em]
  obtain ⟨r, hr, h1, h2, h3, h4⟩ := spec_top_loop (top := HH up (lastT up)) hu (lastT up).toNat k (lastT up) (by omega) (Int.le_refl _) rfl (by omega)
  exact ⟨r, _, hr, h1, by omega, h3, h4, top_all hu (Int.le_refl _) (by omega)⟩
theorem impl_top_loop {up top : Int} (hu : 0 ≤ up ∧ up ≤ 200000) (n : Nat) : ∀ (k : Nat) (lo hi : Int), hi - lo ≤ n → 0 ≤ lo → lo ≤ hi → hi ≤ lastT up → top ≤ HH up hi → (∀ s, 0 ≤ s → s < lo → HH up s < top) → n < k →
  ∃ r, impl_topOf.l0 k up top lo hi = some (r, top) ∧ 0 ≤ r ∧ r ≤ lastT up ∧ top ≤ HH up r ∧ ∀ s, 0 ≤ s → s < r → HH up s < top := by
 have hl := last_le hu
 induction n with
 | zero =>
  intro k lo hi h1 h2 h3 h4 h5 h6 hk
  obtain ⟨k, rfl⟩ : ∃ m, k = m + 1 := ⟨k - 1, by omega⟩
  have e : lo = hi := by omega
  subst e
  refine ⟨lo, ?_, h2, h4, h5, h6⟩
  simp only [impl_topOf.l0]
  rw [if_neg (by omega)]
 | succ n ih =>
  intro k lo hi h1 h2 h3 h4 h5 h6 hk
  obtain ⟨k, rfl⟩ : ∃ m, k = m + 1 := ⟨k - 1, by omega⟩
  simp only [impl_topOf.l0]
  by_cases c : lo < hi
  ·rw [if_pos c, w64 (n := lo + hi) (by omega), tdiv_nn (by omega), w64 (n := (lo + hi) / 2) (by omega), H_impl hu (by omega)]
   simp only [Option.bind_some]
   by_cases d : HH up ((lo + hi) / 2) ≥ top
   ·rw [if_pos d]
    exact ih k lo ((lo + hi) / 2) (by omega) h2 (by omega) (by omega) d h6 (by omega)
   ·rw [if_neg d, w64 (by omega)]
    refine ih k ((lo + hi) / 2 + 1) hi (by omega) (by omega) (by omega) h4 h5 (fun s h7 h8 => ?_) (by omega)
    have := H_rise hu h7 (show s ≤ (lo + hi) / 2 by omega) (by omega)
    omega
  ·rw [if_neg c]
   have e : lo = hi := by omega
   subst e
   exact ⟨lo, rfl, h2, h4, h5, h6⟩
theorem impl_top {up : Int} (hu : 0 ≤ up ∧ up ≤ 200000) (k : Nat) (hk : 30000 ≤ k) : ∃ t top, impl_topOf.f k up = some (t, top) ∧ IsTop up t top := by
 have hl := last_le hu
 unfold impl_topOf.f
 rw [w64 (n := 1000 * up) (by omega), tdiv_nn (by omega)]
 show ∃ t top, ((impl_heightAt.f up (wrap64 (lastT up))).bind fun t202 => ((impl_heightAt.f up (wrap64 (wrap64 (lastT up) + 1))).bind fun t203 => (if t203 > t202 then (some (wrap64 (wrap64 (lastT up) + 1), t203)) else (impl_topOf.l0 k up t202 0 (wrap64 (lastT up)))))) = some (t, top) ∧ _
 rw [w64 (n := lastT up) (by omega), w64 (n := lastT up + 1) (by omega), H_impl hu (by omega), H_impl hu (by omega)]
 simp only [Option.bind_some]
 by_cases c : HH up (lastT up) < HH up (lastT up + 1)
 ·rw [if_pos c]
  exact ⟨_, _, rfl, by omega, by omega, rfl, fun s h1 h2 => Int.lt_of_le_of_lt (H_rise hu h1 (by omega) (Int.le_refl _)) c, top_all hu (by omega) (Int.le_refl _)⟩
 ·rw [if_neg c]
  obtain ⟨r, hr, h1, h2, h3, h4⟩ := impl_top_loop (top := HH up (lastT up)) hu (lastT up).toNat k 0 (lastT up) (by omega) (by omega) (by omega) (Int.le_refl _) (Int.le_refl _) (fun s h1 h2 => by omega) (by omega)
  have h5 := H_rise hu h1 h2 (Int.le_refl _)
  exact ⟨r, _, hr, h1, by omega, by omega, h4, top_all hu (Int.le_refl _) (by omega)⟩
theorem top_both {up : Int} (hu : 0 ≤ up ∧ up ≤ 200000) : ∃ t top, IsTop up t top ∧ (∀ k, 30000 ≤ k → spec_l04Top.f k up = some (t, top)) ∧ ∀ k, 30000 ≤ k → impl_topOf.f k up = some (t, top) := by
 obtain ⟨t, top, _, h⟩ := spec_top hu 30000 (Nat.le_refl _)
 refine ⟨t, top, h, fun k hk => ?_, fun k hk => ?_⟩
 ·obtain ⟨t', top', e, h'⟩ := spec_top hu k hk
  obtain ⟨rfl, rfl⟩ := h.unique h'
  exact e
 ·obtain ⟨t', top', e, h'⟩ := impl_top hu k hk
  obtain ⟨rfl, rfl⟩ := h.unique h'
  exact e
theorem top_range {up t top : Int} (hu : 0 ≤ up ∧ up ≤ 200000) (h : IsTop up t top) : 0 ≤ t ∧ t ≤ 20388 ∧ 0 ≤ top ∧ top ≤ 12000200 := by
 have hl := last_le hu
 obtain ⟨a, b, c, d, e⟩ := h
 have h0 := e 0 (Int.le_refl _) (by omega)
 have h1 : HH up 0 = 0 := by unfold HH gg; rw [Int.mul_zero, Int.mul_zero]; rfl
 have h2 := gg_small hu (show 0 ≤ t ∧ t ≤ 60001 by omega)
 have h3 : HH up t ≤ 24000400000000 / 2000000 := Int.ediv_le_ediv (by omega) (by unfold gg; omega)
 omega
def topPair (up : Int) : Int × Int := (impl_topOf.f 30000 up).getD (0, 0)
def tTop (up : Int) : Int := (topPair up).1
def vTop (up : Int) : Int := (topPair up).2
theorem top_is {up : Int} (hu : 0 ≤ up ∧ up ≤ 200000) : IsTop up (tTop up) (vTop up) ∧ (∀ k, 30000 ≤ k → spec_l04Top.f k up = some (tTop up, vTop up)) ∧ (∀ k, 30000 ≤ k → impl_topOf.f k up = some (tTop up, vTop up)) := by
 obtain ⟨t, top, h, hs, hi⟩ := top_both hu
 have e : topPair up = (t, top) := by unfold topPair; rw [hi 30000 (Nat.le_refl _)]; rfl
 unfold tTop vTop
 rw [e]
 exact ⟨h, hs, hi⟩
theorem tTop_range {up : Int} (hu : 0 ≤ up ∧ up ≤ 200000) : 0 ≤ tTop up ∧ tTop up ≤ 20388 ∧ 0 ≤ vTop up ∧ vTop up ≤ 12000200 := top_range hu (top_is hu).1
end Go.Proofs.Ytbleliajcbdijaa.F
namespace Go.Proofs.Ytbleliajcbdijaa.F
open Go.RowKit Go.Proofs.YtbleliajcbdijaaW.PrintWords Go.Proofs.YtbleliajcbdijaaW.PrintLast Go.Proofs.YtbleliajcbdijaaW.PrintMore
set_option linter.unusedVariables false
set_option linter.unusedSimpArgs false
def isShot (u s f r : Int) : Bool := inB u 0 200000 && (inB s (-50000) 50000 && (inB f 100 10000 && inB r 0 200000))
def areWinds (lo hi : Int) : Bool := inB lo (-50000) 50000 && inB hi lo 50000
theorem spec_shot (u s f r : Int) : spec_IsShot.f u s f r = some (isShot u s f r) := by
 unfold spec_IsShot.f spec_l04Code.f isShot
 simp only [In_eq, Option.bind_some]
 cases inB u 0 200000 <;> cases inB s (-50000) 50000 <;> cases inB f 100 10000 <;> cases inB r 0 200000 <;> rfl
theorem impl_shot (u s f r : Int) : impl_IsShot.f u s f r = some (isShot u s f r) := by
 unfold impl_IsShot.f impl_isUp.f impl_isSide.f isShot
 simp only [Wi_eq, Option.bind_some]
 cases inB u 0 200000 <;> cases inB s (-50000) 50000 <;> cases inB f 100 10000 <;> cases inB r 0 200000 <;> rfl
theorem spec_winds (lo hi : Int) : spec_l06Winds.f lo hi = some (areWinds lo hi) := by
 unfold spec_l06Winds.f areWinds
 simp only [In_eq, Option.bind_some]
 cases inB lo (-50000) 50000 <;> cases inB hi lo 50000 <;> rfl
theorem impl_winds (lo hi : Int) : impl_areWinds.f lo hi = some (areWinds lo hi) := by
 unfold impl_areWinds.f impl_isSide.f areWinds
 simp only [Wi_eq, Option.bind_some]
 cases h : inB lo (-50000) 50000 with
 | false => rfl
 | true =>
  rw [inB_true] at h
  rw [if_pos rfl, Bool.true_and]
  cases h2 : inB hi (-50000) 50000 with
  | false =>
   rw [inB_false] at h2
   rw [inB_false.2 (by omega)]; rfl
  | true =>
   rw [inB_true] at h2
   rw [if_pos rfl]
   congr 1
   rw [Bool.eq_iff_iff, inB_true, decide_eq_true_iff]
   omega
def drift (s wnd t : Int) : Int := (s + wnd) * t / 1000
theorem drift_small {s wnd t : Int} (hs : -50000 ≤ s ∧ s ≤ 50000) (hw : -50000 ≤ wnd ∧ wnd ≤ 50000) (ht : 0 ≤ t ∧ t ≤ 60000) : -6000000000 ≤ (s + wnd) * t ∧ (s + wnd) * t ≤ 6000000000 := by
 have := prod_abs (a := s + wnd) (b := t) (A := 100000) (B := 60000) (by omega) ht
 omega
theorem spec_drift {s wnd t : Int} (hs : -50000 ≤ s ∧ s ≤ 50000) (hw : -50000 ≤ wnd ∧ wnd ≤ 50000) (ht : 0 ≤ t ∧ t ≤ 60000) : spec_l04Drift.f s wnd t = some (drift s wnd t) := by
 have h := drift_small hs hw ht
 unfold spec_l04Drift.f
 rw [w64 (n := s + wnd) (by omega), w64 (by omega), SFl_eq (by omega) (by omega)]
 rfl
theorem impl_drift {s wnd t : Int} (hs : -50000 ≤ s ∧ s ≤ 50000) (hw : -50000 ≤ wnd ∧ wnd ≤ 50000) (ht : 0 ≤ t ∧ t ≤ 60000) : impl_driftAt.f s wnd t = some (drift s wnd t) := by
 have h := drift_small hs hw ht
 unfold impl_driftAt.f
 rw [w64 (n := s + wnd) (by omega), w64 (by omega), Fl_eq (by omega) (by omega)]
 rfl
theorem isShot_true {u s f r : Int} (h : isShot u s f r = true) : (0 ≤ u ∧ u ≤ 200000) ∧ (-50000 ≤ s ∧ s ≤ 50000) ∧ (100 ≤ f ∧ f ≤ 10000) ∧ (0 ≤ r ∧ r ≤ 200000) := by
 unfold isShot at h
 simpa only [Bool.and_eq_true, inB_true] using h
theorem areWinds_true {lo hi : Int} (h : areWinds lo hi = true) : (-50000 ≤ lo ∧ lo ≤ 50000) ∧ lo ≤ hi ∧ hi ≤ 50000 := by
 unfold areWinds at h
 simpa only [Bool.and_eq_true, inB_true] using h
end Go.Proofs.Ytbleliajcbdijaa.F
namespace Go.Proofs.Ytbleliajcbdijaa.F
open Go.RowKit Go.Proofs.YtbleliajcbdijaaW.PrintWords Go.Proofs.YtbleliajcbdijaaW.PrintLast Go.Proofs.YtbleliajcbdijaaW.PrintMore
set_option linter.unusedVariables false
set_option linter.unusedSimpArgs false
end Go.Proofs.Ytbleliajcbdijaa.F
namespace Go.Proofs.Ytbleliajcbdijaa.F
open Go.RowKit Go.Proofs.YtbleliajcbdijaaW.PrintWords Go.Proofs.YtbleliajcbdijaaW.PrintLast Go.Proofs.YtbleliajcbdijaaW.PrintMore
set_option linter.unusedVariables false
set_option linter.unusedSimpArgs false
theorem ceil_eq {a b : Int} (hb : 0 < b) : -((-a) / b) = (a + b - 1) / b := by
 have h1 := Int.emod_nonneg (-a) (show b ≠ 0 by omega)
 have h2 := Int.emod_lt_of_pos (-a) hb
 have h3 := Int.mul_ediv_add_emod (-a) b
 have h4 : (a + b - 1) / b = -((-a) / b) ∧ (a + b - 1) % b = b - 1 - (-a) % b := (Int.ediv_emod_unique hb).2 (by
  rw [Int.mul_neg]
  refine ⟨by omega, by omega, by omega⟩)
 exact h4.1.symm
theorem Ce_eq {a b : Int} (hb : 0 < b) (ha : -4611686018427387904 ≤ a ∧ a ≤ 4611686018427387904) : spec_l01Ceil.f a b = some (-((-a) / b)) := by
 have hs := ediv_small (a := -a) hb (by omega)
 unfold spec_l01Ceil.f
 rw [w64 (n := -a) (by omega), SFl_eq hb (by omega)]
 simp only [Option.bind_some]
 rw [w64 (by omega)]
theorem Cd_eq {a b : Int} (hb : 0 < b ∧ b ≤ 1000000) (ha : 0 ≤ a ∧ a ≤ 4611686018427387904) : impl_ceilDiv.f a b = some ((a + b - 1) / b) := by
 have h1 := Int.ediv_le_self b (show 0 ≤ a + b - 1 by omega)
 have h2 := Int.ediv_nonneg (show 0 ≤ a + b - 1 by omega) (show 0 ≤ b by omega)
 unfold impl_ceilDiv.f
 rw [if_neg (by omega), w64 (n := a + b) (by omega), w64 (n := a + b - 1) (by omega), Int.tdiv_eq_ediv_of_nonneg (by omega), w64 (by omega)]
def dTime (u f : Int) : Int := (1000 * vTop u + f - 1) / f
theorem dTime_range {u f : Int} (hu : 0 ≤ u ∧ u ≤ 200000) (hf : 100 ≤ f ∧ f ≤ 10000) : 0 ≤ dTime u f ∧ dTime u f ≤ 120002100 := by
 have ht := tTop_range hu
 unfold dTime
 refine ⟨Int.ediv_nonneg (by omega) (by omega), ?_⟩
 have h1 : (1000 * vTop u + f - 1) / f ≤ (1000 * vTop u + f - 1) / 100 := by
  have a : 100 * ((1000 * vTop u + f - 1) / f) ≤ f * ((1000 * vTop u + f - 1) / f) := Int.mul_le_mul_of_nonneg_right hf.1 (Int.ediv_nonneg (by omega) (by omega))
  have b := Int.mul_ediv_self_le (x := 1000 * vTop u + f - 1) (k := f) (by omega)
  omega
 omega
theorem time_both {u s f r : Int} (h : isShot u s f r = true) : (∀ k, 30000 ≤ k → spec_l06Time.f k u s f r = some (dTime u f)) ∧ (∀ k, 30000 ≤ k → impl_debrisTime.f k u s f r = some (dTime u f)) := by
 obtain ⟨h1, h2, h3, h4⟩ := isShot_true h
 have ht := tTop_range h1
 have hi := top_is h1
 refine ⟨fun k hk => ?_, fun k hk => ?_⟩
 ·unfold spec_l06Time.f
  rw [hi.2.1 k hk]
  simp only [Option.bind_some]
  rw [w64 (n := 1000 * vTop u) (by omega), Ce_eq (by omega) (by omega), ceil_eq (by omega)]; rfl
 ·unfold impl_debrisTime.f
  rw [hi.2.2 k hk]
  simp only [Option.bind_some]
  rw [w64 (n := 1000 * vTop u) (by omega), Cd_eq (by omega) (by omega)]; rfl
def dbLo (u s f r lo : Int) : Int := drift s lo (tTop u) + lo * dTime u f / 1000 - r
def dbHi (u s f r hi : Int) : Int := drift s hi (tTop u) - (-hi) * dTime u f / 1000 + r
theorem burst_is {u s f r lo hi : Int} (h : isShot u s f r = true) (hw : areWinds lo hi = true) : (∀ k, 30000 ≤ k → spec_l06Burst.f k u s f r lo hi = some (drift s lo (tTop u), drift s hi (tTop u))) ∧ ∀ k, 30000 ≤ k → impl_burstRange.f k u s f r lo hi = some (drift s lo (tTop u), drift s hi (tTop u)) := by
 obtain ⟨h1, h2, h3, h4⟩ := isShot_true h
 obtain ⟨w1, w2, w3⟩ := areWinds_true hw
 obtain ⟨_, hs, hi'⟩ := top_is h1
 have hr := tTop_range h1
 refine ⟨fun k hk => ?_, fun k hk => ?_⟩
 ·unfold spec_l06Burst.f
  rw [hs k hk]
  simp only [Option.bind_some]
  rw [spec_drift h2 w1 (by omega), spec_drift h2 (by omega) (by omega)]; rfl
 ·unfold impl_burstRange.f
  rw [hi' k hk]
  simp only [Option.bind_some]
  rw [impl_drift h2 w1 (by omega), impl_drift h2 (by omega) (by omega)]; rfl
theorem drift_range {s wnd t : Int} (hs : -50000 ≤ s ∧ s ≤ 50000) (hw : -50000 ≤ wnd ∧ wnd ≤ 50000) (ht : 0 ≤ t ∧ t ≤ 60000) : -6000000 ≤ drift s wnd t ∧ drift s wnd t ≤ 6000000 := by
 have h := drift_small hs hw ht
 unfold drift
 omega
theorem debris_small {u s f r lo : Int} (h : isShot u s f r = true) (hl : -50000 ≤ lo ∧ lo ≤ 50000) : (-6000105000000 ≤ lo * dTime u f ∧ lo * dTime u f ≤ 6000105000000) ∧ (-6000000 ≤ drift s lo (tTop u) ∧ drift s lo (tTop u) ≤ 6000000) := by
 obtain ⟨h1, h2, h3, h4⟩ := isShot_true h
 have hd := dTime_range h1 h3
 have ht := tTop_range h1
 have := prod_abs (a := lo) (b := dTime u f) (A := 50000) (B := 120002100) hl hd
 exact ⟨by omega, drift_range h2 hl (by omega)⟩
theorem debris_range {u s f r lo hi : Int} (h : isShot u s f r = true) (hw : areWinds lo hi = true) : (-7000000000 ≤ dbLo u s f r lo ∧ dbLo u s f r lo ≤ 7000000000) ∧ (-7000000000 ≤ dbHi u s f r hi ∧ dbHi u s f r hi ≤ 7000000000) := by
 obtain ⟨h1, h2, h3, h4⟩ := isShot_true h
 obtain ⟨w1, w2, w3⟩ := areWinds_true hw
 have a := debris_small h w1
 have b := debris_small h (lo := hi) (by omega)
 unfold dbLo dbHi
 rw [Int.neg_mul]
 omega
theorem debris_is {u s f r lo hi : Int} (h : isShot u s f r = true) (hw : areWinds lo hi = true) : (∀ k, 30000 ≤ k → spec_l06Debris.f k u s f r lo hi = some (dbLo u s f r lo, dbHi u s f r hi)) ∧ ∀ k, 30000 ≤ k → impl_debrisRange.f k u s f r lo hi = some (dbLo u s f r lo, dbHi u s f r hi) := by
 obtain ⟨h1, h2, h3, h4⟩ := isShot_true h
 obtain ⟨w1, w2, w3⟩ := areWinds_true hw
 have a := debris_small h w1
 have b := debris_small h (lo := hi) (by omega)
 obtain ⟨bs, bi⟩ := burst_is h hw
 obtain ⟨ts, ti⟩ := time_both h
 have en : (-hi) * dTime u f = -(hi * dTime u f) := Int.neg_mul _ _
 refine ⟨fun k hk => ?_, fun k hk => ?_⟩
 ·unfold spec_l06Debris.f
  rw [bs k hk, ts k hk]
  simp only [Option.bind_some]
  rw [w64 (n := lo * dTime u f) (by omega), w64 (n := hi * dTime u f) (by omega), SFl_eq (by omega) (by omega), Ce_eq (by omega) (by omega)]
  simp only [Option.bind_some]
  rw [w64 (n := drift s lo (tTop u) + _) (by omega), w64 (n := drift s lo (tTop u) + _ - r) (by omega), w64 (n := drift s hi (tTop u) + _) (by omega), w64 (by omega)]
  unfold dbLo dbHi
  rw [en]
  congr 2 <;> omega
 ·unfold impl_debrisRange.f
  rw [bi k hk, ti k hk]
  simp only [Option.bind_some]
  rw [w64 (n := lo * dTime u f) (by omega), w64 (n := -hi) (by omega), w64 (n := (-hi) * dTime u f) (by omega), Fl_eq (by omega) (by omega), Fl_eq (by omega) (by omega)]
  simp only [Option.bind_some]
  rw [w64 (n := drift s lo (tTop u) + _) (by omega), w64 (n := drift s lo (tTop u) + _ - r) (by omega), w64 (n := drift s hi (tTop u) - _) (by omega), w64 (by omega)]
  rfl
end Go.Proofs.Ytbleliajcbdijaa.F
namespace Go.Proofs.Ytbleliajcbdijaa.F
open Go.RowKit Go.Proofs.YtbleliajcbdijaaW.PrintWords Go.Proofs.YtbleliajcbdijaaW.PrintLast Go.Proofs.YtbleliajcbdijaaW.PrintMore
set_option linter.unusedVariables false
set_option linter.unusedSimpArgs false
theorem HH_end {up : Int} (hu : 0 ≤ up ∧ up ≤ 200000) : HH up 60000 ≤ 0 := by
 unfold HH gg
 omega
def IsFl (up t : Int) : Prop := 1 ≤ t ∧ t ≤ 60000 ∧ HH up t ≤ 0 ∧ ∀ s, 1 ≤ s → s < t → 0 < HH up s
theorem IsFl.unique {up t t' : Int} (h : IsFl up t) (h' : IsFl up t') : t' = t := by
 obtain ⟨a, b, c, d⟩ := h
 obtain ⟨a', b', c', d'⟩ := h'
 rcases Int.lt_trichotomy t t' with x | x | x
 ·have := d' t a x; omega
 ·exact x.symm
 ·have := d t' a' x; omega
theorem pos_rise {up : Int} (hu : 0 ≤ up ∧ up ≤ 200000) (h1 : 0 < HH up 1) : ∀ s, 1 ≤ s → s ≤ lastT up → 0 < HH up s := fun s h2 h3 => by
 have := H_rise hu (show (0 : Int) ≤ 1 by omega) h2 h3
 omega
theorem impl_flight_loop {up : Int} (hu : 0 ≤ up ∧ up ≤ 200000) (n : Nat) : ∀ (k : Nat) (lo hi : Int), hi - lo ≤ n → lastT up + 1 ≤ lo → lo ≤ hi → hi ≤ 60000 → HH up hi ≤ 0 → (∀ s, 1 ≤ s → s < lo → 0 < HH up s) → n < k →
  ∃ r, impl_flightOf.l0 k up lo hi = some r ∧ IsFl up r := by
 have hl := last_le hu
 induction n with
 | zero =>
  intro k lo hi h1 h2 h3 h4 h5 h6 hk
  obtain ⟨k, rfl⟩ : ∃ m, k = m + 1 := ⟨k - 1, by omega⟩
  have e : lo = hi := by omega
  subst e
  refine ⟨lo, ?_, by omega, h4, h5, h6⟩
  simp only [impl_flightOf.l0]
  rw [if_neg (by omega)]
 | succ n ih =>
  intro k lo hi h1 h2 h3 h4 h5 h6 hk
  obtain ⟨k, rfl⟩ : ∃ m, k = m + 1 := ⟨k - 1, by omega⟩
  simp only [impl_flightOf.l0]
  by_cases c : lo < hi
  ·rw [if_pos c, w64 (n := lo + hi) (by omega), tdiv_nn (by omega), w64 (n := (lo + hi) / 2) (by omega), H_impl hu (by omega)]
   simp only [Option.bind_some]
   by_cases d : HH up ((lo + hi) / 2) ≤ 0
   ·rw [if_pos d]
    exact ih k lo ((lo + hi) / 2) (by omega) h2 (by omega) (by omega) d h6 (by omega)
   ·rw [if_neg d, w64 (by omega)]
    refine ih k ((lo + hi) / 2 + 1) hi (by omega) (by omega) (by omega) h4 h5 (fun s h7 h8 => ?_) (by omega)
    by_cases e : s < lo
    ·exact h6 s h7 e
    ·have := H_fall hu (show lastT up + 1 ≤ s by omega) (show s ≤ (lo + hi) / 2 by omega)
     omega
  ·rw [if_neg c]
   have e : lo = hi := by omega
   subst e
   exact ⟨lo, rfl, by omega, h4, h5, h6⟩
theorem impl_flight {up : Int} (hu : 0 ≤ up ∧ up ≤ 200000) (k : Nat) (hk : 150000 ≤ k) : ∃ t, impl_flightOf.f k up = some t ∧ IsFl up t := by
 have hl := last_le hu
 unfold impl_flightOf.f
 rw [H_impl hu (by omega)]
 simp only [Option.bind_some]
 by_cases c : HH up 1 ≤ 0
 ·rw [if_pos c]
  exact ⟨1, rfl, by omega, by omega, c, fun s h1 h2 => by omega⟩
 ·rw [if_neg c, w64 (n := 1000 * up) (by omega), tdiv_nn (by omega)]
  show ∃ t, impl_flightOf.l0 k up (wrap64 (wrap64 (lastT up) + 1)) 60000 = some t ∧ _
  rw [w64 (n := lastT up) (by omega), w64 (n := lastT up + 1) (by omega)]
  exact impl_flight_loop hu 60000 k (lastT up + 1) 60000 (by omega) (by omega) (by omega) (by omega) (HH_end hu) (fun s h1 h2 => pos_rise hu (by omega) s h1 (by omega)) (by omega)
theorem spec_flight0 {up : Int} (hu : 0 ≤ up ∧ up ≤ 200000) (n : Nat) : ∀ (k : Nat) (lo hi : Int), hi - lo ≤ n → (0 ≤ lo ∧ lo ≤ hi) → 1 ≤ hi → hi ≤ 60000 → HH up hi ≤ 0 → n < k →
  ∃ (k' : Nat) (hi' : Int), k ≤ k' + n + 1 ∧ spec_l04Flight.l0 k up lo hi = spec_l04Flight.l1 k' up hi' ∧ 1 ≤ hi' ∧ hi' ≤ 60000 ∧ HH up hi' ≤ 0 := by
 induction n with
 | zero =>
  intro k lo hi h1 h2 h3 h4 h5 hk
  obtain ⟨k, rfl⟩ : ∃ m, k = m + 1 := ⟨k - 1, by omega⟩
  refine ⟨k, hi, by omega, ?_, h3, h4, h5⟩
  simp only [spec_l04Flight.l0]
  rw [w64 (n := lo + 1) (by omega), if_neg (by omega)]
 | succ n ih =>
  intro k lo hi h1 h2 h3 h4 h5 hk
  obtain ⟨k, rfl⟩ : ∃ m, k = m + 1 := ⟨k - 1, by omega⟩
  simp only [spec_l04Flight.l0]
  rw [w64 (n := lo + 1) (by omega)]
  by_cases c : lo + 1 < hi
  ·rw [if_pos c, w64 (n := lo + hi) (by omega), tdiv_nn (by omega), w64 (n := (lo + hi) / 2) (by omega), H_spec hu (by omega)]
   simp only [Option.bind_some]
   by_cases d : HH up ((lo + hi) / 2) ≤ 0
   ·rw [if_pos d]
    obtain ⟨k', hi', e1, e2⟩ := ih k lo ((lo + hi) / 2) (by omega) (by omega) (by omega) (by omega) d (by omega)
    exact ⟨k', hi', by omega, e2⟩
   ·rw [if_neg d]
    obtain ⟨k', hi', e1, e2⟩ := ih k ((lo + hi) / 2) hi (by omega) (by omega) h3 h4 h5 (by omega)
    exact ⟨k', hi', by omega, e2⟩
  ·rw [if_neg c]
   exact ⟨k, hi, by omega, rfl, h3, h4, h5⟩
theorem spec_flight1 {up : Int} (hu : 0 ≤ up ∧ up ≤ 200000) (n : Nat) : ∀ (k : Nat) (hi : Int), hi = n + 1 → hi ≤ 60000 → HH up hi ≤ 0 → n + 1 < k →
  ∃ (k' : Nat) (hi' : Int), k ≤ k' + n + 2 ∧ spec_l04Flight.l1 k up hi = spec_l04Flight.l2 k' up hi' 1 ∧ 1 ≤ hi' ∧ hi' ≤ 60000 ∧ HH up hi' ≤ 0 ∧ (hi' = 1 ∨ 0 < HH up (hi' - 1)) := by
 induction n with
 | zero =>
  intro k hi h1 h2 h3 hk
  obtain ⟨k, rfl⟩ : ∃ m, k = m + 2 := ⟨k - 2, by omega⟩
  refine ⟨k, hi, by omega, ?_, by omega, h2, h3, .inl (by omega)⟩
  simp only [spec_l04Flight.l1, spec_l04Flight.j2]
  rw [if_neg (by omega)]
 | succ n ih =>
  intro k hi h1 h2 h3 hk
  obtain ⟨k, rfl⟩ : ∃ m, k = m + 2 := ⟨k - 2, by omega⟩
  by_cases d : HH up (hi - 1) ≤ 0
  ·obtain ⟨k', hi', e1, e2, e3⟩ := ih (k + 1) (hi - 1) (by omega) (by omega) d (by omega)
   refine ⟨k', hi', by omega, ?_, e3⟩
   rw [← e2]
   simp only [spec_l04Flight.l1, spec_l04Flight.j2]
   rw [if_pos (by omega), w64 (n := hi - 1) (by omega), H_spec hu (by omega)]
   simp only [Option.bind_some]
   rw [if_pos d]
  ·refine ⟨k, hi, by omega, ?_, by omega, h2, h3, .inr (by omega)⟩
   simp only [spec_l04Flight.l1, spec_l04Flight.j2]
   rw [if_pos (by omega), w64 (n := hi - 1) (by omega), H_spec hu (by omega)]
   simp only [Option.bind_some]
   rw [if_neg d]
theorem spec_flight {up : Int} (hu : 0 ≤ up ∧ up ≤ 200000) (k : Nat) (hk : 150000 ≤ k) : ∃ t, spec_l04Flight.f k up = some t ∧ IsFl up t := by
 have hl := last_le hu
 have ht := tTop_range hu
 unfold spec_l04Flight.f
 rw [(top_is hu).2.1 k (by omega)]
 simp only [Option.bind_some]
 obtain ⟨k1, hi, e1, e2, e3, e4, e5⟩ := spec_flight0 hu 60000 k (tTop up) 60000 (by omega) (by omega) (by omega) (by omega) (HH_end hu) (by omega)
 obtain ⟨k2, h, f1, f2, f3, f4, f5, f6⟩ := spec_flight1 hu (hi - 1).toNat k1 hi (by omega) e4 e5 (by omega)
 rw [e2, f2]
 obtain ⟨k3, rfl⟩ : ∃ m, k2 = m + 6 := ⟨k2 - 6, by omega⟩
 clear hk e1 e2 f1 f2 e3 e4 e5
 by_cases c : HH up 1 ≤ 0
 ·refine ⟨1, ?_, by omega, by omega, c, fun s h1 h2 => by omega⟩
  simp only [spec_l04Flight.l2, spec_l04Flight.j4]
  by_cases d : 1 < h
  ·rw [if_pos d, if_pos (by decide), H_spec hu (by omega)]
   simp only [Option.bind_some]
   rw [if_pos c]
  ·rw [if_neg d, if_neg (by decide)]
   congr 1; omega
 ·have hp : ∀ s, 1 ≤ s → s < h → 0 < HH up s := fun s h1 h2 => by
   by_cases e : s ≤ lastT up
   ·exact pos_rise hu (by omega) s h1 e
   ·have := H_fall hu (show lastT up + 1 ≤ s by omega) (show s ≤ h - 1 by omega)
    omega
  refine ⟨h, ?_, f3, f4, f5, hp⟩
  have w2 : wrap64 (1 + 1) = 2 := w64 (by omega)
  have w3 : wrap64 (2 + 1) = 3 := w64 (by omega)
  simp only [spec_l04Flight.l2, spec_l04Flight.j4, w2, w3]
  by_cases d : 1 < h
  ·rw [if_pos d, if_pos (by decide), H_spec hu (by omega)]
   simp only [Option.bind_some]
   rw [if_neg c]
   by_cases d2 : 2 < h
   ·have := hp 2 (by omega) d2
    rw [if_pos d2, if_pos (by decide), H_spec hu (by omega)]
    simp only [Option.bind_some]
    rw [if_neg (by omega)]
    by_cases d3 : 3 < h
    ·rw [if_pos d3, if_neg (by decide)]
    ·rw [if_neg d3, if_neg (by decide)]
   ·rw [if_neg d2, if_neg (by decide)]
  ·rw [if_neg d, if_neg (by decide)]
def flT (up : Int) : Int := (impl_flightOf.f 150000 up).getD 0
theorem flight_is {up : Int} (hu : 0 ≤ up ∧ up ≤ 200000) : IsFl up (flT up) ∧ (∀ k, 150000 ≤ k → spec_l04Flight.f k up = some (flT up)) ∧ ∀ k, 150000 ≤ k → impl_flightOf.f k up = some (flT up) := by
 obtain ⟨t, e, h⟩ := impl_flight hu 150000 (Nat.le_refl _)
 have et : flT up = t := by unfold flT; rw [e]; rfl
 rw [et]
 refine ⟨h, fun k hk => ?_, fun k hk => ?_⟩
 ·obtain ⟨t', e', h'⟩ := spec_flight hu k hk
  rw [h.unique h'] at e'
  exact e'
 ·obtain ⟨t', e', h'⟩ := impl_flight hu k hk
  rw [h.unique h'] at e'
  exact e'
end Go.Proofs.Ytbleliajcbdijaa.F
namespace Go.Proofs.Ytbleliajcbdijaa.F
open Go.RowKit Go.Proofs.YtbleliajcbdijaaW.PrintWords Go.Proofs.YtbleliajcbdijaaW.PrintLast Go.Proofs.YtbleliajcbdijaaW.PrintMore
set_option linter.unusedVariables false
set_option linter.unusedSimpArgs false
theorem mn_is (a b : Int) : mn a b ≤ a ∧ mn a b ≤ b ∧ (mn a b = a ∨ mn a b = b) := by unfold mn; split <;> omega
theorem mx_is (a b : Int) : a ≤ mx a b ∧ b ≤ mx a b ∧ (mx a b = a ∨ mx a b = b) := by unfold mx; split <;> omega
def stLo (u s f r lo : Int) : Int := mn (mn (dbLo u s f r lo) (drift s lo (flT u))) 0
def stHi (u s f r hi : Int) : Int := mx (mx (dbHi u s f r hi) (drift s hi (flT u))) 0
theorem flT_range {up : Int} (hu : 0 ≤ up ∧ up ≤ 200000) : 1 ≤ flT up ∧ flT up ≤ 60000 := ⟨(flight_is hu).1.1, (flight_is hu).1.2.1⟩
theorem strip_is {u s f r lo hi : Int} (h : isShot u s f r = true) (hw : areWinds lo hi = true) : (∀ k, 150000 ≤ k → spec_l06Strip.f k u s f r lo hi = some (stLo u s f r lo, stHi u s f r hi)) ∧ ∀ k, 150000 ≤ k → impl_stripOf.f k u s f r lo hi = some (stLo u s f r lo, stHi u s f r hi) := by
 obtain ⟨h1, h2, h3, h4⟩ := isShot_true h
 obtain ⟨w1, w2, w3⟩ := areWinds_true hw
 obtain ⟨ds, di⟩ := debris_is h hw
 obtain ⟨_, fs, fi⟩ := flight_is h1
 have fr := flT_range h1
 refine ⟨fun k hk => ?_, fun k hk => ?_⟩
 ·unfold spec_l06Strip.f
  rw [ds k (by omega), fs k hk]
  simp only [Option.bind_some]
  rw [spec_drift h2 w1 (by omega), spec_drift h2 (by omega) (by omega)]
  simp only [Option.bind_some]
  have a1 := mn_is 0 (dbLo u s f r lo)
  have a2 := mn_is (mn 0 (dbLo u s f r lo)) (drift s lo (flT u))
  have a3 := mn_is (dbLo u s f r lo) (drift s lo (flT u))
  have a4 := mn_is (mn (dbLo u s f r lo) (drift s lo (flT u))) 0
  have b1 := mx_is 0 (dbHi u s f r hi)
  have b2 := mx_is (mx 0 (dbHi u s f r hi)) (drift s hi (flT u))
  have b3 := mx_is (dbHi u s f r hi) (drift s hi (flT u))
  have b4 := mx_is (mx (dbHi u s f r hi) (drift s hi (flT u))) 0
  unfold stLo stHi
  congr 2 <;> omega
 ·unfold impl_stripOf.f
  rw [di k (by omega), fi k hk]
  simp only [Option.bind_some]
  rw [impl_drift h2 w1 (by omega), impl_drift h2 (by omega) (by omega)]
  rfl
theorem strip_range {u s f r lo hi : Int} (h : isShot u s f r = true) (hw : areWinds lo hi = true) : (-7000000000 ≤ stLo u s f r lo ∧ stLo u s f r lo ≤ 0) ∧ 0 ≤ stHi u s f r hi ∧ stHi u s f r hi ≤ 7000000000 := by
 obtain ⟨h1, h2, h3, h4⟩ := isShot_true h
 obtain ⟨w1, w2, w3⟩ := areWinds_true hw
 have fr := flT_range h1
 have d := debris_range h hw
 have a := drift_range h2 w1 (t := flT u) (by omega)
 have b := drift_range h2 (wnd := hi) (by omega) (t := flT u) (by omega)
 have a3 := mn_is (dbLo u s f r lo) (drift s lo (flT u))
 have a4 := mn_is (mn (dbLo u s f r lo) (drift s lo (flT u))) 0
 have b3 := mx_is (dbHi u s f r hi) (drift s hi (flT u))
 have b4 := mx_is (mx (dbHi u s f r hi) (drift s hi (flT u))) 0
 unfold stLo stHi
 omega
end Go.Proofs.Ytbleliajcbdijaa.F
namespace Go.Proofs.Ytbleliajcbdijaa.F
open Go.RowKit Go.Proofs.YtbleliajcbdijaaW.PrintWords Go.Proofs.YtbleliajcbdijaaW.PrintLast Go.Proofs.YtbleliajcbdijaaW.PrintMore
set_option linter.unusedVariables false
set_option linter.unusedSimpArgs false
def shAt (xs : List S25) (i : Nat) : Bool := isShot (xs.getD i z25).f0 (xs.getD i z25).f1 (xs.getD i z25).f2 (xs.getD i z25).f3
def areShots (xs : List S25) : Bool := allF (shAt xs) 0 xs.length && decide (xs.length ≤ 20)
theorem rd_shot (xs : List S25) (i : Nat) : rd_T25 xs (i : Int) = xs.getD i z25 := by unfold rd_T25; rw [Int.toNat_natCast]
theorem spec_codes_loop (xs : List S25) (hx : xs.length ≤ 4000000) (lo hi : Int) : ∀ d i k, xs.length - i = d → i ≤ xs.length → d < k → spec_l06Code.l0 k xs lo hi (i : Int) = some (if allF (shAt xs) i d = true then (if (xs.length : Int) > 20 then 1 else if areWinds lo hi = true then 0 else 2) else 1) := by
 intro d
 induction d with
 | zero =>
  intro i k hd hi' hk
  obtain ⟨k, rfl⟩ : ∃ m, k = m + 1 := ⟨k - 1, by omega⟩
  simp only [spec_l06Code.l0]
  rw [if_neg (by omega)]
  unfold allF
  rw [if_pos rfl, spec_winds]
  simp only [Option.bind_some]
  by_cases c : (xs.length : Int) > 20
  ·rw [if_pos c, if_pos c]
  ·rw [if_neg c, if_neg c]
   cases areWinds lo hi <;> rfl
 | succ d ih =>
  intro i k hd hi' hk
  obtain ⟨k, rfl⟩ : ∃ m, k = m + 1 := ⟨k - 1, by omega⟩
  simp only [spec_l06Code.l0]
  rw [if_pos (by omega), if_pos (by omega), rd_shot, spec_shot, w64 (by omega)]
  simp only [Option.bind_some]
  unfold allF
  have e : isShot (xs.getD i z25).f0 (xs.getD i z25).f1 (xs.getD i z25).f2 (xs.getD i z25).f3 = shAt xs i := rfl
  rw [e]
  cases shAt xs i with
  | false => rfl
  | true =>
   rw [if_pos rfl, Bool.true_and]
   exact ih (i + 1) k (by omega) (by omega) (by omega)
theorem spec_codes (xs : List S25) (hx : xs.length ≤ 4000000) (lo hi : Int) (k : Nat) (hk : xs.length < k) : spec_l06Code.f k xs lo hi = some (if areShots xs = true then (if areWinds lo hi = true then 0 else 2) else 1) := by
 have h := spec_codes_loop xs hx lo hi xs.length 0 k (by omega) (by omega) hk
 unfold spec_l06Code.f
 rw [show spec_l06Code.l0 k xs lo hi 0 = _ from h]
 unfold areShots
 cases allF (shAt xs) 0 xs.length with
 | false => rfl
 | true =>
  rw [if_pos rfl, Bool.true_and]
  by_cases c : (xs.length : Int) > 20
  ·rw [if_pos c, decide_eq_false (by omega), if_neg (by decide)]
  ·rw [if_neg c, decide_eq_true (by omega), if_pos rfl]
theorem impl_shots (xs : List S25) (hx : xs.length ≤ 4000000) (k : Nat) (hk : xs.length < k) : impl_areShots.f k xs = some (areShots xs) := by
 unfold impl_areShots.f areShots
 by_cases c : (xs.length : Int) > 20
 ·rw [if_pos c, decide_eq_false (by omega), Bool.and_false]
 ·rw [if_neg c, decide_eq_true (by omega)]
  refine all_loop (f := fun k i => impl_areShots.l0 k xs (xs.length : Int) (i : Int)) xs.length (fun k i hi => ?_) (fun k => ?_) xs.length k 0 (by omega) (by omega) (by omega)
  ·show impl_areShots.l0 (k + 1) xs (xs.length : Int) i = _
   simp only [impl_areShots.l0, impl_shot, Option.bind_some]
   rw [if_pos (by omega), if_pos (by omega), if_pos (by omega), w64 (by omega), rd_shot]
   rfl
  ·show impl_areShots.l0 (k + 1) xs (xs.length : Int) _ = _
   simp only [impl_areShots.l0]
   rw [if_neg (by omega)]
theorem areShots_true {xs : List S25} (h : areShots xs = true) : xs.length ≤ 20 ∧ ∀ i, i < xs.length → shAt xs i = true := by
 unfold areShots at h
 rw [Bool.and_eq_true, allF_true, decide_eq_true_iff] at h
 exact ⟨h.2, fun i hi => h.1 i (by omega) (by omega)⟩
def sLo (xs : List S25) (lo : Int) (i : Nat) : Int := stLo (xs.getD i z25).f0 (xs.getD i z25).f1 (xs.getD i z25).f2 (xs.getD i z25).f3 lo
def sHi (xs : List S25) (hi : Int) (i : Nat) : Int := stHi (xs.getD i z25).f0 (xs.getD i z25).f1 (xs.getD i z25).f2 (xs.getD i z25).f3 hi
theorem strip_at {xs : List S25} {lo hi : Int} {i : Nat} (h : shAt xs i = true) (hw : areWinds lo hi = true) : (∀ k, 150000 ≤ k → spec_l06Strip.f k (xs.getD i z25).f0 (xs.getD i z25).f1 (xs.getD i z25).f2 (xs.getD i z25).f3 lo hi = some (sLo xs lo i, sHi xs hi i)) ∧ (∀ k, 150000 ≤ k → impl_stripOf.f k (xs.getD i z25).f0 (xs.getD i z25).f1 (xs.getD i z25).f2 (xs.getD i z25).f3 lo hi = some (sLo xs lo i, sHi xs hi i)) ∧ (-7000000000 ≤ sLo xs lo i ∧ sLo xs lo i ≤ 0) ∧ 0 ≤ sHi xs hi i ∧ sHi xs hi i ≤ 7000000000 := ⟨(strip_is h hw).1, (strip_is h hw).2, strip_range h hw⟩
end Go.Proofs.Ytbleliajcbdijaa.F
namespace Go.Proofs.Ytbleliajcbdijaa.F
open Go.RowKit Go.Proofs.YtbleliajcbdijaaW.PrintWords Go.Proofs.YtbleliajcbdijaaW.PrintLast Go.Proofs.YtbleliajcbdijaaW.PrintMore
set_option linter.unusedVariables false
set_option linter.unusedSimpArgs false
theorem all_loopS {xs : List S25} (hx : xs.length ≤ 20) (hs : ∀ i, i < xs.length → shAt xs i = true) {lo hi : Int} (hw : areWinds lo hi = true) : ∀ d i a b, xs.length - i = d → i ≤ xs.length →
  ∃ q1 q2, (∀ k, 150000 + d < k → spec_StripOfAll.l0 k xs lo hi a b (i : Int) = some (q1, q2, 0)) ∧ (∀ k, 150000 + d < k → impl_StripOfAll.l0 k lo hi a b xs (xs.length : Int) (i : Int) = some (q1, q2, 0)) ∧ q1 ≤ a ∧ b ≤ q2 ∧ ∀ j, i ≤ j → j < xs.length → q1 ≤ sLo xs lo j ∧ sHi xs hi j ≤ q2 := by
 intro d
 induction d with
 | zero =>
  intro i a b hd hi'
  refine ⟨a, b, fun k hk => ?_, fun k hk => ?_, Int.le_refl _, Int.le_refl _, fun j h1 h2 => absurd h2 (by omega)⟩
  ·obtain ⟨k, rfl⟩ : ∃ m, k = m + 1 := ⟨k - 1, by omega⟩
   simp only [spec_StripOfAll.l0]
   rw [if_neg (by omega)]
  ·obtain ⟨k, rfl⟩ : ∃ m, k = m + 1 := ⟨k - 1, by omega⟩
   simp only [impl_StripOfAll.l0]
   rw [if_neg (by omega)]
 | succ d ih =>
  intro i a b hd hi'
  obtain ⟨q1, q2, e1, e2, p1, p2, p3⟩ := ih (i + 1) (mn a (sLo xs lo i)) (mx b (sHi xs hi i)) (by omega) (by omega)
  obtain ⟨s1, s2, _⟩ := strip_at (hs i (by omega)) hw
  have m1 := mn_is a (sLo xs lo i)
  have m2 := mx_is b (sHi xs hi i)
  refine ⟨q1, q2, fun k hk => ?_, fun k hk => ?_, by omega, by omega, fun j h1 h2 => ?_⟩
  ·obtain ⟨k, rfl⟩ : ∃ m, k = m + 1 := ⟨k - 1, by omega⟩
   simp only [spec_StripOfAll.l0]
   rw [if_pos (by omega), if_pos (by omega), rd_shot, s1 k (by omega), w64 (n := (i : Int) + 1) (by omega)]
   exact e1 k (by omega)
  ·obtain ⟨k, rfl⟩ : ∃ m, k = m + 1 := ⟨k - 1, by omega⟩
   simp only [impl_StripOfAll.l0]
   rw [if_pos (by omega), if_pos (by omega), if_pos (by omega), rd_shot, s2 k (by omega), w64 (n := (i : Int) + 1) (by omega)]
   exact e2 k (by omega)
  ·by_cases e : j = i
   ·subst e; omega
   ·exact p3 j (by omega) h2
theorem spared_loop {xs : List S25} (hx : xs.length ≤ 20) (hs : ∀ i, i < xs.length → shAt xs i = true) {lo hi : Int} (hw : areWinds lo hi = true) (p : Int) : ∀ d i, xs.length - i = d → i ≤ xs.length →
  ∃ q1, (∀ k, 150000 + d < k → spec_IsSpared.l0 k xs lo hi p (i : Int) = some (q1, 0)) ∧ (∀ k, 150000 + d < k → impl_IsSpared.l0 k lo hi p xs (xs.length : Int) (i : Int) = some (q1, 0)) ∧ (q1 = true ↔ ∀ j, i ≤ j → j < xs.length → ¬ (sLo xs lo j ≤ p ∧ p ≤ sHi xs hi j)) := by
 intro d
 induction d with
 | zero =>
  intro i hd hi'
  refine ⟨true, fun k hk => ?_, fun k hk => ?_, ⟨fun _ j h1 h2 => absurd h2 (by omega), fun _ => rfl⟩⟩
  ·obtain ⟨k, rfl⟩ : ∃ m, k = m + 1 := ⟨k - 1, by omega⟩
   simp only [spec_IsSpared.l0]
   rw [if_neg (by omega)]
  ·obtain ⟨k, rfl⟩ : ∃ m, k = m + 1 := ⟨k - 1, by omega⟩
   simp only [impl_IsSpared.l0]
   rw [if_neg (by omega)]
 | succ d ih =>
  intro i hd hi'
  obtain ⟨q1, e1, e2, e3⟩ := ih (i + 1) (by omega) (by omega)
  obtain ⟨s1, s2, _⟩ := strip_at (hs i (by omega)) hw
  cases c : inB p (sLo xs lo i) (sHi xs hi i) with
  | true =>
   refine ⟨false, fun k hk => ?_, fun k hk => ?_, ⟨fun x => absurd x (by decide), fun x => absurd (inB_true.1 c) (x i (Nat.le_refl _) (by omega))⟩⟩
   ·obtain ⟨k, rfl⟩ : ∃ m, k = m + 1 := ⟨k - 1, by omega⟩
    simp only [spec_IsSpared.l0]
    rw [if_pos (by omega), if_pos (by omega), rd_shot, s1 k (by omega)]
    simp only [Option.bind_some]
    rw [In_eq, c]; rfl
   ·obtain ⟨k, rfl⟩ : ∃ m, k = m + 1 := ⟨k - 1, by omega⟩
    simp only [impl_IsSpared.l0]
    rw [if_pos (by omega), if_pos (by omega), if_pos (by omega), rd_shot, s2 k (by omega)]
    simp only [Option.bind_some]
    rw [Wi_eq, c]; rfl
  | false =>
   refine ⟨q1, fun k hk => ?_, fun k hk => ?_, ⟨fun x j h1 h2 => ?_, fun x => e3.2 fun j h1 h2 => x j (by omega) h2⟩⟩
   ·obtain ⟨k, rfl⟩ : ∃ m, k = m + 1 := ⟨k - 1, by omega⟩
    simp only [spec_IsSpared.l0]
    rw [if_pos (by omega), if_pos (by omega), rd_shot, s1 k (by omega), w64 (n := (i : Int) + 1) (by omega)]
    simp only [Option.bind_some]
    rw [In_eq, c]
    exact e1 k (by omega)
   ·obtain ⟨k, rfl⟩ : ∃ m, k = m + 1 := ⟨k - 1, by omega⟩
    simp only [impl_IsSpared.l0]
    rw [if_pos (by omega), if_pos (by omega), if_pos (by omega), rd_shot, s2 k (by omega), w64 (n := (i : Int) + 1) (by omega)]
    simp only [Option.bind_some]
    rw [Wi_eq, c]
    exact e2 k (by omega)
   ·by_cases e : j = i
    ·subst e; exact inB_false.1 c
    ·exact e3.1 x j (by omega) h2
theorem worst_loop {xs : List S25} (hx : xs.length ≤ 20) (hs : ∀ i, i < xs.length → shAt xs i = true) {lo hi : Int} (hw : areWinds lo hi = true) : ∀ (d i : Nat) (b c m : Int), xs.length - i = d → i ≤ xs.length → ((c = b ∧ 0 ≤ b) ∨ (i < xs.length ∧ m = -1)) →
  ∃ q1 q2, (∀ k, 150000 + d < k → spec_WorstShot.l0 k xs lo hi b m (i : Int) = some (q1, q2, 0)) ∧ (∀ k, 150000 + d < k → impl_WorstShot.l0 k lo hi c m xs (xs.length : Int) (i : Int) = some (q1, q2, 0)) ∧ m ≤ q2 ∧ (∀ j, i ≤ j → j < xs.length → sHi xs hi j - sLo xs lo j ≤ q2) ∧ ((q1 = b ∧ q2 = m) ∨ ∃ j : Nat, i ≤ j ∧ j < xs.length ∧ q1 = (j : Int) ∧ q2 = sHi xs hi j - sLo xs lo j) := by
 intro d
 induction d with
 | zero =>
  intro i b c m hd hi' hb
  refine ⟨b, m, fun k hk => ?_, fun k hk => ?_, Int.le_refl _, fun j h1 h2 => absurd h2 (by omega), .inl ⟨rfl, rfl⟩⟩
  ·obtain ⟨k, rfl⟩ : ∃ m, k = m + 1 := ⟨k - 1, by omega⟩
   simp only [spec_WorstShot.l0]
   rw [if_neg (by omega)]
  ·obtain ⟨k, rfl⟩ : ∃ m, k = m + 1 := ⟨k - 1, by omega⟩
   simp only [impl_WorstShot.l0]
   rw [if_neg (by omega), if_neg (by omega)]
   have e : c = b := by omega
   rw [e]
 | succ d ih =>
  intro i b c m hd hi' hb
  obtain ⟨s1, s2, s3, s4⟩ := strip_at (hs i (by omega)) hw
  by_cases g : sHi xs hi i - sLo xs lo i > m
  ·obtain ⟨q1, q2, e1, e2, p1, p2, p3⟩ := ih (i + 1) (i : Int) (i : Int) (sHi xs hi i - sLo xs lo i) (by omega) (by omega) (.inl ⟨rfl, by omega⟩)
   refine ⟨q1, q2, fun k hk => ?_, fun k hk => ?_, by omega, fun j h1 h2 => ?_, ?_⟩
   ·obtain ⟨k, rfl⟩ : ∃ m, k = m + 1 := ⟨k - 1, by omega⟩
    simp only [spec_WorstShot.l0]
    rw [if_pos (by omega), if_pos (by omega), rd_shot, s1 k (by omega), w64 (n := (i : Int) + 1) (by omega)]
    simp only [Option.bind_some]
    rw [w64 (n := sHi xs hi i - sLo xs lo i) (by omega), if_pos g]
    exact e1 k (by omega)
   ·obtain ⟨k, rfl⟩ : ∃ m, k = m + 1 := ⟨k - 1, by omega⟩
    simp only [impl_WorstShot.l0]
    rw [if_pos (by omega), if_pos (by omega), if_pos (by omega), rd_shot, s2 k (by omega), w64 (n := (i : Int) + 1) (by omega)]
    simp only [Option.bind_some]
    rw [w64 (n := sHi xs hi i - sLo xs lo i) (by omega), if_pos g]
    exact e2 k (by omega)
   ·by_cases e : j = i
    ·subst e; omega
    ·exact p2 j (by omega) h2
   ·rcases p3 with ⟨x, y⟩ | ⟨j, j1, j2⟩
    ·exact .inr ⟨i, Nat.le_refl _, by omega, x, y⟩
    ·exact .inr ⟨j, by omega, j2⟩
  ·obtain ⟨q1, q2, e1, e2, p1, p2, p3⟩ := ih (i + 1) b c m (by omega) (by omega) (.inl (by omega))
   refine ⟨q1, q2, fun k hk => ?_, fun k hk => ?_, by omega, fun j h1 h2 => ?_, ?_⟩
   ·obtain ⟨k, rfl⟩ : ∃ m, k = m + 1 := ⟨k - 1, by omega⟩
    simp only [spec_WorstShot.l0]
    rw [if_pos (by omega), if_pos (by omega), rd_shot, s1 k (by omega), w64 (n := (i : Int) + 1) (by omega)]
    simp only [Option.bind_some]
    rw [w64 (n := sHi xs hi i - sLo xs lo i) (by omega), if_neg g]
    exact e1 k (by omega)
   ·obtain ⟨k, rfl⟩ : ∃ m, k = m + 1 := ⟨k - 1, by omega⟩
    simp only [impl_WorstShot.l0]
    rw [if_pos (by omega), if_pos (by omega), if_pos (by omega), rd_shot, s2 k (by omega), w64 (n := (i : Int) + 1) (by omega)]
    simp only [Option.bind_some]
    rw [w64 (n := sHi xs hi i - sLo xs lo i) (by omega), if_neg g]
    exact e2 k (by omega)
   ·by_cases e : j = i
    ·subst e; omega
    ·exact p2 j (by omega) h2
   ·rcases p3 with x | ⟨j, j1, j2⟩
    ·exact .inl x
    ·exact .inr ⟨j, by omega, j2⟩
end Go.Proofs.Ytbleliajcbdijaa.F
namespace Go.Proofs.Ytbleliajcbdijaa.F
open Go.RowKit Go.Proofs.YtbleliajcbdijaaW.PrintWords Go.Proofs.YtbleliajcbdijaaW.PrintLast Go.Proofs.YtbleliajcbdijaaW.PrintMore
set_option linter.unusedVariables false
set_option linter.unusedSimpArgs false
def Code (c : List Int) : Prop := c.length ≤ 4096 ∧ ∀ x ∈ c, 0 ≤ x ∧ x ≤ 255
def St (c : List Int) (a s : Int) : Prop := 0 ≤ a ∧ a ≤ (c.length : Int) ∧ 0 ≤ s ∧ s < 2147483647
theorem rd_code {c : List Int} (hc : Code c) (i : Int) : 0 ≤ rd c i ∧ rd c i ≤ 255 := by
 unfold rd
 rw [List.getD_eq_getElem?_getD]
 cases h : c[i.toNat]? with
 | none => exact ⟨Int.le_refl _, by decide⟩
 | some x => exact hc.2 x (List.mem_of_getElem? h)
theorem tmod_nn {a b : Int} (ha : 0 ≤ a) (hb : 0 < b) : 0 ≤ Int.tmod a b ∧ Int.tmod a b < b := by
 rw [Int.tmod_eq_emod_of_nonneg ha]
 exact ⟨Int.emod_nonneg _ (by omega), Int.emod_lt_of_pos _ hb⟩
theorem next_ok {c : List Int} (hc : Code c) {a s : Int} (h : St c a s) (n : Int) (hn : n ≤ 4611686018427387904) : ∃ r a' s', spec_l01Next.f c a s n = some (r, a', s') ∧ St c a' s' ∧ 0 ≤ r ∧ (r < n ∨ (n ≤ 1 ∧ r = 0)) := by
 obtain ⟨h1, h2, h3, h4⟩ := h
 have hl := hc.1
 unfold spec_l01Next.f
 by_cases c1 : n ≤ 1
 ·rw [if_pos c1]
  exact ⟨0, a, s, rfl, ⟨h1, h2, h3, h4⟩, Int.le_refl _, .inr ⟨c1, rfl⟩⟩
 ·have hs := tmod_nn (a := s * 48271 + 29) (b := 2147483647) (by omega) (by omega)
  rw [if_neg c1, w64 (n := s * 48271) (by omega), w64 (n := s * 48271 + 29) (by omega)]
  generalize Int.tmod (s * 48271 + 29) 2147483647 = z at hs ⊢
  have hd : Int.tdiv z 31 = z / 31 := Int.tdiv_eq_ediv_of_nonneg hs.1
  rw [hd]
  have n0 : ¬ n = 0 := by omega
  by_cases c2 : a < (c.length : Int)
  ·have hr := rd_code hc a
   have p := tmod_nn (a := z / 31 + rd c a) (b := n) (by omega) (by omega)
   have q := tmod_nn (a := rd c a) (b := n) (by omega) (by omega)
   simp only [if_neg n0]
   rw [if_pos c2, if_pos h1, w64 (n := a + 1) (by omega), w64 (n := z / 31) (by omega), w64 (n := rd c a) (by omega), w64 (n := z / 31 + rd c a) (by omega), w64 (n := a + 1 - 1) (by omega), show a + 1 - 1 = a by omega, w64 (n := rd c a) (by omega)]
   by_cases c3 : n ≤ 256
   ·rw [if_pos c3]
    by_cases c4 : Int.tmod (a + 1) 2 = 0
    ·rw [if_pos c4, if_pos h1, if_pos c2]
     exact ⟨_, _, _, rfl, ⟨by omega, by omega, hs.1, hs.2⟩, q.1, .inl q.2⟩
    ·rw [if_neg c4]
     exact ⟨_, _, _, rfl, ⟨by omega, by omega, hs.1, hs.2⟩, p.1, .inl p.2⟩
   ·rw [if_neg c3]
    exact ⟨_, _, _, rfl, ⟨by omega, by omega, hs.1, hs.2⟩, p.1, .inl p.2⟩
  ·have p := tmod_nn (a := z / 31) (b := n) (by omega) (by omega)
   simp only [if_neg n0]
   rw [if_neg c2, w64 (n := z / 31) (by omega)]
   exact ⟨_, _, _, rfl, ⟨h1, h2, hs.1, hs.2⟩, p.1, .inl p.2⟩
theorem pick_ok {c : List Int} (hc : Code c) {a s : Int} (h : St c a s) (l : List Int) (hl : 0 < l.length) (hl2 : l.length ≤ 1000) : ∃ r a' s', spec_l01Pick.f c a s l = some (r, a', s') ∧ St c a' s' ∧ r ∈ l := by
 obtain ⟨r, a', s', e, h', h0, h1⟩ := next_ok hc h (l.length : Int) (by omega)
 refine ⟨rd l r, a', s', ?_, h', ?_⟩
 ·unfold spec_l01Pick.f
  rw [e]
  simp only [Option.bind_some]
  rw [if_pos h0, if_pos (by omega)]
 ·have hr : r.toNat < l.length := by omega
  unfold rd
  rw [List.getD_eq_getElem?_getD, List.getElem?_eq_getElem hr]
  exact List.getElem_mem hr
theorem from_ok {c : List Int} (hc : Code c) : ∃ s, (∀ k, 70 ≤ k → spec_l01From.f k c = some (c, 0, s)) ∧ St c 0 s := by
 have loop : ∀ (d : Nat) (i s : Int), 0 ≤ i → i ≤ 64 → 64 - i ≤ d → 0 ≤ s → s < 2147483647 → ∃ s', (∀ k, d < k → spec_l01From.l0 k c i c 0 s = some (c, 0, s')) ∧ St c 0 s' := by
  intro d
  induction d with
  | zero =>
   intro i s h1 h2 h3 h4 h5
   refine ⟨s, fun k hk => ?_, by omega, by omega, h4, h5⟩
   obtain ⟨k, rfl⟩ : ∃ m, k = m + 1 := ⟨k - 1, by omega⟩
   simp only [spec_l01From.l0]
   rw [if_neg (show ¬ i < 64 by omega)]
   split <;> rfl
  | succ d ih =>
   intro i s h1 h2 h3 h4 h5
   by_cases c1 : i < (c.length : Int) ∧ i < 64
   ·have hr := rd_code hc i
    have hm := tmod_nn (a := s * 83 + rd c i) (b := 2147483647) (by omega) (by omega)
    obtain ⟨s', e, hs⟩ := ih (i + 1) (Int.tmod (s * 83 + rd c i) 2147483647) (by omega) (by omega) (by omega) hm.1 hm.2
    refine ⟨s', fun k hk => ?_, hs⟩
    obtain ⟨k, rfl⟩ : ∃ m, k = m + 1 := ⟨k - 1, by omega⟩
    simp only [spec_l01From.l0]
    rw [if_pos c1.1, if_pos c1.2, if_pos h1, w64 (n := i + 1) (by omega), w64 (n := s * 83) (by omega), w64 (n := rd c i) (by omega), w64 (n := s * 83 + rd c i) (by omega)]
    exact e k (by omega)
   ·refine ⟨s, fun k hk => ?_, by omega, by omega, h4, h5⟩
    obtain ⟨k, rfl⟩ : ∃ m, k = m + 1 := ⟨k - 1, by omega⟩
    simp only [spec_l01From.l0]
    by_cases c2 : i < (c.length : Int)
    ·rw [if_pos c2, if_neg (fun x => c1 ⟨c2, x⟩)]
    ·rw [if_neg c2]
 obtain ⟨s', e, hs⟩ := loop 64 0 61043 (by omega) (by omega) (by omega) (by omega) (by omega)
 exact ⟨s', fun k hk => e k (by omega), hs⟩
theorem code_of {l : List Int} (h : ¬ (l.length : Int) > 4096) (hb : ∀ x ∈ l, (Go.Lit.int .u8 x).wf = true) : Code l := ⟨by omega, fun x hx => by
 have h := hb x hx
 simp [Go.Lit.wf, Go.IntKind.min, Go.IntKind.max, Go.IntKind.signed, Go.IntKind.bits] at h
 omega⟩
end Go.Proofs.Ytbleliajcbdijaa.F
namespace Go.Proofs.Ytbleliajcbdijaa.F
open Go.RowKit Go.Proofs.YtbleliajcbdijaaW.PrintWords Go.Proofs.YtbleliajcbdijaaW.PrintLast Go.Proofs.YtbleliajcbdijaaW.PrintMore
set_option linter.unusedVariables false
set_option linter.unusedSimpArgs false
theorem up_ok {c : List Int} (hc : Code c) {a s : Int} (h : St c a s) : ∃ r a' s', spec_l04Up.f c a s = some (r, a', s') ∧ St c a' s' := by
 obtain ⟨r1, a1, s1, e1, h1, _⟩ := next_ok hc h 100000 (by omega)
 obtain ⟨r2, a2, s2, e2, h2, _⟩ := next_ok hc h1 100000 (by omega)
 obtain ⟨r3, a3, s3, e3, h3, _⟩ := next_ok hc h2 100 (by omega)
 obtain ⟨r4, a4, s4, e4, h4, _⟩ := next_ok hc h3 60000 (by omega)
 obtain ⟨r5, a5, s5, e5, h5, _⟩ := next_ok hc h4 60000 (by omega)
 obtain ⟨r6, a6, s6, e6, h6, _⟩ := pick_ok hc h5 [r1, r2, r3, 0, 200000, 200001, r4, r5] (by simp) (by simp)
 refine ⟨r6, a6, s6, ?_, h6⟩
 unfold spec_l04Up.f
 simp only [e1, e2, e3, e4, e5, e6, Option.bind_some]
theorem side_ok {c : List Int} (hc : Code c) {a s : Int} (h : St c a s) : ∃ r a' s', spec_l04Side.f c a s = some (r, a', s') ∧ St c a' s' := by
 obtain ⟨r1, a1, s1, e1, h1, _⟩ := next_ok hc h 20001 (by omega)
 obtain ⟨r2, a2, s2, e2, h2, _⟩ := next_ok hc h1 2001 (by omega)
 obtain ⟨r3, a3, s3, e3, h3, _⟩ := next_ok hc h2 20001 (by omega)
 obtain ⟨r4, a4, s4, e4, h4, _⟩ := pick_ok hc h3 [50000, -50000, 50001] (by simp) (by simp)
 obtain ⟨r5, a5, s5, e5, h5, _⟩ := pick_ok hc h4 [wrap64 (r1 - 10000), wrap64 (r2 - 1000), 0, wrap64 (r3 - 10000), r4] (by simp) (by simp)
 refine ⟨r5, a5, s5, ?_, h5⟩
 unfold spec_l04Side.f
 simp only [e1, e2, e3, e4, e5, Option.bind_some]
theorem shot_ok {c : List Int} (hc : Code c) {a s : Int} (h : St c a s) : ∃ u v f r a' s', spec_l06Draw.f c a s = some (u, v, f, r, a', s') ∧ St c a' s' := by
 obtain ⟨r1, a1, s1, e1, h1, _⟩ := next_ok hc h 70000 (by omega)
 obtain ⟨r2, a2, s2, e2, h2, _⟩ := next_ok hc h1 10001 (by omega)
 obtain ⟨r3, a3, s3, e3, h3, _⟩ := next_ok hc h2 4000 (by omega)
 obtain ⟨r4, a4, s4, e4, h4, _⟩ := next_ok hc h3 60000 (by omega)
 obtain ⟨r5, a5, s5, e5, h5, _⟩ := next_ok hc h4 40 (by omega)
 have g : spec_l06Good.f c a s = some (wrap64 (5000 + r1), wrap64 (r2 - 5000), wrap64 (500 + r3), r4, a4, s4) := by
  unfold spec_l06Good.f
  simp only [e1, e2, e3, e4, Option.bind_some]
 unfold spec_l06Draw.f
 simp only [g, e5, Option.bind_some]
 by_cases c0 : r5 = 0
 ·obtain ⟨r6, a6, s6, e6, h6, _⟩ := pick_ok hc h5 [99, 100, 10000, 10001] (by simp) (by simp)
  rw [if_pos c0, e6]
  exact ⟨_, _, _, _, _, _, rfl, h6⟩
 rw [if_neg c0]
 by_cases c1 : r5 = 1
 ·obtain ⟨r6, a6, s6, e6, h6, _⟩ := pick_ok hc h5 [-1, 0, 200000, 200001] (by simp) (by simp)
  rw [if_pos c1, e6]
  exact ⟨_, _, _, _, _, _, rfl, h6⟩
 rw [if_neg c1]
 by_cases c2 : r5 = 2
 ·obtain ⟨r6, a6, s6, e6, h6⟩ := up_ok hc h5
  rw [if_pos c2, e6]
  exact ⟨_, _, _, _, _, _, rfl, h6⟩
 rw [if_neg c2]
 by_cases c3 : r5 = 3
 ·obtain ⟨r6, a6, s6, e6, h6⟩ := side_ok hc h5
  rw [if_pos c3, e6]
  exact ⟨_, _, _, _, _, _, rfl, h6⟩
 rw [if_neg c3]
 exact ⟨_, _, _, _, _, _, rfl, h5⟩
theorem range_ok {c : List Int} (hc : Code c) {a s : Int} (h : St c a s) : ∃ lo hi a' s', spec_l06Range.f c a s = some (lo, hi, a', s') ∧ St c a' s' := by
 obtain ⟨r1, a1, s1, e1, h1, _⟩ := next_ok hc h 12001 (by omega)
 obtain ⟨r2, a2, s2, e2, h2, _⟩ := next_ok hc h1 16 (by omega)
 unfold spec_l06Range.f
 simp only [e1, e2, Option.bind_some]
 by_cases c0 : r2 = 0
 ·obtain ⟨r3, a3, s3, e3, h3⟩ := side_ok hc h2
  obtain ⟨r4, a4, s4, e4, h4⟩ := side_ok hc h3
  rw [if_pos c0]
  simp only [e3, e4, Option.bind_some]
  exact ⟨_, _, _, _, rfl, h4⟩
 ·obtain ⟨r3, a3, s3, e3, h3, _⟩ := next_ok hc h2 6000 (by omega)
  rw [if_neg c0]
  simp only [e3, Option.bind_some]
  exact ⟨_, _, _, _, rfl, h3⟩
end Go.Proofs.Ytbleliajcbdijaa.F
namespace Go.Proofs.Ytbleliajcbdijaa.F
open Go.RowKit Go.Proofs.YtbleliajcbdijaaW.PrintWords Go.Proofs.YtbleliajcbdijaaW.PrintLast Go.Proofs.YtbleliajcbdijaaW.PrintMore
set_option linter.unusedVariables false
set_option linter.unusedSimpArgs false
theorem list1_ok {c : List Int} (hc : Code c) : ∀ (d : Nat) (xs : List S25) (a s : Int), 21 - xs.length = d → xs.length ≤ 30 → St c a s → ∃ r a' s', (∀ k, d < k → spec_l06List.l1 k xs c a s = some (r, a', s')) ∧ St c a' s' ∧ r.length ≤ 30 := by
 intro d
 induction d with
 | zero =>
  intro xs a s hd hx h
  obtain ⟨r1, a1, s1, e1, h1, b1, b2⟩ := next_ok hc h 2 (by omega)
  refine ⟨xs, a1, s1, fun k hk => ?_, h1, hx⟩
  obtain ⟨k, rfl⟩ : ∃ m, k = m + 1 := ⟨k - 1, by omega⟩
  simp only [spec_l06List.l1, e1, Option.bind_some]
  rw [w64 (n := 20 + r1) (by omega), if_neg (by omega)]
 | succ d ih =>
  intro xs a s hd hx h
  obtain ⟨r1, a1, s1, e1, h1, b1, b2⟩ := next_ok hc h 2 (by omega)
  by_cases c1 : (xs.length : Int) < 20 + r1
  ·obtain ⟨r, a', s', e, h', hl⟩ := ih (xs ++ [(⟨9000, 0, 900, 0⟩ : S25)]) a1 s1 (by rw [List.length_append]; show 21 - (xs.length + 1) = d; omega) (by rw [List.length_append]; show xs.length + 1 ≤ 30; omega) h1
   refine ⟨r, a', s', fun k hk => ?_, h', hl⟩
   obtain ⟨k, rfl⟩ : ∃ m, k = m + 1 := ⟨k - 1, by omega⟩
   simp only [spec_l06List.l1, e1, Option.bind_some]
   rw [w64 (n := 20 + r1) (by omega), if_pos c1, if_pos (by omega)]
   exact e k (by omega)
  ·refine ⟨xs, a1, s1, fun k hk => ?_, h1, hx⟩
   obtain ⟨k, rfl⟩ : ∃ m, k = m + 1 := ⟨k - 1, by omega⟩
   simp only [spec_l06List.l1, e1, Option.bind_some]
   rw [w64 (n := 20 + r1) (by omega), if_neg c1]
theorem list0_ok {c : List Int} (hc : Code c) : ∀ (d : Nat) (n : Int) (xs : List S25) (a s : Int), n ≤ d → xs.length + d ≤ 10 → St c a s → ∃ r a' s', (∀ k, d + 40 < k → spec_l06List.l0 k xs n c a s = some (r, a', s')) ∧ St c a' s' ∧ r.length ≤ 30 := by
 have fin : ∀ (n : Int) (xs : List S25) (a s : Int), ¬ n > 0 → xs.length ≤ 10 → St c a s → ∃ r a' s', (∀ k, 40 < k → spec_l06List.l0 k xs n c a s = some (r, a', s')) ∧ St c a' s' ∧ r.length ≤ 30 := fun n xs a s hn hx h => by
  obtain ⟨r1, a1, s1, e1, h1, _⟩ := next_ok hc h 30 (by omega)
  by_cases c1 : r1 = 0
  ·obtain ⟨r, a', s', e, h', hl⟩ := list1_ok hc (21 - xs.length) xs a1 s1 rfl (by omega) h1
   refine ⟨r, a', s', fun k hk => ?_, h', hl⟩
   obtain ⟨k, rfl⟩ : ∃ m, k = m + 1 := ⟨k - 1, by omega⟩
   simp only [spec_l06List.l0]
   rw [if_neg hn]
   simp only [e1, Option.bind_some]
   rw [if_pos c1]
   exact e k (by omega)
  ·refine ⟨xs, a1, s1, fun k hk => ?_, h1, by omega⟩
   obtain ⟨k, rfl⟩ : ∃ m, k = m + 1 := ⟨k - 1, by omega⟩
   simp only [spec_l06List.l0]
   rw [if_neg hn]
   simp only [e1, Option.bind_some]
   rw [if_neg c1]
 intro d
 induction d with
 | zero =>
  intro n xs a s hn hx h
  obtain ⟨r, a', s', e, r2⟩ := fin n xs a s (by omega) (by omega) h
  exact ⟨r, a', s', fun k hk => e k (by omega), r2⟩
 | succ d ih =>
  intro n xs a s hn hx h
  by_cases c0 : n > 0
  ·obtain ⟨u, v, f, r, a1, s1, e1, h1⟩ := shot_ok hc h
   obtain ⟨q, a', s', e, h', hl⟩ := ih (n - 1) (xs ++ [(⟨u, v, f, r⟩ : S25)]) a1 s1 (by omega) (by rw [List.length_append]; show xs.length + 1 + d ≤ 10; omega) h1
   refine ⟨q, a', s', fun k hk => ?_, h', hl⟩
   obtain ⟨k, rfl⟩ : ∃ m, k = m + 1 := ⟨k - 1, by omega⟩
   simp only [spec_l06List.l0]
   rw [if_pos c0, e1]
   simp only [Option.bind_some]
   rw [if_pos (by omega), w64 (n := n - 1) (by omega)]
   exact e k (by omega)
  ·obtain ⟨r, a', s', e, r2⟩ := fin n xs a s c0 (by omega) h
   exact ⟨r, a', s', fun k hk => e k (by omega), r2⟩
theorem draw_ok {c : List Int} (hc : Code c) : ∃ (xs : List S25) (lo hi p : Int), xs.length ≤ 30 ∧ ∀ k, 200 ≤ k → spec_DrawIsSpared.f k c = some (xs, lo, hi, p) := by
 obtain ⟨z, e0, h0⟩ := from_ok hc
 obtain ⟨r1, a1, s1, e1, h1, b1, b2⟩ := next_ok hc h0 5 (by omega)
 obtain ⟨xs, a2, s2, e2, h2, hl⟩ := list0_ok hc 5 r1 [] a1 s1 (by omega) (by simp) h1
 obtain ⟨lo, hi, a3, s3, e3, h3⟩ := range_ok hc h2
 have d : ∀ k, 200 ≤ k → spec_DrawStripOfAll.f k c = some (xs, lo, hi) := fun k hk => by
  unfold spec_DrawStripOfAll.f spec_l06List.f
  simp only [e0 k (by omega), e1, e2 k (by omega), e3, Option.bind_some]
 obtain ⟨r4, a4, s4, e4, h4, _⟩ := next_ok hc h0 200001 (by omega)
 obtain ⟨r5, a5, s5, e5, h5, _⟩ := next_ok hc h4 2000001 (by omega)
 obtain ⟨r6, a6, s6, e6, h6, _⟩ := pick_ok hc h5 [wrap64 (r4 - 100000), wrap64 (r5 - 1000000), 0] (by simp) (by simp)
 refine ⟨xs, lo, hi, r6, hl, fun k hk => ?_⟩
 unfold spec_DrawIsSpared.f
 simp only [e0 k (by omega), d k hk, e4, e5, e6, Option.bind_some]
theorem law_loop {xs : List S25} (hx : xs.length ≤ 20) (hs : ∀ i, i < xs.length → shAt xs i = true) {lo hi : Int} (hw : areWinds lo hi = true) (p : Int) (s : Bool) (a b kk w th : Int)
  (h1 : s = true ↔ ∀ j, j < xs.length → ¬ (sLo xs lo j ≤ p ∧ p ≤ sHi xs hi j)) (h2 : ∀ j, j < xs.length → a ≤ sLo xs lo j ∧ sHi xs hi j ≤ b) (h3 : ∀ j, j < xs.length → sHi xs hi j - sLo xs lo j ≤ w) (h4 : ∀ j : Nat, j < xs.length → (j : Int) = kk → sHi xs hi j - sLo xs lo j = w) (h5 : ((th == 0) == (decide ((xs.length : Int) > 0))) = true) :
  ∀ (d i : Nat) (n : Bool), xs.length - i = d → i ≤ xs.length → (n = true ↔ ∃ j, j < i ∧ sLo xs lo j ≤ p ∧ p ≤ sHi xs hi j) → ∀ k, 150000 + d < k → laws_FnSpared.l0 k xs lo hi p s a b kk w th n (i : Int) = some true := by
 intro d
 induction d with
 | zero =>
  intro i n hd hi' hn k hk
  obtain ⟨k, rfl⟩ : ∃ m, k = m + 1 := ⟨k - 1, by omega⟩
  have e : i = xs.length := by omega
  subst e
  simp only [laws_FnSpared.l0]
  rw [if_neg (by omega)]
  have e2 : (s == !n) = true := by
   cases hn' : n with
   | true =>
    obtain ⟨j, j1, j2⟩ := hn.1 hn'
    cases hs' : s with
    | true => exact absurd j2 (h1.1 hs' j j1)
    | false => rfl
   | false =>
    cases hs' : s with
    | true => rfl
    | false =>
     have : s = true := h1.2 fun j j1 j2 => by
      have := hn.2 ⟨j, j1, j2⟩
      rw [hn'] at this
      exact absurd this (by decide)
     rw [hs'] at this
     exact absurd this (by decide)
  rw [if_pos e2, h5]
 | succ d ih =>
  intro i n hd hi' hn k hk
  obtain ⟨k, rfl⟩ : ∃ m, k = m + 1 := ⟨k - 1, by omega⟩
  have hsi := hs i (by omega)
  obtain ⟨s1, s2, s3, s4⟩ := strip_at hsi hw
  have so : impl_StripOf.f k (xs.getD i z25).f0 (xs.getD i z25).f1 (xs.getD i z25).f2 (xs.getD i z25).f3 lo hi = some (sLo xs lo i, sHi xs hi i, 0) := by
   have e := hsi
   unfold shAt at e
   unfold impl_StripOf.f
   rw [impl_shot, e, impl_winds, hw, s2 k (by omega)]; rfl
  have g2 := h2 i (by omega)
  have g3 := h3 i (by omega)
  have g5 : xs.length - (i + 1) = d := by clear hn; omega
  have g6 : i + 1 ≤ xs.length := by clear hn; omega
  have g7 : 150000 + d < k := by clear hn; omega
  have nx : ∀ n', (n' = true ↔ (n = true ∨ (sLo xs lo i ≤ p ∧ p ≤ sHi xs hi i))) → laws_FnSpared.l0 k xs lo hi p s a b kk w th n' ((i + 1 : Nat) : Int) = some true := fun n' hn' => by
   refine ih (i + 1) n' g5 g6 ⟨fun x => ?_, fun ⟨j, j1, j2⟩ => ?_⟩ k g7
   ·rcases hn'.1 x with y | y
    ·obtain ⟨j, j1, j2⟩ := hn.1 y
     exact ⟨j, by omega, j2⟩
    ·exact ⟨i, by omega, y⟩
   ·by_cases e : j = i
    ·subst e; exact hn'.2 (.inr j2)
    ·exact hn'.2 (.inl (hn.2 ⟨j, by omega, j2⟩))
  simp only [laws_FnSpared.l0]
  rw [if_pos (by omega), if_pos (by omega), rd_shot, so]
  simp only [Option.bind_some, if_true]
  rw [if_neg (show ¬ sLo xs lo i < a by omega), if_neg (show ¬ sHi xs hi i > b by omega), w64 (n := sHi xs hi i - sLo xs lo i) (by omega), if_neg (show ¬ sHi xs hi i - sLo xs lo i > w by omega), w64 (n := (i : Int) + 1) (by omega)]
  have rest : (if n = true then (laws_FnSpared.l0 k xs lo hi p s a b kk w th true ((i : Int) + 1)) else (if sLo xs lo i ≤ p then (laws_FnSpared.l0 k xs lo hi p s a b kk w th (decide (p ≤ sHi xs hi i)) ((i : Int) + 1)) else (laws_FnSpared.l0 k xs lo hi p s a b kk w th false ((i : Int) + 1)))) = some true := by
   by_cases c1 : n = true
   ·rw [if_pos c1]; exact nx true ⟨fun _ => .inl c1, fun _ => rfl⟩
   ·rw [if_neg c1]
    by_cases c2 : sLo xs lo i ≤ p
    ·rw [if_pos c2]
     exact nx _ (by rw [decide_eq_true_iff]; exact ⟨fun x => .inr ⟨c2, x⟩, fun x => x.elim (fun y => absurd y c1) (fun y => y.2)⟩)
    ·rw [if_neg c2]
     exact nx false ⟨fun x => absurd x (by decide), fun x => x.elim (fun y => absurd y c1) (fun y => absurd y.1 c2)⟩
  by_cases c0 : (i : Int) = kk
  ·rw [if_pos c0, if_pos (h4 i (by omega) c0)]; exact rest
  ·rw [if_neg c0]; exact rest
theorem pure_FnSpared : laws_FnSpared.Pure := by
 intro c _ _ hb
 by_cases big : (c.length : Int) > 4096
 ·refine ⟨0, ?_⟩
  unfold laws_FnSpared.f laws_big.f
  simp only [Option.bind_some, decide_eq_true big, if_true]
 have hc : Code c := code_of big hb
 obtain ⟨xs, lo, hi, p, hl, ed⟩ := draw_ok hc
 refine ⟨200000, ?_⟩
 unfold laws_FnSpared.f laws_big.f
 simp only [Option.bind_some, decide_eq_false big, Bool.false_eq_true, if_false, ed 200000 (by omega)]
 unfold impl_IsSpared.f spec_IsSpared.f impl_StripOfAll.f spec_StripOfAll.f impl_WorstShot.f spec_WorstShot.f
 rw [spec_codes xs (by omega) _ _ 200000 (by omega), impl_shots xs (by omega) 200000 (by omega)]
 cases h : areShots xs with
 | false =>
  rw [show (200000 : Nat) = 199997 + 1 + 1 + 1 from rfl]
  simp [spec_WorstShot.j0, spec_WorstShot.j1, laws_FnSpared.j0]
 | true =>
  rw [impl_winds]
  cases hw : areWinds lo hi with
  | false =>
   rw [show (200000 : Nat) = 199997 + 1 + 1 + 1 from rfl]
   simp [spec_WorstShot.j0, spec_WorstShot.j1, laws_FnSpared.j0]
  | true =>
   obtain ⟨hx, hs⟩ := areShots_true h
   obtain ⟨s, s1, s2, s3⟩ := spared_loop hx hs hw p xs.length 0 (by omega) (by omega)
   obtain ⟨a, b, a1, a2, _, _, a3⟩ := all_loopS hx hs hw xs.length 0 0 0 (by omega) (by omega)
   have s1' := s1 200000 (by omega)
   have s2' := s2 200000 (by omega)
   have a1' := a1 200000 (by omega)
   have a2' := a2 200000 (by omega)
   have nn : (s != s) = false := by simp
   by_cases c0 : xs.length = 0
   ·have e : xs = [] := List.length_eq_zero_iff.1 c0
    subst e
    have L := law_loop hx hs hw p s a b 0 0 4 (by simpa using s3) (fun j hj => absurd hj (by simp)) (fun j hj => absurd hj (by simp)) (fun j hj => absurd hj (by simp)) (by decide) 0 0 false rfl (by simp) (by simp) 199999 (by omega)
    have s1'' : spec_IsSpared.l0 200000 ([] : List S25) lo hi p 0 = some (s, 0) := s1'
    have s2'' : impl_IsSpared.l0 200000 lo hi p ([] : List S25) (([] : List S25).length : Int) 0 = some (s, 0) := s2'
    have a1'' : spec_StripOfAll.l0 200000 ([] : List S25) lo hi 0 0 0 = some (a, b, 0) := a1'
    have a2'' : impl_StripOfAll.l0 200000 lo hi 0 0 ([] : List S25) (([] : List S25).length : Int) 0 = some (a, b, 0) := a2'
    have j0 : ∀ (k : Nat), spec_WorstShot.j0 (k + 1 + 1) ([] : List S25) lo hi 0 ((([] : List S25).length : Int) == 0) = some (0, 0, 4) := fun k => rfl
    have i0 : ∀ (k : Nat), impl_WorstShot.l0 (k + 1) lo hi (-1) (-1) ([] : List S25) (([] : List S25).length : Int) 0 = some (0, 0, 4) := fun k => rfl
    simp only [if_true, Option.bind_some, s1'', s2'', a1'', a2'', show spec_WorstShot.j0 200000 ([] : List S25) lo hi 0 ((([] : List S25).length : Int) == 0) = some (0, 0, 4) from j0 199998, show impl_WorstShot.l0 200000 lo hi (-1) (-1) ([] : List S25) (([] : List S25).length : Int) 0 = some (0, 0, 4) from i0 199999, nn, Bool.false_eq_true, if_false]
    show laws_FnSpared.j0 (199999 + 1) [] lo hi p s 0 a b 0 0 4 false = _
    simp only [laws_FnSpared.j0, Bool.false_eq_true, if_false, if_true]
    exact L
   ·obtain ⟨q1, q2, w1, w2, w3, w4, w5⟩ := worst_loop hx hs hw xs.length 0 0 (-1) (-1) (by omega) (by omega) (.inr ⟨by omega, rfl⟩)
    obtain ⟨j, j1, j2, j3, j4⟩ : ∃ j : Nat, 0 ≤ j ∧ j < xs.length ∧ q1 = (j : Int) ∧ q2 = sHi xs hi j - sLo xs lo j := by
     rcases w5 with ⟨x, y⟩ | x
     ·have z := w4 0 (by omega) (by omega)
      have z2 := (strip_at (hs 0 (by omega)) hw).2.2
      omega
     ·exact x
    have L := law_loop hx hs hw p s a b q1 q2 0 (by simpa using s3) (fun j hj => a3 j (by omega) hj) (fun j hj => w4 j (by omega) hj) (fun i hi e => by
     have e2 : i = j := by omega
     subst e2; exact j4.symm) (by rw [decide_eq_true (by omega)]; rfl) xs.length 0 false rfl (by omega) (by simp) 199999 (by omega)
    have cz : ((xs.length : Int) == 0) = false := by
     rw [beq_eq_false_iff_ne]; omega
    have w1' := w1 199998 (by omega)
    have w2' := w2 200000 (by omega)
    have s1'' : spec_IsSpared.l0 200000 xs lo hi p 0 = some (s, 0) := s1'
    have s2'' : impl_IsSpared.l0 200000 lo hi p xs (xs.length : Int) 0 = some (s, 0) := s2'
    have a1'' : spec_StripOfAll.l0 200000 xs lo hi 0 0 0 = some (a, b, 0) := a1'
    have a2'' : impl_StripOfAll.l0 200000 lo hi 0 0 xs (xs.length : Int) 0 = some (a, b, 0) := a2'
    have i0 : impl_WorstShot.l0 200000 lo hi (-1) (-1) xs (xs.length : Int) 0 = some (q1, q2, 0) := w2'
    have j0 : spec_WorstShot.j0 (199998 + 1 + 1) xs lo hi 0 false = some (q1, q2, 0) := by
     simp only [spec_WorstShot.j0, spec_WorstShot.j1, Bool.false_eq_true, if_false, if_true]
     exact w1'
    simp only [if_true, Option.bind_some, s1'', s2'', a1'', a2'', cz, show spec_WorstShot.j0 200000 xs lo hi 0 false = some (q1, q2, 0) from j0, i0, nn, Bool.false_eq_true, if_false]
    show laws_FnSpared.j0 (199999 + 1) xs lo hi p s 0 a b q1 q2 0 false = _
    simp only [laws_FnSpared.j0, Bool.false_eq_true, if_false, if_true]
    exact L
end Go.Proofs.Ytbleliajcbdijaa.F
namespace Go.Proofs.Ytbleliajcbdijaa.Pure
theorem FnSpared : Go.Proofs.Ytbleliajcbdijaa.F.laws_FnSpared.Pure := Go.Proofs.Ytbleliajcbdijaa.F.pure_FnSpared
end Go.Proofs.Ytbleliajcbdijaa.Pure
namespace Go.Proofs.Ytbleliajcbdijaa.F
end Go.Proofs.Ytbleliajcbdijaa.F
