import Derived.Test.YtaonanedhmbmpaaGq
import Derived.Test.YtaonanedhmbmpaaGvheight
import Derived.Test.YtaonanedhmbmpaaFspecIsShot
import Derived.Test.YtaonanedhmbmpaaFimplIsShot
import Derived.Test.YtaonanedhmbmpaaFspec0l06Code
import Derived.Test.YtaonanedhmbmpaaFspec0l06Winds
import Derived.Test.YtaonanedhmbmpaaFimpl0areWinds
import Derived.Test.YtaonanedhmbmpaaFspec0l04Drift
import Derived.Test.YtaonanedhmbmpaaFimpl0driftAt
namespace Go.Proofs.Ytaonanedhmbmpaa.F
open Go.RowKit Go.Proofs.YtaonanedhmbmpaaW.PrintWords Go.Proofs.YtaonanedhmbmpaaW.PrintLast Go.Proofs.YtaonanedhmbmpaaW.PrintMore
set_option linter.unusedVariables false
set_option linter.unusedSimpArgs false
def isShot (u s f r : Int) : Bool := inB u 0 200000 && (inB s (-50000) 50000 && (inB f 100 10000 && inB r 0 200000))
def areWinds (lo hi : Int) : Bool := inB lo (-50000) 50000 && inB hi lo 50000
theorem spec_shot (u s f r : Int) : spec_IsShot.f u s f r = some (isShot u s f r) := by
  unfold spec_IsShot.f spec_l04Code.f isShot
  simp only [In_eq, Option.bind_some]
  cases inB u 0 200000 <;> cases inB s (-50000) 50000 <;> cases inB f 100 10000 <;> cases inB r 0 200000 <;> rfl
theorem impl_shot (u s f r : Int) : impl_IsShot.f u s f r = some (isShot u s f r) := by
  unfold impl_IsShot.f impl_isUp.f impl_isSide.f isShot
  simp only [Wi_eq, Option.bind_some]
  cases inB u 0 200000 <;> cases inB s (-50000) 50000 <;> cases inB f 100 10000 <;> cases inB r 0 200000 <;> rfl
theorem spec_winds (lo hi : Int) : spec_l06Winds.f lo hi = some (areWinds lo hi) := by
  unfold spec_l06Winds.f areWinds
  simp only [In_eq, Option.bind_some]
  cases inB lo (-50000) 50000 <;> cases inB hi lo 50000 <;> rfl
theorem impl_winds (lo hi : Int) : impl_areWinds.f lo hi = some (areWinds lo hi) := by
  unfold impl_areWinds.f impl_isSide.f areWinds
  simp only [Wi_eq, Option.bind_some]
  cases h : inB lo (-50000) 50000 with
  | false => rfl
  | true =>
    rw [inB_true] at h
    rw [if_pos rfl, Bool.true_and]
    cases h2 : inB hi (-50000) 50000 with
    | false =>
      rw [inB_false] at h2
      rw [inB_false.2 (by omega)]; rfl
    | true =>
      rw [inB_true] at h2
      rw [if_pos rfl]
      congr 1
      rw [Bool.eq_iff_iff, inB_true, decide_eq_true_iff]
      omega
/-- the code of one shot and a range of winds -/
theorem spec_code1 (u s f r lo hi : Int) (k : Nat) (hk : 1 < k) : spec_l06Code.f k [(⟨u, s, f, r⟩ : S53)] lo hi = some (if isShot u s f r = true then (if areWinds lo hi = true then 0 else 2) else 1) := by
  obtain ⟨k, rfl⟩ : ∃ m, k = m + 1 + 1 := ⟨k - 2, by omega⟩
  have e : (([(⟨u, s, f, r⟩ : S53)] : List S53).length : Int) = 1 := rfl
  have e2 : rd_T53 [(⟨u, s, f, r⟩ : S53)] 0 = ⟨u, s, f, r⟩ := rfl
  have e3 : wrap64 (0 + 1) = 1 := by unfold wrap64; omega
  unfold spec_l06Code.f
  simp only [spec_l06Code.l0]
  rw [e, e2, e3]
  simp only [spec_shot, spec_winds, Option.bind_some]
  cases isShot u s f r <;> cases areWinds lo hi <;> simp
def drift (s wnd t : Int) : Int := (s + wnd) * t / 1000
theorem drift_small {s wnd t : Int} (hs : -50000 ≤ s ∧ s ≤ 50000) (hw : -50000 ≤ wnd ∧ wnd ≤ 50000) (ht : 0 ≤ t ∧ t ≤ 60000) : -6000000000 ≤ (s + wnd) * t ∧ (s + wnd) * t ≤ 6000000000 := by
  have := prod_abs (a := s + wnd) (b := t) (A := 100000) (B := 60000) (by omega) ht
  omega
theorem spec_drift {s wnd t : Int} (hs : -50000 ≤ s ∧ s ≤ 50000) (hw : -50000 ≤ wnd ∧ wnd ≤ 50000) (ht : 0 ≤ t ∧ t ≤ 60000) : spec_l04Drift.f s wnd t = some (drift s wnd t) := by
  have h := drift_small hs hw ht
  unfold spec_l04Drift.f
  rw [w64 (n := s + wnd) (by omega), w64 (by omega), SFl_eq (by omega) (by omega)]
  rfl
theorem impl_drift {s wnd t : Int} (hs : -50000 ≤ s ∧ s ≤ 50000) (hw : -50000 ≤ wnd ∧ wnd ≤ 50000) (ht : 0 ≤ t ∧ t ≤ 60000) : impl_driftAt.f s wnd t = some (drift s wnd t) := by
  have h := drift_small hs hw ht
  unfold impl_driftAt.f
  rw [w64 (n := s + wnd) (by omega), w64 (by omega), Fl_eq (by omega) (by omega)]
  rfl
theorem isShot_true {u s f r : Int} (h : isShot u s f r = true) : (0 ≤ u ∧ u ≤ 200000) ∧ (-50000 ≤ s ∧ s ≤ 50000) ∧ (100 ≤ f ∧ f ≤ 10000) ∧ (0 ≤ r ∧ r ≤ 200000) := by
  unfold isShot at h
  simpa only [Bool.and_eq_true, inB_true] using h
theorem areWinds_true {lo hi : Int} (h : areWinds lo hi = true) : (-50000 ≤ lo ∧ lo ≤ 50000) ∧ lo ≤ hi ∧ hi ≤ 50000 := by
  unfold areWinds at h
  simpa only [Bool.and_eq_true, inB_true] using h

end Go.Proofs.Ytaonanedhmbmpaa.F
