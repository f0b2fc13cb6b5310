import Derived.Test.YtfhpgeohgdfgdaaJFnExactDebrisRange1
import Derived.Test.YtfhpgeohgdfgdaaF0
import Derived.Test.YtfhpgeohgdfgdaaGw
import Derived.Test.YtfhpgeohgdfgdaaRows
import Derived.WalkKit
import Derived.ProofKit
import Derived.OpenShut
import Derived.ShutString
import Derived.ChangeOld
import Derived.Below
import Derived.SizedLaws
namespace Go.Proofs.Ytfhpgeohgdfgdaa.F
open Go.RowKit Go.Proofs.YtfhpgeohgdfgdaaW.PrintWords Go.Proofs.YtfhpgeohgdfgdaaW.PrintLast Go.Proofs.YtfhpgeohgdfgdaaW.PrintMore
set_option linter.unusedVariables false
set_option linter.unusedSimpArgs false
def isShot (u s f r : Int) : Bool := inB u 0 200000 && (inB s (-50000) 50000 && (inB f 100 10000 && inB r 0 200000))
def areWinds (lo hi : Int) : Bool := inB lo (-50000) 50000 && inB hi lo 50000
theorem spec_shot (u s f r : Int) : spec_IsShot.f u s f r = some (isShot u s f r) := by
  unfold spec_IsShot.f spec_l04Code.f isShot
  simp only [In_eq, Option.bind_some]
  cases inB u 0 200000 <;> cases inB s (-50000) 50000 <;> cases inB f 100 10000 <;> cases inB r 0 200000 <;> rfl
theorem impl_shot (u s f r : Int) : impl_IsShot.f u s f r = some (isShot u s f r) := by
  unfold impl_IsShot.f impl_isUp.f impl_isSide.f isShot
  simp only [Wi_eq, Option.bind_some]
  cases inB u 0 200000 <;> cases inB s (-50000) 50000 <;> cases inB f 100 10000 <;> cases inB r 0 200000 <;> rfl
theorem spec_winds (lo hi : Int) : spec_l06Winds.f lo hi = some (areWinds lo hi) := by
  unfold spec_l06Winds.f areWinds
  simp only [In_eq, Option.bind_some]
  cases inB lo (-50000) 50000 <;> cases inB hi lo 50000 <;> rfl
theorem impl_winds (lo hi : Int) : impl_areWinds.f lo hi = some (areWinds lo hi) := by
  unfold impl_areWinds.f impl_isSide.f areWinds
  simp only [Wi_eq, Option.bind_some]
  cases h : inB lo (-50000) 50000 with
  | false => rfl
  | true =>
    rw [inB_true] at h
    rw [if_pos rfl, Bool.true_and]
    cases h2 : inB hi (-50000) 50000 with
    | false =>
      rw [inB_false] at h2
      rw [inB_false.2 (by omega)]; rfl
    | true =>
      rw [inB_true] at h2
      rw [if_pos rfl]
      congr 1
      rw [Bool.eq_iff_iff, inB_true, decide_eq_true_iff]
      omega
/-- the code of one shot and a range of winds -/
theorem spec_code1 (u s f r lo hi : Int) (k : Nat) (hk : 1 < k) : spec_l06Code.f k [(⟨u, s, f, r⟩ : S34)] lo hi = some (if isShot u s f r = true then (if areWinds lo hi = true then 0 else 2) else 1) := by
  obtain ⟨k, rfl⟩ : ∃ m, k = m + 1 + 1 := ⟨k - 2, by omega⟩
  have e : (([(⟨u, s, f, r⟩ : S34)] : List S34).length : Int) = 1 := rfl
  have e2 : rd_T34 [(⟨u, s, f, r⟩ : S34)] 0 = ⟨u, s, f, r⟩ := rfl
  have e3 : wrap64 (0 + 1) = 1 := by unfold wrap64; omega
  unfold spec_l06Code.f
  simp only [spec_l06Code.l0]
  rw [e, e2, e3]
  simp only [spec_shot, spec_winds, Option.bind_some]
  cases isShot u s f r <;> cases areWinds lo hi <;> simp
def drift (s wnd t : Int) : Int := (s + wnd) * t / 1000
theorem drift_small {s wnd t : Int} (hs : -50000 ≤ s ∧ s ≤ 50000) (hw : -50000 ≤ wnd ∧ wnd ≤ 50000) (ht : 0 ≤ t ∧ t ≤ 60000) : -6000000000 ≤ (s + wnd) * t ∧ (s + wnd) * t ≤ 6000000000 := by
  have := prod_abs (a := s + wnd) (b := t) (A := 100000) (B := 60000) (by omega) ht
  omega
theorem spec_drift {s wnd t : Int} (hs : -50000 ≤ s ∧ s ≤ 50000) (hw : -50000 ≤ wnd ∧ wnd ≤ 50000) (ht : 0 ≤ t ∧ t ≤ 60000) : spec_l04Drift.f s wnd t = some (drift s wnd t) := by
  have h := drift_small hs hw ht
  unfold spec_l04Drift.f
  rw [w64 (n := s + wnd) (by omega), w64 (by omega), SFl_eq (by omega) (by omega)]
  rfl
theorem impl_drift {s wnd t : Int} (hs : -50000 ≤ s ∧ s ≤ 50000) (hw : -50000 ≤ wnd ∧ wnd ≤ 50000) (ht : 0 ≤ t ∧ t ≤ 60000) : impl_driftAt.f s wnd t = some (drift s wnd t) := by
  have h := drift_small hs hw ht
  unfold impl_driftAt.f
  rw [w64 (n := s + wnd) (by omega), w64 (by omega), Fl_eq (by omega) (by omega)]
  rfl
theorem isShot_true {u s f r : Int} (h : isShot u s f r = true) : (0 ≤ u ∧ u ≤ 200000) ∧ (-50000 ≤ s ∧ s ≤ 50000) ∧ (100 ≤ f ∧ f ≤ 10000) ∧ (0 ≤ r ∧ r ≤ 200000) := by
  unfold isShot at h
  simpa only [Bool.and_eq_true, inB_true] using h
theorem areWinds_true {lo hi : Int} (h : areWinds lo hi = true) : (-50000 ≤ lo ∧ lo ≤ 50000) ∧ lo ≤ hi ∧ hi ≤ 50000 := by
  unfold areWinds at h
  simpa only [Bool.and_eq_true, inB_true] using h

end Go.Proofs.Ytfhpgeohgdfgdaa.F

namespace Go.Proofs.Ytfhpgeohgdfgdaa.F
open Go.RowKit Go.Proofs.YtfhpgeohgdfgdaaW.PrintWords Go.Proofs.YtfhpgeohgdfgdaaW.PrintLast Go.Proofs.YtfhpgeohgdfgdaaW.PrintMore
set_option linter.unusedVariables false
set_option linter.unusedSimpArgs false
/-- both burst ranges -/
theorem burst_both {u s f r lo hi : Int} (h : isShot u s f r = true) (hw : areWinds lo hi = true) : ∃ t top, IsTop u t top ∧ (∀ k, 30000 ≤ k → spec_l06Burst.f k u s f r lo hi = some (drift s lo t, drift s hi t)) ∧ ∀ k, 30000 ≤ k → impl_burstRange.f k u s f r lo hi = some (drift s lo t, drift s hi t) := by
  obtain ⟨h1, h2, h3, h4⟩ := isShot_true h
  obtain ⟨w1, w2, w3⟩ := areWinds_true hw
  obtain ⟨t, top, ht, hs, hi'⟩ := top_both h1
  have hr := top_range h1 ht
  refine ⟨t, top, ht, fun k hk => ?_, fun k hk => ?_⟩
  · unfold spec_l06Burst.f
    rw [hs k hk]
    simp only [Option.bind_some]
    rw [spec_drift h2 w1 (by omega), spec_drift h2 (by omega) (by omega)]; rfl
  · unfold impl_burstRange.f
    rw [hi' k hk]
    simp only [Option.bind_some]
    rw [impl_drift h2 w1 (by omega), impl_drift h2 (by omega) (by omega)]; rfl

end Go.Proofs.Ytfhpgeohgdfgdaa.F

namespace Go.Proofs.Ytfhpgeohgdfgdaa.F
open Go.RowKit Go.Proofs.YtfhpgeohgdfgdaaW.PrintWords Go.Proofs.YtfhpgeohgdfgdaaW.PrintLast Go.Proofs.YtfhpgeohgdfgdaaW.PrintMore
set_option linter.unusedVariables false
set_option linter.unusedSimpArgs false
theorem ceil_eq {a b : Int} (hb : 0 < b) : -((-a) / b) = (a + b - 1) / b := by
  have h1 := Int.emod_nonneg (-a) (show b ≠ 0 by omega)
  have h2 := Int.emod_lt_of_pos (-a) hb
  have h3 := Int.mul_ediv_add_emod (-a) b
  have h4 : (a + b - 1) / b = -((-a) / b) ∧ (a + b - 1) % b = b - 1 - (-a) % b := (Int.ediv_emod_unique hb).2 (by
    rw [Int.mul_neg]
    refine ⟨by omega, by omega, by omega⟩)
  exact h4.1.symm
theorem Ce_eq {a b : Int} (hb : 0 < b) (ha : -4611686018427387904 ≤ a ∧ a ≤ 4611686018427387904) : spec_l01Ceil.f a b = some (-((-a) / b)) := by
  have hs := ediv_small (a := -a) hb (by omega)
  unfold spec_l01Ceil.f
  rw [w64 (n := -a) (by omega), SFl_eq hb (by omega)]
  simp only [Option.bind_some]
  rw [w64 (by omega)]
theorem Cd_eq {a b : Int} (hb : 0 < b ∧ b ≤ 1000000) (ha : 0 ≤ a ∧ a ≤ 4611686018427387904) : impl_ceilDiv.f a b = some ((a + b - 1) / b) := by
  have h1 := Int.ediv_le_self b (show 0 ≤ a + b - 1 by omega)
  have h2 := Int.ediv_nonneg (show 0 ≤ a + b - 1 by omega) (show 0 ≤ b by omega)
  unfold impl_ceilDiv.f
  rw [if_neg (by omega), w64 (n := a + b) (by omega), w64 (n := a + b - 1) (by omega), Int.tdiv_eq_ediv_of_nonneg (by omega), w64 (by omega)]
def dTime (u f : Int) : Int := (1000 * vTop u + f - 1) / f
theorem dTime_range {u f : Int} (hu : 0 ≤ u ∧ u ≤ 200000) (hf : 100 ≤ f ∧ f ≤ 10000) : 0 ≤ dTime u f ∧ dTime u f ≤ 120002100 := by
  have ht := tTop_range hu
  unfold dTime
  refine ⟨Int.ediv_nonneg (by omega) (by omega), ?_⟩
  have h1 : (1000 * vTop u + f - 1) / f ≤ (1000 * vTop u + f - 1) / 100 := by
    have a : 100 * ((1000 * vTop u + f - 1) / f) ≤ f * ((1000 * vTop u + f - 1) / f) := Int.mul_le_mul_of_nonneg_right hf.1 (Int.ediv_nonneg (by omega) (by omega))
    have b := Int.mul_ediv_self_le (x := 1000 * vTop u + f - 1) (k := f) (by omega)
    omega
  omega
theorem time_both {u s f r : Int} (h : isShot u s f r = true) : (∀ k, 30000 ≤ k → spec_l06Time.f k u s f r = some (dTime u f)) ∧ (∀ k, 30000 ≤ k → impl_debrisTime.f k u s f r = some (dTime u f)) := by
  obtain ⟨h1, h2, h3, h4⟩ := isShot_true h
  have ht := tTop_range h1
  have hi := top_is h1
  refine ⟨fun k hk => ?_, fun k hk => ?_⟩
  · unfold spec_l06Time.f
    rw [hi.2.1 k hk]
    simp only [Option.bind_some]
    rw [w64 (n := 1000 * vTop u) (by omega), Ce_eq (by omega) (by omega), ceil_eq (by omega)]; rfl
  · unfold impl_debrisTime.f
    rw [hi.2.2 k hk]
    simp only [Option.bind_some]
    rw [w64 (n := 1000 * vTop u) (by omega), Cd_eq (by omega) (by omega)]; rfl
def dbLo (u s f r lo : Int) : Int := drift s lo (tTop u) + lo * dTime u f / 1000 - r
def dbHi (u s f r hi : Int) : Int := drift s hi (tTop u) - (-hi) * dTime u f / 1000 + r
theorem burst_is {u s f r lo hi : Int} (h : isShot u s f r = true) (hw : areWinds lo hi = true) : (∀ k, 30000 ≤ k → spec_l06Burst.f k u s f r lo hi = some (drift s lo (tTop u), drift s hi (tTop u))) ∧ ∀ k, 30000 ≤ k → impl_burstRange.f k u s f r lo hi = some (drift s lo (tTop u), drift s hi (tTop u)) := by
  obtain ⟨h1, h2, h3, h4⟩ := isShot_true h
  obtain ⟨w1, w2, w3⟩ := areWinds_true hw
  obtain ⟨_, hs, hi'⟩ := top_is h1
  have hr := tTop_range h1
  refine ⟨fun k hk => ?_, fun k hk => ?_⟩
  · unfold spec_l06Burst.f
    rw [hs k hk]
    simp only [Option.bind_some]
    rw [spec_drift h2 w1 (by omega), spec_drift h2 (by omega) (by omega)]; rfl
  · unfold impl_burstRange.f
    rw [hi' k hk]
    simp only [Option.bind_some]
    rw [impl_drift h2 w1 (by omega), impl_drift h2 (by omega) (by omega)]; rfl
theorem drift_range {s wnd t : Int} (hs : -50000 ≤ s ∧ s ≤ 50000) (hw : -50000 ≤ wnd ∧ wnd ≤ 50000) (ht : 0 ≤ t ∧ t ≤ 60000) : -6000000 ≤ drift s wnd t ∧ drift s wnd t ≤ 6000000 := by
  have h := drift_small hs hw ht
  unfold drift
  omega
theorem debris_small {u s f r lo : Int} (h : isShot u s f r = true) (hl : -50000 ≤ lo ∧ lo ≤ 50000) : (-6000105000000 ≤ lo * dTime u f ∧ lo * dTime u f ≤ 6000105000000) ∧ (-6000000 ≤ drift s lo (tTop u) ∧ drift s lo (tTop u) ≤ 6000000) := by
  obtain ⟨h1, h2, h3, h4⟩ := isShot_true h
  have hd := dTime_range h1 h3
  have ht := tTop_range h1
  have := prod_abs (a := lo) (b := dTime u f) (A := 50000) (B := 120002100) hl hd
  exact ⟨by omega, drift_range h2 hl (by omega)⟩
theorem debris_range {u s f r lo hi : Int} (h : isShot u s f r = true) (hw : areWinds lo hi = true) : (-7000000000 ≤ dbLo u s f r lo ∧ dbLo u s f r lo ≤ 7000000000) ∧ (-7000000000 ≤ dbHi u s f r hi ∧ dbHi u s f r hi ≤ 7000000000) := by
  obtain ⟨h1, h2, h3, h4⟩ := isShot_true h
  obtain ⟨w1, w2, w3⟩ := areWinds_true hw
  have a := debris_small h w1
  have b := debris_small h (lo := hi) (by omega)
  unfold dbLo dbHi
  rw [Int.neg_mul]
  omega
theorem debris_is {u s f r lo hi : Int} (h : isShot u s f r = true) (hw : areWinds lo hi = true) : (∀ k, 30000 ≤ k → spec_l06Debris.f k u s f r lo hi = some (dbLo u s f r lo, dbHi u s f r hi)) ∧ ∀ k, 30000 ≤ k → impl_debrisRange.f k u s f r lo hi = some (dbLo u s f r lo, dbHi u s f r hi) := by
  obtain ⟨h1, h2, h3, h4⟩ := isShot_true h
  obtain ⟨w1, w2, w3⟩ := areWinds_true hw
  have a := debris_small h w1
  have b := debris_small h (lo := hi) (by omega)
  obtain ⟨bs, bi⟩ := burst_is h hw
  obtain ⟨ts, ti⟩ := time_both h
  have en : (-hi) * dTime u f = -(hi * dTime u f) := Int.neg_mul _ _
  refine ⟨fun k hk => ?_, fun k hk => ?_⟩
  · unfold spec_l06Debris.f
    rw [bs k hk, ts k hk]
    simp only [Option.bind_some]
    rw [w64 (n := lo * dTime u f) (by omega), w64 (n := hi * dTime u f) (by omega), SFl_eq (by omega) (by omega), Ce_eq (by omega) (by omega)]
    simp only [Option.bind_some]
    rw [w64 (n := drift s lo (tTop u) + _) (by omega), w64 (n := drift s lo (tTop u) + _ - r) (by omega), w64 (n := drift s hi (tTop u) + _) (by omega), w64 (by omega)]
    unfold dbLo dbHi
    rw [en]
    congr 2 <;> omega
  · unfold impl_debrisRange.f
    rw [bi k hk, ti k hk]
    simp only [Option.bind_some]
    rw [w64 (n := lo * dTime u f) (by omega), w64 (n := -hi) (by omega), w64 (n := (-hi) * dTime u f) (by omega), Fl_eq (by omega) (by omega), Fl_eq (by omega) (by omega)]
    simp only [Option.bind_some]
    rw [w64 (n := drift s lo (tTop u) + _) (by omega), w64 (n := drift s lo (tTop u) + _ - r) (by omega), w64 (n := drift s hi (tTop u) - _) (by omega), w64 (by omega)]
    rfl

end Go.Proofs.Ytfhpgeohgdfgdaa.F

namespace Go.Proofs.Ytfhpgeohgdfgdaa.F
open Go.RowKit Go.Proofs.YtfhpgeohgdfgdaaW.PrintWords Go.Proofs.YtfhpgeohgdfgdaaW.PrintLast Go.Proofs.YtfhpgeohgdfgdaaW.PrintMore
set_option linter.unusedVariables false
set_option linter.unusedSimpArgs false
theorem main_FnExactDebrisRange (u s f r lo hi : Int) (_ : I64 u) (_ : I64 s) (_ : I64 f) (_ : I64 r) (_ : I64 lo) (_ : I64 hi) : ∃ q1 q2 q3, Evt (fun k => spec_DebrisRange.f k u s f r lo hi = some (q1, q2, q3)) ∧ Evt (fun k => impl_DebrisRange.f k u s f r lo hi = some (q1, q2, q3)) := by
  cases h : isShot u s f r with
  | false =>
    refine ⟨0, 0, 1, ⟨2, fun k hk => ?_⟩, ⟨0, fun k hk => ?_⟩⟩
    · show spec_DebrisRange.f k u s f r lo hi = _
      unfold spec_DebrisRange.f
      rw [spec_code1 _ _ _ _ _ _ k (by omega), h]; rfl
    · show impl_DebrisRange.f k u s f r lo hi = _
      unfold impl_DebrisRange.f
      rw [impl_shot, h]; rfl
  | true =>
    cases hw : areWinds lo hi with
    | false =>
      refine ⟨0, 0, 2, ⟨2, fun k hk => ?_⟩, ⟨0, fun k hk => ?_⟩⟩
      · show spec_DebrisRange.f k u s f r lo hi = _
        unfold spec_DebrisRange.f
        rw [spec_code1 _ _ _ _ _ _ k (by omega), h, hw]; rfl
      · show impl_DebrisRange.f k u s f r lo hi = _
        unfold impl_DebrisRange.f
        rw [impl_shot, h, impl_winds, hw]; rfl
    | true =>
      obtain ⟨hs, hi'⟩ := debris_is h hw
      refine ⟨dbLo u s f r lo, dbHi u s f r hi, 0, ⟨30000, fun k hk => ?_⟩, ⟨30000, fun k hk => ?_⟩⟩
      · show spec_DebrisRange.f k u s f r lo hi = _
        unfold spec_DebrisRange.f
        rw [spec_code1 _ _ _ _ _ _ k (by omega), h, hw, hs k hk]; rfl
      · show impl_DebrisRange.f k u s f r lo hi = _
        unfold impl_DebrisRange.f
        rw [impl_shot, h, impl_winds, hw, hi' k hk]; rfl
theorem pure_FnExactDebrisRange : Pure_FnExactDebrisRange := by
  intro a0_0 a0_1 a0_2 a0_3 a1 a2 b0_0 b0_1 b0_2 b0_3 b1 b2
  obtain ⟨q1, q2, q3, sp, im⟩ := main_FnExactDebrisRange a0_0 a0_1 a0_2 a0_3 a1 a2 b0_0 b0_1 b0_2 b0_3 b1 b2
  obtain ⟨k, hsp, him⟩ := (sp.and im).ex
  exact ⟨k, ⟨q1, q2, q3, { to0 := rfl, sp := hsp, im := him }⟩⟩

end Go.Proofs.Ytfhpgeohgdfgdaa.F

/- The law FnExactDebrisRange holds for every input: it returns true, and each argument reads afterwards as it read before. No conditions. -/
namespace Go.Proofs.Ytfhpgeohgdfgdaa.fnExactDebrisRange
open Go.ChangeShapes Go.WideShapes Go.ChangeAt Go.RowKit Go.Proofs.Ytfhpgeohgdfgdaa.F Go.Proofs.YtfhpgeohgdfgdaaW.PrintWords
open Go.ChangeMaps (open_string shut_string)
set_option linter.unusedVariables false
theorem own : ownKnob Try.prog.godebug = none := by kernel_rfl
theorem laidOut : laidOutB Try.prog = true := by kernel_rfl
set_option maxRecDepth 100000 in
theorem lifted (os : Os) (started : os.Started) (H : Type) (enc : TypeId × Value → H) :
    ReturnsInHanded {} Try.checked os 4 .any (Rows.fnExactDebrisRangeSpec.pre6 enc Try.prog Try.f4 Rows.fnExactDebrisRangeRow.domain false) (Rows.fnExactDebrisRangeSpec.post enc Try.prog Try.f4 false true false false) := by
  refine returnsInHanded_of_change_sized (C := Try.checked) own started (by kernel_rfl) Try.func4
    (ChangeSpec.witness6 (enc := enc) (C := Try.checked) false ⟨#[], #[.agg #[.int .i64 0, .int .i64 0, .int .i64 0, .int .i64 0], .int .i64 0, .int .i64 0], []⟩ 8 (by kernel_rfl) (by kernel_rfl) (by kernel_rfl) (by kernel_rfl)) ?_
  intro W base args ds gs before hval0 hW hcnd hsz0 _
  have hval : ∀ (j : Nat) t v, Try.f4.params[j]? = some t → args[j]? = some v → Value.okWide Try.prog W .any base t v := hval0
  have hW' := hW
  obtain ⟨p, q, hA0, hV, rfl, hfz, hnd⟩ := hW
  have hA : DataW.TrodAll enc Try.prog W 0 (fun _ => true) true Try.f4.params.toList args.toList ds p := hA0
  rw [Try.params4] at hA hval
  obtain ⟨v0, vs0, d0, ds0, p0, q0, hargs, rfl, rfl, h0, r0⟩ := trodAll_cons hA
  obtain ⟨v1, vs1, d1, ds1, p1, q1, rfl, rfl, rfl, h1, r1⟩ := trodAll_cons r0
  obtain ⟨v2, vs2, d2, ds2, p2, q2, rfl, rfl, rfl, h2, r2⟩ := trodAll_cons r1
  obtain ⟨rfl, rfl, rfl⟩ := trodAll_nil r2
  obtain rfl : args = #[v0, v1, v2] := by cases args; simp_all
  obtain ⟨rfl, rfl⟩ := trodVars_none hV
  have k0 := h0
  have lt0 : ∀ x ∈ p0, x.block < W.heap.size := by obtain ⟨m, hm⟩ := k0; exact DataW.trod_lt m _ _ _ hm
  obtain ⟨cs0, rfl, _⟩ := okWide_struct Try.underlying31 (hval 0 31 v0 rfl rfl)
  obtain ⟨a0_0, a0_1, a0_2, a0_3, rfl, w0_0, w0_1, w0_2, w0_3⟩ : ∃ (z0 : Int) (z1 : Int) (z2 : Int) (z3 : Int), cs0 = #[.int .i64 z0, .int .i64 z1, .int .i64 z2, .int .i64 z3] ∧ I64 z0 ∧ I64 z1 ∧ I64 z2 ∧ I64 z3 := by
    obtain ⟨fuel, hf⟩ := h0
    obtain ⟨z0, z1, z2, z3, hcs, hp⟩ := open_V31 hf
    simp only [Value.cells] at hcs
    exact ⟨z0, z1, z2, z3, by rw [← hcs], hp⟩
  obtain ⟨a1, rfl, rfl, rfl, w1⟩ := open_int Try.underlying2 (hval 1 2 v1 rfl rfl) h1
  obtain ⟨a2, rfl, rfl, rfl, w2⟩ := open_int Try.underlying2 (hval 2 2 v2 rfl rfl) h2
  obtain ⟨k, hk⟩ := pure_FnExactDebrisRange a0_0 a0_1 a0_2 a0_3 a1 a2 w0_0 w0_1 w0_2 w0_3 (I64_of w1) (I64_of w2)
  refine (law_FnExactDebrisRange k a0_0 a0_1 a0_2 a0_3 a1 a2 W  hk).mono fun e W' ⟨he, bel⟩ => ?_
  subst he
  exact ⟨_, rfl, _, _, _, [], _, [], hW', trodAll_mk1 (shut_bool Try.underlying4 _), (trodAll_cons_mk (Below.trod laidOut (by kernel_rfl) (of_decide_eq_true (by kernel_rfl)) k0 bel lt0) (trodAll_cons_mk (shut_int Try.underlying2 w1) (trodAll_cons_mk (shut_int Try.underlying2 w2) trodAll_mk0))), rfl, bel.frame _, fun h => by cases h⟩
theorem over : Rows.fnExactDebrisRangeRow.holds Try.pinned (OpenSpec.ofChange Rows.fnExactDebrisRangeSpec) :=
  OpenClaim.holds_of_wide 4 Try.f4 rfl rfl rfl rfl rfl rfl rfl ⟨rfl, rfl, rfl, rfl, rfl⟩ rfl rfl rfl rfl rfl (by kernel_rfl) Try.func4 (by kernel_rfl)
    (of_decide_eq_true (by kernel_rfl)) (by unfold Func.isWrapper; first | (rw [if_pos (by decide +kernel)]; kernel_rfl) | (rw [if_neg (by decide +kernel)]; exact ⟨rfl, rfl⟩))
    (fun os started H enc _ => lifted os started H enc)
theorem proved : Rows.FnExactDebrisRangeSaid := over
end Go.Proofs.Ytfhpgeohgdfgdaa.fnExactDebrisRange
namespace Go.Proofs.Ytfhpgeohgdfgdaa
/-- The row, under a short name, for the claim. -/
theorem fnExactDebrisRange_holds : Rows.FnExactDebrisRangeSaid := fnExactDebrisRange.proved
#print axioms fnExactDebrisRange_holds
end Go.Proofs.Ytfhpgeohgdfgdaa
