import Derived.Test.YtcmnkjohofpimaaGlFnExactGapBetween
import Derived.Test.YtcmnkjohofpimaaGq
import Derived.Test.YtcmnkjohofpimaaGqLinkS
import Derived.Test.YtcmnkjohofpimaaFlawsTLink
import Derived.Test.YtcmnkjohofpimaaFspecGapBetween
import Derived.Test.YtcmnkjohofpimaaFimplGapBetween
import Derived.Test.YtcmnkjohofpimaaGvchain
import Derived.Test.YtcmnkjohofpimaaGvindex
import Derived.Test.YtcmnkjohofpimaaFspec0l11Sum
import Derived.Test.YtcmnkjohofpimaaFimpl0burnTimes
namespace Go.Proofs.Ytcmnkjohofpimaa.F
open Go.RowKit Go.Proofs.YtcmnkjohofpimaaW.PrintWords Go.Proofs.YtcmnkjohofpimaaW.PrintLast Go.Proofs.YtcmnkjohofpimaaW.PrintMore
set_option linter.unusedVariables false
set_option linter.unusedSimpArgs false
def lo_at (xs : List S68) (i : Nat) : Int := (li_at xs i).f0
def mo_at (xs : List S68) (i : Nat) : Int := (li_at xs i).f1
theorem sums_le {xs : List S68} (h : isChain xs = true) (a d : Nat) (hd : a + d ≤ xs.length) : (0 ≤ sumC (lo_at xs) a d ∧ sumC (lo_at xs) a d ≤ 2000000) ∧ (0 ≤ sumC (mo_at xs) a d ∧ sumC (mo_at xs) a d ≤ 2000000) := by
  have hs := isChain_true h
  have h1 := sumC_le (g := lo_at xs) (a := a) (B := 100000) d (fun j hj => by have := hs.2 (a + j) (by omega); unfold lo_at; omega)
  have h2 := sumC_le (g := mo_at xs) (a := a) (B := 100000) d (fun j hj => by have := hs.2 (a + j) (by omega); unfold mo_at; omega)
  omega
theorem spec_sum {xs : List S68} (h : isChain xs = true) (a b : Nat) (hab : a ≤ b) (hb : b ≤ xs.length) (k : Nat) (hk : b < k) : spec_l11Sum.f k xs (a : Int) (b : Int) = some (sumC (lo_at xs) a (b - a), sumC (mo_at xs) a (b - a)) := by
  have hs := isChain_true h
  unfold spec_l11Sum.f
  have z := inv_loop (f := fun k i (s : Int × Int) => spec_l11Sum.l0 k xs (b : Int) s.1 s.2 (i : Int)) (S := fun i => (sumC (lo_at xs) a (i - a), sumC (mo_at xs) a (i - a))) (e := some (sumC (lo_at xs) a (b - a), sumC (mo_at xs) a (b - a))) a b (fun k i ha hi => ?_) (fun k => ?_) (b - a) k a (Nat.le_refl _) rfl hab (by omega)
  · simp only [Nat.sub_self] at z
    exact z
  · have h1 := sums_le h a (i - a) (by omega)
    have h2 := hs.2 i (by omega)
    show spec_l11Sum.l0 (k + 1) xs (b : Int) (sumC (lo_at xs) a (i - a)) (sumC (mo_at xs) a (i - a)) (i : Int) = spec_l11Sum.l0 k xs (b : Int) (sumC (lo_at xs) a (i + 1 - a)) (sumC (mo_at xs) a (i + 1 - a)) ((i + 1 : Nat) : Int)
    simp only [spec_l11Sum.l0]
    rw [if_pos (by omega), if_pos (by omega), if_pos (by omega), rd_link, w64 (n := sumC (lo_at xs) a (i - a) + _) (by omega), w64 (n := sumC (mo_at xs) a (i - a) + _) (by omega), w64 (by omega)]
    rw [show i + 1 - a = (i - a) + 1 by omega, sumC_succ, sumC_succ, show a + (i - a) = i by omega]
    rfl
  · show spec_l11Sum.l0 (k + 1) xs (b : Int) _ _ (b : Int) = _
    simp only [spec_l11Sum.l0]
    rw [if_neg (by omega)]
theorem impl_sum {xs : List S68} (h : isChain xs = true) (a b : Nat) (hab : a ≤ b) (hb : b ≤ xs.length) (k : Nat) (hk : b < k) : impl_burnTimes.f k ((xs.take b).drop a) = some (sumC (lo_at xs) a (b - a), sumC (mo_at xs) a (b - a)) := by
  have hs := isChain_true h
  have hl : ((xs.take b).drop a).length = b - a := by rw [List.length_drop, List.length_take]; omega
  have hg : ∀ i, i < b - a → li_at ((xs.take b).drop a) i = li_at xs (a + i) := by
    intro i hi
    unfold li_at
    rw [List.getD_eq_getElem?_getD, List.getD_eq_getElem?_getD, List.getElem?_drop, List.getElem?_take, if_pos (by omega)]
  unfold impl_burnTimes.f
  rw [hl]
  refine inv_loop (f := fun k i (s : Int × Int) => impl_burnTimes.l0 k s.1 s.2 ((xs.take b).drop a) ((b - a : Nat) : Int) (i : Int)) (S := fun i => (sumC (lo_at xs) a i, sumC (mo_at xs) a i)) 0 (b - a) (fun k i ha hi => ?_) (fun k => ?_) (b - a) k 0 (Nat.le_refl _) (by omega) (by omega) (by omega)
  · have h1 := sums_le h a i (by omega)
    have h2 := hs.2 (a + i) (by omega)
    show impl_burnTimes.l0 (k + 1) (sumC (lo_at xs) a i) (sumC (mo_at xs) a i) ((xs.take b).drop a) ((b - a : Nat) : Int) (i : Int) = impl_burnTimes.l0 k (sumC (lo_at xs) a (i + 1)) (sumC (mo_at xs) a (i + 1)) ((xs.take b).drop a) ((b - a : Nat) : Int) ((i + 1 : Nat) : Int)
    simp only [impl_burnTimes.l0]
    rw [if_pos (by omega), if_pos (by omega), if_pos (by omega), rd_link, hg i hi, w64 (n := sumC (lo_at xs) a i + _) (by omega), w64 (n := sumC (mo_at xs) a i + _) (by omega), w64 (by omega)]
    rfl
  · show impl_burnTimes.l0 (k + 1) _ _ ((xs.take b).drop a) ((b - a : Nat) : Int) ((b - a : Nat) : Int) = _
    simp only [impl_burnTimes.l0]
    rw [if_neg (by omega)]
theorem main_FnExactGapBetween (M0 : List S68) (a1 a2 : Int) (hM : M0.length ≤ 1000000) (hP : ∀ x ∈ M0, PrI68 x) (_ : I64 a1) (_ : I64 a2) : ∃ q1 q2 q3, Evt (fun k => spec_GapBetween.f k M0 a1 a2 = some (q1, q2, q3)) ∧ Evt (fun k => impl_GapBetween.f k M0 a1 a2 = some (q1, q2, q3)) := by
  have e1 : wrap64 (wrap64 ((M0.length : Int) + 1) - 1) = (M0.length : Int) := by rw [w64 (n := (M0.length : Int) + 1) (by omega), w64 (by omega)]; omega
  cases h : isChain M0 with
  | false =>
    refine ⟨0, 0, 1, ⟨M0.length + 1, fun k hk => ?_⟩, ⟨M0.length + 1, fun k hk => ?_⟩⟩
    · show spec_GapBetween.f k M0 a1 a2 = _
      unfold spec_GapBetween.f
      rw [spec_chain M0 (by omega) k (by omega), h]; rfl
    · show impl_GapBetween.f k M0 a1 a2 = _
      unfold impl_GapBetween.f
      rw [impl_chain M0 (by omega) k (by omega), h]; rfl
  | true =>
    by_cases hc : 0 ≤ a1 ∧ a1 ≤ a2 ∧ a2 ≤ M0.length
    · obtain ⟨a, rfl⟩ : ∃ n : Nat, a1 = n := ⟨a1.toNat, by omega⟩
      obtain ⟨b, rfl⟩ : ∃ n : Nat, a2 = n := ⟨a2.toNat, by omega⟩
      refine ⟨sumC (lo_at M0) a (b - a), sumC (mo_at M0) a (b - a), 0, ⟨M0.length + 1, fun k hk => ?_⟩, ⟨M0.length + 1, fun k hk => ?_⟩⟩
      · show spec_GapBetween.f k M0 a b = _
        unfold spec_GapBetween.f
        rw [spec_chain M0 (by omega) k (by omega), h]
        simp only [In_eq, Option.bind_some]
        rw [if_pos trivial, inB_true.2 (by omega), if_pos rfl, inB_true.2 (by omega), if_pos rfl, spec_sum h a b (by omega) (by omega) k (by omega)]; rfl
      · show impl_GapBetween.f k M0 a b = _
        unfold impl_GapBetween.f
        rw [impl_chain M0 (by omega) k (by omega), h]
        simp only [index_eq, e1, Option.bind_some]
        rw [if_pos trivial, inB_true.2 (by omega), if_pos rfl, inB_true.2 (by omega), if_pos rfl, if_neg (by omega), if_pos (by omega), if_pos (by omega), if_pos (by omega), Int.toNat_natCast, Int.toNat_natCast, impl_sum h a b (by omega) (by omega) k (by omega)]; rfl
    · refine ⟨0, 0, 2, ⟨M0.length + 1, fun k hk => ?_⟩, ⟨M0.length + 1, fun k hk => ?_⟩⟩
      · show spec_GapBetween.f k M0 a1 a2 = _
        unfold spec_GapBetween.f
        rw [spec_chain M0 (by omega) k (by omega), h]
        simp only [In_eq, Option.bind_some]
        rw [if_pos trivial]
        cases g1 : inB a1 0 (M0.length : Int) with
        | false => rfl
        | true =>
          rw [inB_true] at g1
          rw [if_pos rfl, inB_false.2 (by omega)]; rfl
      · show impl_GapBetween.f k M0 a1 a2 = _
        unfold impl_GapBetween.f
        rw [impl_chain M0 (by omega) k (by omega), h]
        simp only [index_eq, e1, Option.bind_some]
        rw [if_pos trivial]
        cases g1 : inB a1 0 (M0.length : Int) with
        | false => rfl
        | true =>
          rw [inB_true] at g1
          rw [if_pos rfl]
          cases g2 : inB a2 0 (M0.length : Int) with
          | false => rfl
          | true =>
            rw [inB_true] at g2
            rw [if_pos rfl, if_pos (by omega)]
theorem pure_FnExactGapBetween : Pure_FnExactGapBetween := by
  intro l0 a1 a2 n0 p0 b1 b2
  rcases sz_LinkS l0 (1000000) (by omega) (by omega) n0 with ⟨z1, s1⟩ | s1
  rotate_left
  · exact ⟨0, ⟨-1, s1, Or.inl (by omega)⟩⟩
  obtain ⟨L0, t0, ne0, tk0, ln0, le0, rm0, jn0, fu0, to0⟩ := to_LinkS l0 (by omega)
  have eq0 := eq_LinkS L0 (by omega)
  obtain ⟨q1, q2, q3, sp, im⟩ := main_FnExactGapBetween (l0.map conv_LinkS) a1 a2 (by rw [ln0]; omega) (prc_LinkS p0) b1 b2
  obtain ⟨k, hfu0, hto0, heq0, hsp, him⟩ := (fu0.and (to0.and (eq0.and (sp.and im)))).ex
  exact ⟨k, ⟨1000000 - l0.length, s1, Or.inr ⟨by omega, ⟨L0, _, t0, q1, q2, q3, { ne0 := ne0, tk0 := tk0, ln0 := ln0, fu0 := hfu0, rm0 := rm0, jn0 := jn0, eq0 := heq0, sp := hsp, im := him, to0 := hto0 }⟩⟩⟩⟩

end Go.Proofs.Ytcmnkjohofpimaa.F
