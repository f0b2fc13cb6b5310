import Derived.Test.YtipgcjonidlloaaGq
import Derived.Test.YtipgcjonidlloaaGvfuses
import Derived.Test.YtipgcjonidlloaaFspec0l10Times
import Derived.Test.YtipgcjonidlloaaFimpl0litTimes
namespace Go.Proofs.Ytipgcjonidlloaa.F
open Go.RowKit Go.Proofs.YtipgcjonidlloaaW.PrintWords Go.Proofs.YtipgcjonidlloaaW.PrintLast Go.Proofs.YtipgcjonidlloaaW.PrintMore
set_option linter.unusedVariables false
set_option linter.unusedSimpArgs false
theorem areFuses_true {n : Int} {xs : List S44} (h : areFuses n xs = true) : ∃ m : Nat, n = (m : Int) ∧ 1 ≤ m ∧ m ≤ 10 ∧ xs.length ≤ 20 ∧ ∀ i, i < xs.length → 0 ≤ (fu_at xs i).f0 ∧ (fu_at xs i).f0 < (fu_at xs i).f1 ∧ (fu_at xs i).f1 < (m : Int) ∧ 0 ≤ (fu_at xs i).f2 ∧ (fu_at xs i).f2 ≤ (fu_at xs i).f3 ∧ (fu_at xs i).f3 ≤ 100000 := by
  unfold areFuses at h
  rw [Bool.and_eq_true, Bool.and_eq_true, allF_true, inB_true, decide_eq_true_iff] at h
  obtain ⟨h1, h2, h3⟩ := h
  refine ⟨n.toNat, by omega, by omega, by omega, by omega, fun i hi => ?_⟩
  have := h1 i (by omega) (by omega)
  unfold fuseAt at this
  rw [Bool.and_eq_true, Bool.and_eq_true, Bool.and_eq_true, inB_true, inB_true, inB_true, inB_true, w64 (by omega)] at this
  obtain ⟨a, b, c, d⟩ := this
  rw [w64 (by omega)] at b
  omega
theorem set0 (xs : List Int) (v : Nat) (y : Int) (h : 0 < v) : (xs.set v y).getD 0 0 = xs.getD 0 0 := by
  rw [List.getD_eq_getElem?_getD, List.getD_eq_getElem?_getD, List.getElem?_set_ne (by omega)]
/-- a round over a fuse: both go on with the same lists -/
theorem tstep {m : Nat} {xs : List S44} (hx : xs.length ≤ 20) (E L : List Int) (hE : E.length = m) (hL : L.length = m) (v i : Nat) (h0 : 0 < v) (hv : v < m) (hi : i < xs.length) (hf : 0 ≤ (fu_at xs i).f0 ∧ (fu_at xs i).f0 < (m : Int)) :
    ∃ E' L' b, 2 ≤ b ∧ b ≤ 3 ∧ E'.length = m ∧ L'.length = m ∧ E'.getD 0 0 = E.getD 0 0 ∧ (∀ k, spec_l10Times.l1 (k + b) (m : Int) xs E L (v : Int) (i : Int) = spec_l10Times.l1 k (m : Int) xs E' L' (v : Int) ((i + 1 : Nat) : Int)) ∧ (∀ k, impl_litTimes.l1 (k + b) (m : Int) xs E L (v : Int) xs (xs.length : Int) (i : Int) = impl_litTimes.l1 k (m : Int) xs E' L' (v : Int) xs (xs.length : Int) ((i + 1 : Nat) : Int)) := by
  have g1 : (i : Int) < (xs.length : Int) := by omega
  have g2 : 0 ≤ (i : Int) := by omega
  have hw : wrap64 ((i : Int) + 1) = ((i + 1 : Nat) : Int) := w64 (by omega)
  have v0 : 0 ≤ (v : Int) := by omega
  have vE : (v : Int) < (E.length : Int) := by omega
  have vL : (v : Int) < (L.length : Int) := by omega
  have fE : (fu_at xs i).f0 < (E.length : Int) := by omega
  have fL : (fu_at xs i).f0 < (L.length : Int) := by omega
  have f0 := hf.1
  have et : ((v : Int)).toNat = v := Int.toNat_natCast v
  have lE : ∀ y, (E.set v y).length = m := fun y => by rw [List.length_set]; exact hE
  have lL : ∀ y, (L.set v y).length = m := fun y => by rw [List.length_set]; exact hL
  by_cases c1 : (fu_at xs i).f1 = (v : Int)
  · by_cases c2 : rd E (fu_at xs i).f0 < 0
    · refine ⟨E, L, 2, by omega, by omega, hE, hL, rfl, fun k => ?_, fun k => ?_⟩
      · simp only [spec_l10Times.l1, spec_l10Times.j2, rd_fuse, if_pos g1, if_pos g2, if_pos c1, if_pos f0, if_pos fE, decide_eq_true c2, if_true, hw]
      · simp only [impl_litTimes.l1, impl_litTimes.j2, rd_fuse, if_pos g1, if_pos g2, if_pos c1, if_pos f0, if_pos fE, decide_eq_true c2, if_true, hw]
    · -- the early time
      by_cases c3 : rd E (v : Int) < 0 ∨ wrap64 (rd E (fu_at xs i).f0 + (fu_at xs i).f2) < rd E (v : Int)
      · by_cases c4 : rd L (v : Int) < 0 ∨ wrap64 (rd L (fu_at xs i).f0 + (fu_at xs i).f3) < rd L (v : Int)
        · refine ⟨E.set v (wrap64 (rd E (fu_at xs i).f0 + (fu_at xs i).f2)), L.set v (wrap64 (rd L (fu_at xs i).f0 + (fu_at xs i).f3)), 3, by omega, by omega, lE _, lL _, set0 _ _ _ h0, fun k => ?_, fun k => ?_⟩
          · rcases Classical.em (rd E (v : Int) < 0) with d3 | d3 <;> rcases Classical.em (rd L (v : Int) < 0) with d4 | d4 <;>
              simp only [d3, d4, false_or, true_or] at c3 c4 <;>
              simp only [spec_l10Times.l1, spec_l10Times.j2, spec_l10Times.j3, rd_fuse, if_pos g1, if_pos g2, if_pos c1, if_pos f0, if_pos fE, if_pos fL, if_pos vE, if_pos vL, if_pos v0, decide_eq_false c2, d3, d4, c3, c4, decide_true, if_true, if_false, Bool.false_eq_true, hw, et, Option.bind_some]
          · rcases Classical.em (rd E (v : Int) < 0) with d3 | d3 <;> rcases Classical.em (rd L (v : Int) < 0) with d4 | d4 <;>
              simp only [d3, d4, false_or, true_or] at c3 c4 <;>
              simp only [impl_litTimes.l1, impl_litTimes.j2, impl_litTimes.j3, rd_fuse, if_pos g1, if_pos g2, if_pos c1, if_pos f0, if_pos fE, if_pos fL, if_pos vE, if_pos vL, if_pos v0, decide_eq_false c2, d3, d4, c3, c4, decide_true, if_true, if_false, Bool.false_eq_true, hw, et, Option.bind_some]
        · rw [not_or] at c4
          refine ⟨E.set v (wrap64 (rd E (fu_at xs i).f0 + (fu_at xs i).f2)), L, 3, by omega, by omega, lE _, hL, set0 _ _ _ h0, fun k => ?_, fun k => ?_⟩
          · rcases Classical.em (rd E (v : Int) < 0) with d3 | d3 <;>
              simp only [d3, false_or, true_or] at c3 <;>
              simp only [spec_l10Times.l1, spec_l10Times.j2, spec_l10Times.j3, rd_fuse, if_pos g1, if_pos g2, if_pos c1, if_pos f0, if_pos fE, if_pos fL, if_pos vE, if_pos vL, if_pos v0, decide_eq_false c2, d3, c3, c4.1, c4.2, decide_true, if_true, if_false, Bool.false_eq_true, hw, et, Option.bind_some]
          · rcases Classical.em (rd E (v : Int) < 0) with d3 | d3 <;>
              simp only [d3, false_or, true_or] at c3 <;>
              simp only [impl_litTimes.l1, impl_litTimes.j2, impl_litTimes.j3, rd_fuse, if_pos g1, if_pos g2, if_pos c1, if_pos f0, if_pos fE, if_pos fL, if_pos vE, if_pos vL, if_pos v0, decide_eq_false c2, d3, c3, c4.1, c4.2, decide_true, if_true, if_false, Bool.false_eq_true, hw, et, Option.bind_some]
      · rw [not_or] at c3
        by_cases c4 : rd L (v : Int) < 0 ∨ wrap64 (rd L (fu_at xs i).f0 + (fu_at xs i).f3) < rd L (v : Int)
        · refine ⟨E, L.set v (wrap64 (rd L (fu_at xs i).f0 + (fu_at xs i).f3)), 3, by omega, by omega, hE, lL _, rfl, fun k => ?_, fun k => ?_⟩
          · rcases Classical.em (rd L (v : Int) < 0) with d4 | d4 <;>
              simp only [d4, false_or, true_or] at c4 <;>
              simp only [spec_l10Times.l1, spec_l10Times.j2, spec_l10Times.j3, rd_fuse, if_pos g1, if_pos g2, if_pos c1, if_pos f0, if_pos fE, if_pos fL, if_pos vE, if_pos vL, if_pos v0, decide_eq_false c2, c3.1, c3.2, d4, c4, decide_true, decide_false, if_true, if_false, Bool.false_eq_true, hw, et, Option.bind_some]
          · rcases Classical.em (rd L (v : Int) < 0) with d4 | d4 <;>
              simp only [d4, false_or, true_or] at c4 <;>
              simp only [impl_litTimes.l1, impl_litTimes.j2, impl_litTimes.j3, rd_fuse, if_pos g1, if_pos g2, if_pos c1, if_pos f0, if_pos fE, if_pos fL, if_pos vE, if_pos vL, if_pos v0, decide_eq_false c2, c3.1, c3.2, d4, c4, decide_true, decide_false, if_true, if_false, Bool.false_eq_true, hw, et, Option.bind_some]
        · rw [not_or] at c4
          refine ⟨E, L, 3, by omega, by omega, hE, hL, rfl, fun k => ?_, fun k => ?_⟩
          · simp only [spec_l10Times.l1, spec_l10Times.j2, spec_l10Times.j3, rd_fuse, if_pos g1, if_pos g2, if_pos c1, if_pos f0, if_pos fE, if_pos fL, if_pos vE, if_pos vL, if_pos v0, decide_eq_false c2, c3.1, c3.2, c4.1, c4.2, decide_true, decide_false, if_true, if_false, Bool.false_eq_true, hw, et, Option.bind_some]
          · simp only [impl_litTimes.l1, impl_litTimes.j2, impl_litTimes.j3, rd_fuse, if_pos g1, if_pos g2, if_pos c1, if_pos f0, if_pos fE, if_pos fL, if_pos vE, if_pos vL, if_pos v0, decide_eq_false c2, c3.1, c3.2, c4.1, c4.2, decide_true, decide_false, if_true, if_false, Bool.false_eq_true, hw, et, Option.bind_some]
  · refine ⟨E, L, 2, by omega, by omega, hE, hL, rfl, fun k => ?_, fun k => ?_⟩
    · simp only [spec_l10Times.l1, spec_l10Times.j2, rd_fuse, if_pos g1, if_pos g2, if_neg c1, if_true, hw]
    · simp only [impl_litTimes.l1, impl_litTimes.j2, rd_fuse, if_pos g1, if_pos g2, if_neg c1, if_true, hw]
/-- both tell the same times -/
theorem times_in {m : Nat} {xs : List S44} (hx : xs.length ≤ 20) (hm : m ≤ 10) (hf : ∀ i, i < xs.length → 0 ≤ (fu_at xs i).f0 ∧ (fu_at xs i).f0 < (m : Int)) (v : Nat) (h0 : 0 < v) (hv : v < m)
    (hnext : ∀ E L : List Int, E.length = m → L.length = m → E.getD 0 0 = 0 → ∃ E' L' : List Int, E'.length = m ∧ L'.length = m ∧ E'.getD 0 0 = 0 ∧ Evt (fun k => spec_l10Times.l0 k (m : Int) xs E L ((v + 1 : Nat) : Int) = some (E', L')) ∧ Evt (fun k => impl_litTimes.l0 k (m : Int) xs E L ((v + 1 : Nat) : Int) = some (E', L'))) :
    ∀ (d i : Nat) (E L : List Int), xs.length - i = d → i ≤ xs.length → E.length = m → L.length = m → E.getD 0 0 = 0 → ∃ E' L' : List Int, E'.length = m ∧ L'.length = m ∧ E'.getD 0 0 = 0 ∧ Evt (fun k => spec_l10Times.l1 k (m : Int) xs E L (v : Int) (i : Int) = some (E', L')) ∧ Evt (fun k => impl_litTimes.l1 k (m : Int) xs E L (v : Int) xs (xs.length : Int) (i : Int) = some (E', L')) := by
  intro d
  induction d with
  | zero =>
    intro i E L hd hi hE hL h00
    obtain ⟨E', L', e1, e2, e3, ⟨K, hs⟩, ⟨K', ht⟩⟩ := hnext E L hE hL h00
    refine ⟨E', L', e1, e2, e3, ⟨K + 1, fun k hk => ?_⟩, ⟨K' + 1, fun k hk => ?_⟩⟩
    · obtain ⟨k, rfl⟩ : ∃ m, k = m + 1 := ⟨k - 1, by omega⟩
      show spec_l10Times.l1 (k + 1) (m : Int) xs E L (v : Int) (i : Int) = _
      simp only [spec_l10Times.l1]
      rw [if_neg (by omega), w64 (by omega)]
      exact hs k (by omega)
    · obtain ⟨k, rfl⟩ : ∃ m, k = m + 1 := ⟨k - 1, by omega⟩
      show impl_litTimes.l1 (k + 1) (m : Int) xs E L (v : Int) xs (xs.length : Int) (i : Int) = _
      simp only [impl_litTimes.l1]
      rw [if_neg (by omega), w64 (by omega)]
      exact ht k (by omega)
  | succ d ih =>
    intro i E L hd hi hE hL h00
    obtain ⟨E1, L1, b, b2, b3, l1, l2, l3, f1, f2⟩ := tstep hx E L hE hL v i h0 hv (by omega) (hf i (by omega))
    obtain ⟨E', L', e1, e2, e3, ⟨K, hs⟩, ⟨K', ht⟩⟩ := ih (i + 1) E1 L1 (by omega) (by omega) l1 l2 (l3.trans h00)
    refine ⟨E', L', e1, e2, e3, ⟨K + b, fun k hk => ?_⟩, ⟨K' + b, fun k hk => ?_⟩⟩
    · obtain ⟨k, rfl⟩ : ∃ m, k = m + b := ⟨k - b, by omega⟩
      exact (f1 k).trans (hs k (by omega))
    · obtain ⟨k, rfl⟩ : ∃ m, k = m + b := ⟨k - b, by omega⟩
      exact (f2 k).trans (ht k (by omega))
theorem times_out {m : Nat} {xs : List S44} (hx : xs.length ≤ 20) (hm : m ≤ 10) (hf : ∀ i, i < xs.length → 0 ≤ (fu_at xs i).f0 ∧ (fu_at xs i).f0 < (m : Int)) :
    ∀ (d v : Nat) (E L : List Int), m - v = d → 0 < v → E.length = m → L.length = m → E.getD 0 0 = 0 → ∃ E' L' : List Int, E'.length = m ∧ L'.length = m ∧ E'.getD 0 0 = 0 ∧ Evt (fun k => spec_l10Times.l0 k (m : Int) xs E L (v : Int) = some (E', L')) ∧ Evt (fun k => impl_litTimes.l0 k (m : Int) xs E L (v : Int) = some (E', L')) := by
  intro d
  induction d with
  | zero =>
    intro v E L hd hv hE hL h00
    refine ⟨E, L, hE, hL, h00, ⟨1, fun k hk => ?_⟩, ⟨1, fun k hk => ?_⟩⟩
    · obtain ⟨k, rfl⟩ : ∃ m, k = m + 1 := ⟨k - 1, by omega⟩
      show spec_l10Times.l0 (k + 1) (m : Int) xs E L (v : Int) = _
      simp only [spec_l10Times.l0]
      rw [if_neg (by omega)]
    · obtain ⟨k, rfl⟩ : ∃ m, k = m + 1 := ⟨k - 1, by omega⟩
      show impl_litTimes.l0 (k + 1) (m : Int) xs E L (v : Int) = _
      simp only [impl_litTimes.l0]
      rw [if_neg (by omega)]
  | succ d ih =>
    intro v E L hd hv hE hL h00
    obtain ⟨E', L', e1, e2, e3, ⟨K, hs⟩, ⟨K', ht⟩⟩ := times_in hx hm hf v hv (by omega) (fun E L a b c => ih (v + 1) E L (by omega) (by omega) a b c) xs.length 0 (E.set v (-1)) (L.set v (-1)) (by omega) (by omega) (by rw [List.length_set]; exact hE) (by rw [List.length_set]; exact hL) ((set0 _ _ _ hv).trans h00)
    refine ⟨E', L', e1, e2, e3, ⟨K + 1, fun k hk => ?_⟩, ⟨K' + 1, fun k hk => ?_⟩⟩
    · obtain ⟨k, rfl⟩ : ∃ m, k = m + 1 := ⟨k - 1, by omega⟩
      show spec_l10Times.l0 (k + 1) (m : Int) xs E L (v : Int) = _
      simp only [spec_l10Times.l0]
      rw [if_pos (by omega), if_pos (by omega), if_pos (by omega), if_pos (by omega), Int.toNat_natCast]
      exact hs k (by omega)
    · obtain ⟨k, rfl⟩ : ∃ m, k = m + 1 := ⟨k - 1, by omega⟩
      show impl_litTimes.l0 (k + 1) (m : Int) xs E L (v : Int) = _
      simp only [impl_litTimes.l0]
      rw [if_pos (by omega), if_pos (by omega), if_pos (by omega), if_pos (by omega), Int.toNat_natCast]
      exact ht k (by omega)
theorem times_is {n : Int} {xs : List S44} (h : areFuses n xs = true) : ∃ (m : Nat) (E L : List Int), n = (m : Int) ∧ 1 ≤ m ∧ m ≤ 10 ∧ xs.length ≤ 20 ∧ E.length = m ∧ L.length = m ∧ E.getD 0 0 = 0 ∧ Evt (fun k => spec_l10Times.f k n xs = some (E, L)) ∧ Evt (fun k => impl_litTimes.f k n xs = some (E, L)) := by
  obtain ⟨m, rfl, h1, h2, h3, h4⟩ := areFuses_true h
  obtain ⟨E, L, e1, e2, e3, ⟨K, hs⟩, ⟨K', ht⟩⟩ := times_out h3 h2 (fun i hi => by have := h4 i hi; omega) (m - 1) 1 (List.replicate m 0) (List.replicate m 0) (by omega) (by omega) (by simp) (by simp) (by cases m <;> rfl)
  refine ⟨m, E, L, rfl, h1, h2, h3, e1, e2, e3, ⟨K, fun k hk => ?_⟩, ⟨K', fun k hk => ?_⟩⟩
  · show spec_l10Times.f k (m : Int) xs = _
    unfold spec_l10Times.f
    rw [if_pos (by omega), if_pos (by omega), Int.toNat_natCast]
    exact hs k hk
  · show impl_litTimes.f k (m : Int) xs = _
    unfold impl_litTimes.f
    rw [if_pos (by omega), if_pos (by omega), Int.toNat_natCast]
    exact ht k hk
/-- the same for a list of the members -/
theorem times_mem {m : Nat} {ys : List S44} (h1 : 1 ≤ m) (h2 : m ≤ 10) (h3 : ys.length ≤ 20) (hf : ∀ y ∈ ys, 0 ≤ y.f0 ∧ y.f0 < (m : Int)) : ∃ (E L : List Int), E.length = m ∧ L.length = m ∧ E.getD 0 0 = 0 ∧ Evt (fun k => spec_l10Times.f k (m : Int) ys = some (E, L)) ∧ Evt (fun k => impl_litTimes.f k (m : Int) ys = some (E, L)) := by
  obtain ⟨E, L, e1, e2, e3, ⟨K, hs⟩, ⟨K', ht⟩⟩ := times_out h3 h2 (fun i hi => by
    unfold fu_at
    rw [List.getD_eq_getElem?_getD, List.getElem?_eq_getElem hi]
    exact hf _ (List.getElem_mem _)) (m - 1) 1 (List.replicate m 0) (List.replicate m 0) (by omega) (by omega) (by simp) (by simp) (by cases m <;> rfl)
  refine ⟨E, L, e1, e2, e3, ⟨K, fun k hk => ?_⟩, ⟨K', fun k hk => ?_⟩⟩
  · show spec_l10Times.f k (m : Int) ys = _
    unfold spec_l10Times.f
    rw [if_pos (by omega), if_pos (by omega), Int.toNat_natCast]
    exact hs k hk
  · show impl_litTimes.f k (m : Int) ys = _
    unfold impl_litTimes.f
    rw [if_pos (by omega), if_pos (by omega), Int.toNat_natCast]
    exact ht k hk
theorem fu_mem {xs : List S44} {i : Nat} (h : i < xs.length) : fu_at xs i ∈ xs := by
  unfold fu_at
  rw [List.getD_eq_getElem?_getD, List.getElem?_eq_getElem h]
  exact List.getElem_mem _
theorem areFuses_mem {n : Int} {xs : List S44} (h : areFuses n xs = true) : ∀ y ∈ xs, 0 ≤ y.f0 ∧ y.f0 < n := by
  obtain ⟨m, rfl, h1, h2, h3, h4⟩ := areFuses_true h
  intro y hy
  obtain ⟨i, hi, rfl⟩ := List.getElem_of_mem hy
  have := h4 i hi
  unfold fu_at at this
  rw [List.getD_eq_getElem?_getD, List.getElem?_eq_getElem hi] at this
  simp only [Option.getD_some] at this
  omega

end Go.Proofs.Ytipgcjonidlloaa.F
