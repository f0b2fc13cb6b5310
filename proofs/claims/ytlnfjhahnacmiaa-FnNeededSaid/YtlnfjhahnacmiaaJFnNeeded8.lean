import Derived.Test.YtlnfjhahnacmiaaJFnNeeded7
import Derived.Below
import Derived.Deep.Draws
import Derived.Deep.AppendLies
import Derived.Maps.AppendAt
import Derived.OwnWalk
import Derived.Laws.BytesArg
import Derived.Laws.MakeOwn
import Derived.Laws.OwnMore
import Derived.Tactics
import Derived.Lib.ConvBytes
import Derived.Laws.Slices
import Derived.WalkKit
import Derived.KernelRfl
import Derived.RowKit3
import Derived.Deep.LoopGhost
import Derived.Deep.QuietTactic
import Derived.BigQuiet
import Derived.WideLaws
import Derived.Deep.DeepCutAuto
import Derived.Deep.CutBlock
import Derived.Deep.RegionHeld3
import Derived.Lib.AppendStr
import Derived.ArgAppend
import Derived.Laws.IdiomCopy
import Derived.RowKit
import Derived.OrdersHeld
import Derived.Laws.BitsLemmas
import Derived.Laws.StructEq
import Derived.Test.YtlnfjhahnacmiaaProg
namespace Go.Proofs.Ytlnfjhahnacmiaa.F
open Go.RowKit Go.Proofs.YtlnfjhahnacmiaaW.PrintWords Go.Proofs.YtlnfjhahnacmiaaW.PrintLast Go.Proofs.YtlnfjhahnacmiaaW.PrintMore
set_option linter.unusedVariables false
set_option linter.unusedSimpArgs false
def StepL (xs : List S39) (E L L' : List Int) (v i : Nat) : Prop :=
 (L' = L ∧ ((fu_at xs i).f1 = (v : Int) → rd E (fu_at xs i).f0 < 0 ∨ (0 ≤ rd L (v : Int) ∧ rd L (v : Int) ≤ wrap64 (rd L (fu_at xs i).f0 + (fu_at xs i).f3)))) ∨
 (L' = L.set v (wrap64 (rd L (fu_at xs i).f0 + (fu_at xs i).f3)) ∧ (fu_at xs i).f1 = (v : Int) ∧ 0 ≤ rd E (fu_at xs i).f0 ∧ (rd L (v : Int) < 0 ∨ wrap64 (rd L (fu_at xs i).f0 + (fu_at xs i).f3) < rd L (v : Int)))
theorem tstepl {m : Nat} {xs : List S39} (hx : xs.length ≤ 20) (E L : List Int) (hE : E.length = m) (hL : L.length = m) (v i : Nat) (h0 : 0 < v) (hv : v < m) (hi : i < xs.length) (hf : 0 ≤ (fu_at xs i).f0 ∧ (fu_at xs i).f0 < (m : Int)) :
  ∃ E' L' b, 2 ≤ b ∧ b ≤ 3 ∧ E'.length = m ∧ L'.length = m ∧ StepE xs E E' v i ∧ StepL xs E L L' v i ∧ (∀ k, spec_l10Times.l1 (k + b) (m : Int) xs E L (v : Int) (i : Int) = spec_l10Times.l1 k (m : Int) xs E' L' (v : Int) ((i + 1 : Nat) : Int)) ∧ (∀ k, impl_litTimes.l1 (k + b) (m : Int) xs E L (v : Int) xs (xs.length : Int) (i : Int) = impl_litTimes.l1 k (m : Int) xs E' L' (v : Int) xs (xs.length : Int) ((i + 1 : Nat) : Int)) := by
 have g1 : (i : Int) < (xs.length : Int) := by omega
 have g2 : 0 ≤ (i : Int) := by omega
 have hw : wrap64 ((i : Int) + 1) = ((i + 1 : Nat) : Int) := w64 (by omega)
 have v0 : 0 ≤ (v : Int) := by omega
 have vE : (v : Int) < (E.length : Int) := by omega
 have vL : (v : Int) < (L.length : Int) := by omega
 have fE : (fu_at xs i).f0 < (E.length : Int) := by omega
 have fL : (fu_at xs i).f0 < (L.length : Int) := by omega
 have f0 := hf.1
 have et : ((v : Int)).toNat = v := Int.toNat_natCast v
 have lE : ∀ y, (E.set v y).length = m := fun y => by rw [List.length_set]; exact hE
 have lL : ∀ y, (L.set v y).length = m := fun y => by rw [List.length_set]; exact hL
 by_cases c1 : (fu_at xs i).f1 = (v : Int)
 ·by_cases c2 : rd E (fu_at xs i).f0 < 0
  ·refine ⟨E, L, 2, by omega, by omega, hE, hL, .inl ⟨rfl, fun _ => .inl c2⟩, (.inl ⟨rfl, fun _ => .inl c2⟩), fun k => ?_, fun k => ?_⟩
   ·simp only [spec_l10Times.l1, spec_l10Times.j2, rd_fuse, if_pos g1, if_pos g2, if_pos c1, if_pos f0, if_pos fE, decide_eq_true c2, if_true, hw]
   ·simp only [impl_litTimes.l1, impl_litTimes.j2, rd_fuse, if_pos g1, if_pos g2, if_pos c1, if_pos f0, if_pos fE, decide_eq_true c2, if_true, hw]
  ·-- the early time
   by_cases c3 : rd E (v : Int) < 0 ∨ wrap64 (rd E (fu_at xs i).f0 + (fu_at xs i).f2) < rd E (v : Int)
   ·by_cases c4 : rd L (v : Int) < 0 ∨ wrap64 (rd L (fu_at xs i).f0 + (fu_at xs i).f3) < rd L (v : Int)
    ·refine ⟨E.set v (wrap64 (rd E (fu_at xs i).f0 + (fu_at xs i).f2)), L.set v (wrap64 (rd L (fu_at xs i).f0 + (fu_at xs i).f3)), 3, by omega, by omega, lE _, lL _, (.inr ⟨rfl, c1, by omega, c3⟩), (.inr ⟨rfl, c1, by omega, c4⟩), fun k => ?_, fun k => ?_⟩
     ·rcases Classical.em (rd E (v : Int) < 0) with d3 | d3 <;> rcases Classical.em (rd L (v : Int) < 0) with d4 | d4 <;>
       simp only [d3, d4, false_or, true_or] at c3 c4 <;>
       simp only [spec_l10Times.l1, spec_l10Times.j2, spec_l10Times.j3, rd_fuse, if_pos g1, if_pos g2, if_pos c1, if_pos f0, if_pos fE, if_pos fL, if_pos vE, if_pos vL, if_pos v0, decide_eq_false c2, d3, d4, c3, c4, decide_true, if_true, if_false, Bool.false_eq_true, hw, et, Option.bind_some]
     ·rcases Classical.em (rd E (v : Int) < 0) with d3 | d3 <;> rcases Classical.em (rd L (v : Int) < 0) with d4 | d4 <;>
       simp only [d3, d4, false_or, true_or] at c3 c4 <;>
       simp only [impl_litTimes.l1, impl_litTimes.j2, impl_litTimes.j3, rd_fuse, if_pos g1, if_pos g2, if_pos c1, if_pos f0, if_pos fE, if_pos fL, if_pos vE, if_pos vL, if_pos v0, decide_eq_false c2, d3, d4, c3, c4, decide_true, if_true, if_false, Bool.false_eq_true, hw, et, Option.bind_some]
    ·rw [not_or] at c4
     refine ⟨E.set v (wrap64 (rd E (fu_at xs i).f0 + (fu_at xs i).f2)), L, 3, by omega, by omega, lE _, hL, (.inr ⟨rfl, c1, by omega, c3⟩), (.inl ⟨rfl, fun _ => .inr (by omega)⟩), fun k => ?_, fun k => ?_⟩
     ·rcases Classical.em (rd E (v : Int) < 0) with d3 | d3 <;>
       simp only [d3, false_or, true_or] at c3 <;>
       simp only [spec_l10Times.l1, spec_l10Times.j2, spec_l10Times.j3, rd_fuse, if_pos g1, if_pos g2, if_pos c1, if_pos f0, if_pos fE, if_pos fL, if_pos vE, if_pos vL, if_pos v0, decide_eq_false c2, d3, c3, c4.1, c4.2, decide_true, if_true, if_false, Bool.false_eq_true, hw, et, Option.bind_some]
     ·rcases Classical.em (rd E (v : Int) < 0) with d3 | d3 <;>
       simp only [d3, false_or, true_or] at c3 <;>
       simp only [impl_litTimes.l1, impl_litTimes.j2, impl_litTimes.j3, rd_fuse, if_pos g1, if_pos g2, if_pos c1, if_pos f0, if_pos fE, if_pos fL, if_pos vE, if_pos vL, if_pos v0, decide_eq_false c2, d3, c3, c4.1, c4.2, decide_true, if_true, if_false, Bool.false_eq_true, hw, et, Option.bind_some]
   ·rw [not_or] at c3
    by_cases c4 : rd L (v : Int) < 0 ∨ wrap64 (rd L (fu_at xs i).f0 + (fu_at xs i).f3) < rd L (v : Int)
    ·refine ⟨E, L.set v (wrap64 (rd L (fu_at xs i).f0 + (fu_at xs i).f3)), 3, by omega, by omega, hE, lL _, (.inl ⟨rfl, fun _ => .inr (by omega)⟩), (.inr ⟨rfl, c1, by omega, c4⟩), fun k => ?_, fun k => ?_⟩
     ·rcases Classical.em (rd L (v : Int) < 0) with d4 | d4 <;>
       simp only [d4, false_or, true_or] at c4 <;>
       simp only [spec_l10Times.l1, spec_l10Times.j2, spec_l10Times.j3, rd_fuse, if_pos g1, if_pos g2, if_pos c1, if_pos f0, if_pos fE, if_pos fL, if_pos vE, if_pos vL, if_pos v0, decide_eq_false c2, c3.1, c3.2, d4, c4, decide_true, decide_false, if_true, if_false, Bool.false_eq_true, hw, et, Option.bind_some]
     ·rcases Classical.em (rd L (v : Int) < 0) with d4 | d4 <;>
       simp only [d4, false_or, true_or] at c4 <;>
       simp only [impl_litTimes.l1, impl_litTimes.j2, impl_litTimes.j3, rd_fuse, if_pos g1, if_pos g2, if_pos c1, if_pos f0, if_pos fE, if_pos fL, if_pos vE, if_pos vL, if_pos v0, decide_eq_false c2, c3.1, c3.2, d4, c4, decide_true, decide_false, if_true, if_false, Bool.false_eq_true, hw, et, Option.bind_some]
    ·rw [not_or] at c4
     refine ⟨E, L, 3, by omega, by omega, hE, hL, (.inl ⟨rfl, fun _ => .inr (by omega)⟩), (.inl ⟨rfl, fun _ => .inr (by omega)⟩), fun k => ?_, fun k => ?_⟩
     ·simp only [spec_l10Times.l1, spec_l10Times.j2, spec_l10Times.j3, rd_fuse, if_pos g1, if_pos g2, if_pos c1, if_pos f0, if_pos fE, if_pos fL, if_pos vE, if_pos vL, if_pos v0, decide_eq_false c2, c3.1, c3.2, c4.1, c4.2, decide_true, decide_false, if_true, if_false, Bool.false_eq_true, hw, et, Option.bind_some]
     ·simp only [impl_litTimes.l1, impl_litTimes.j2, impl_litTimes.j3, rd_fuse, if_pos g1, if_pos g2, if_pos c1, if_pos f0, if_pos fE, if_pos fL, if_pos vE, if_pos vL, if_pos v0, decide_eq_false c2, c3.1, c3.2, c4.1, c4.2, decide_true, decide_false, if_true, if_false, Bool.false_eq_true, hw, et, Option.bind_some]
 ·refine ⟨E, L, 2, by omega, by omega, hE, hL, .inl ⟨rfl, fun h => absurd h c1⟩, (.inl ⟨rfl, fun h => absurd h c1⟩), fun k => ?_, fun k => ?_⟩
  ·simp only [spec_l10Times.l1, spec_l10Times.j2, rd_fuse, if_pos g1, if_pos g2, if_neg c1, if_true, hw]
  ·simp only [impl_litTimes.l1, impl_litTimes.j2, rd_fuse, if_pos g1, if_pos g2, if_neg c1, if_true, hw]
def GoodL (xs : List S39) (E L : List Int) (u : Int) (n : Nat) : Prop :=
 rd L u ≤ 100000 * u ∧ (∀ j, j < n → (fu_at xs j).f1 = u → 0 ≤ rd E (fu_at xs j).f0 → 0 ≤ rd L u ∧ rd L u ≤ rd L (fu_at xs j).f0 + (fu_at xs j).f3) ∧
  (0 ≤ rd L u → ∃ j, j < n ∧ (fu_at xs j).f1 = u ∧ 0 ≤ rd E (fu_at xs j).f0 ∧ rd L u = rd L (fu_at xs j).f0 + (fu_at xs j).f3)
def FOl (m : Nat) (xs : List S39) : Prop := FOk m xs ∧ ∀ i, i < xs.length → (fu_at xs i).f2 ≤ (fu_at xs i).f3 ∧ (fu_at xs i).f3 ≤ 100000
def PL (m : Nat) (xs : List S39) (v : Nat) (E L : List Int) : Prop := PE m xs v E ∧ L.length = m ∧ rd L 0 = 0 ∧ ∀ u : Int, 0 < u → u < (v : Int) → GoodL xs E L u xs.length
def QL (m : Nat) (xs : List S39) (v i : Nat) (E L : List Int) : Prop := QE m xs v i E ∧ PL m xs v E L ∧ GoodL xs E L (v : Int) i
theorem goodl_set {m : Nat} {xs : List S39} (hf : FOk m xs) {E L : List Int} {v : Nat} (x y : Int) {u : Int} (h0 : 0 ≤ u) (hu : u < (v : Int)) {n : Nat} (hn : n ≤ xs.length) (h : GoodL xs E L u n) : GoodL xs (E.set v x) (L.set v y) u n := by
 obtain ⟨a, b, c⟩ := h
 have e : ∀ w : Int, 0 ≤ w → w < (v : Int) → rd (L.set v y) w = rd L w := fun w h1 h2 => rd_set_ne L v y w h1 (by omega)
 have e' : ∀ w : Int, 0 ≤ w → w < (v : Int) → rd (E.set v x) w = rd E w := fun w h1 h2 => rd_set_ne E v x w h1 (by omega)
 refine ⟨by rw [e u h0 hu]; exact a, fun j hj h1 h2 => ?_, fun h1 => ?_⟩
 ·have g := hf j (by omega)
  rw [e' _ g.1 (by omega)] at h2
  rw [e _ g.1 (by omega), e u h0 hu]
  exact b j hj h1 h2
 ·rw [e u h0 hu] at h1 ⊢
  obtain ⟨j, j1, j2, j3, j4⟩ := c h1
  have g := hf j (by omega)
  exact ⟨j, j1, j2, by rw [e' _ g.1 (by omega)]; exact j3, by rw [e _ g.1 (by omega)]; exact j4⟩
theorem goodl_congr {m : Nat} {xs : List S39} (hf : FOk m xs) {E E' L L' : List Int} {v : Nat} (he : ∀ w : Int, 0 ≤ w → w < (v : Int) → rd E' w = rd E w) (hl : ∀ w : Int, 0 ≤ w → w < (v : Int) → rd L' w = rd L w) {u : Int} (h0 : 0 ≤ u) (hu : u < (v : Int)) {n : Nat} (hn : n ≤ xs.length) (h : GoodL xs E L u n) : GoodL xs E' L' u n := by
 obtain ⟨a, b, c⟩ := h
 refine ⟨by rw [hl u h0 hu]; exact a, fun j hj h1 h2 => ?_, fun h1 => ?_⟩
 ·have g := hf j (by omega)
  rw [he _ g.1 (by omega)] at h2
  rw [hl _ g.1 (by omega), hl u h0 hu]
  exact b j hj h1 h2
 ·rw [hl u h0 hu] at h1 ⊢
  obtain ⟨j, j1, j2, j3, j4⟩ := c h1
  have g := hf j (by omega)
  exact ⟨j, j1, j2, by rw [he _ g.1 (by omega)]; exact j3, by rw [hl _ g.1 (by omega)]; exact j4⟩
theorem pl_pos {m : Nat} {xs : List S39} (hf : FOk m xs) {v : Nat} {E L : List Int} (h : PL m xs v E L) {u : Int} (h0 : 0 ≤ u) (hu : u < (v : Int)) (he : 0 ≤ rd E u) : 0 ≤ rd L u ∧ rd L u ≤ 100000 * u := by
 rcases Int.lt_or_le 0 u with z | z
 ·obtain ⟨j, j1, j2, j3, j4⟩ := (h.1.2.2 u z hu).2.2 he
  have g := h.2.2.2 u z hu
  exact ⟨(g.2.1 j j1 j2 j3).1, g.1⟩
 ·have e : u = 0 := by omega
  subst e
  have := h.2.2.1
  omega
theorem ql_start {m : Nat} {xs : List S39} (hf : FOk m xs) {E L : List Int} {v : Nat} (hv0 : 0 < v) (hv : v < m) (h : PL m xs v E L) : QL m xs v 0 (E.set v (-1)) (L.set v (-1)) := by
 have e := rd_set_eq L v (-1) (by rw [h.2.1]; exact hv)
 have q := qe_start hf hv0 hv h.1
 refine ⟨q, ⟨q.1, by rw [List.length_set]; exact h.2.1, by rw [rd_set_ne L v _ 0 (by omega) (by omega)]; exact h.2.2.1, fun u h1 h2 => goodl_set hf _ _ (by omega) h2 (Nat.le_refl _) (h.2.2.2 u h1 h2)⟩, ⟨by rw [e]; omega, fun j hj => absurd hj (by omega), fun h1 => ?_⟩⟩
 rw [e] at h1; omega
theorem ql_end {m : Nat} {xs : List S39} {E L : List Int} {v : Nat} (h : QL m xs v xs.length E L) : PL m xs (v + 1) E L := by
 obtain ⟨q, ⟨p, a, b, c⟩, d⟩ := h
 refine ⟨qe_end q, a, b, fun u h1 h2 => ?_⟩
 by_cases e : u = (v : Int)
 ·rw [e]; exact d
 ·exact c u h1 (by omega)
theorem ql_step {m : Nat} {xs : List S39} (hf : FOl m xs) (hm : m ≤ 10) {E E' L L' : List Int} {v i : Nat} (hv0 : 0 < v) (hv : v < m) (hi : i < xs.length) (h : QL m xs v i E L) (st : StepE xs E E' v i) (sl : StepL xs E L L' v i) : QL m xs v (i + 1) E' L' := by
 have g := hf.1 i hi
 have g' := hf.2 i hi
 obtain ⟨q, p, a, b, c⟩ := h
 have q' := qe_step hf.1 hm hv0 hv hi q st
 have he : ∀ w : Int, 0 ≤ w → w < (v : Int) → rd E' w = rd E w := fun w h1 h2 => by
  rcases st with ⟨rfl, _⟩ | ⟨rfl, _⟩
  ·rfl
  ·exact rd_set_ne E v _ w h1 (by omega)
 have hl : ∀ w : Int, 0 ≤ w → w < (v : Int) → rd L' w = rd L w := fun w h1 h2 => by
  rcases sl with ⟨rfl, _⟩ | ⟨rfl, _⟩
  ·rfl
  ·exact rd_set_ne L v _ w h1 (by omega)
 have ll : L'.length = m := by
  rcases sl with ⟨rfl, _⟩ | ⟨rfl, _⟩
  ·exact p.2.1
  ·rw [List.length_set]; exact p.2.1
 refine ⟨q', ⟨q'.1, ll, by rw [hl 0 (by omega) (by omega)]; exact p.2.2.1, fun u h1 h2 => goodl_congr hf.1 he hl (by omega) h2 (Nat.le_refl _) (p.2.2.2 u h1 h2)⟩, ?_⟩
 -- node v itself
 have pos : (fu_at xs i).f1 = (v : Int) → 0 ≤ rd E (fu_at xs i).f0 → 0 ≤ rd L (fu_at xs i).f0 ∧ rd L (fu_at xs i).f0 ≤ 100000 * (fu_at xs i).f0 := fun h1 h2 => pl_pos hf.1 p g.1 (by omega) h2
 rcases sl with ⟨rfl, st⟩ | ⟨rfl, s1, s2, s3⟩
 ·refine ⟨a, fun j hj h1 h2 => ?_, fun h1 => ?_⟩
  ·have gj := hf.1 j (by omega)
   rw [he _ gj.1 (by omega)] at h2
   by_cases e : j = i
   ·subst e
    have := pos h1 h2
    rcases st h1 with s | s
    ·omega
    ·rw [w64 (by omega)] at s
     exact s
   ·exact b j (by omega) h1 h2
  ·obtain ⟨j, j1, j2, j3, j4⟩ := c h1
   have gj := hf.1 j (by omega)
   exact ⟨j, by omega, j2, by rw [he _ gj.1 (by omega)]; exact j3, j4⟩
 ·have ps := pos s1 s2
  have hw : wrap64 (rd L (fu_at xs i).f0 + (fu_at xs i).f3) = rd L (fu_at xs i).f0 + (fu_at xs i).f3 := w64 (by omega)
  rw [hw] at s3 hl ⊢
  have e := rd_set_eq L v (rd L (fu_at xs i).f0 + (fu_at xs i).f3) (by rw [p.2.1]; exact hv)
  clear hw
  refine ⟨by rw [e]; omega, fun j hj h1 h2 => ?_, fun _ => ⟨i, by omega, s1, ?_, ?_⟩⟩
  ·have gj := hf.1 j (by omega)
   rw [he _ gj.1 (by omega)] at h2
   rw [hl _ gj.1 (by omega), e]
   by_cases ej : j = i
   ·subst ej; omega
   ·have := b j (by omega) h1 h2
    omega
  ·rw [he _ g.1 (by omega)]; exact s2
  ·rw [e, hl _ g.1 (by omega)]
theorem timesl_in {m : Nat} {xs : List S39} (hx : xs.length ≤ 20) (hm : m ≤ 10) (hf : FOl m xs) (v : Nat) (h0 : 0 < v) (hv : v < m)
  (hnext : ∀ E L : List Int, E.length = m → L.length = m → PL m xs (v + 1) E L → ∃ E' L' : List Int, E'.length = m ∧ L'.length = m ∧ PL m xs m E' L' ∧ Evt (fun k => spec_l10Times.l0 k (m : Int) xs E L ((v + 1 : Nat) : Int) = some (E', L')) ∧ Evt (fun k => impl_litTimes.l0 k (m : Int) xs E L ((v + 1 : Nat) : Int) = some (E', L'))) :
  ∀ (d i : Nat) (E L : List Int), xs.length - i = d → i ≤ xs.length → E.length = m → L.length = m → QL m xs v i E L → ∃ E' L' : List Int, E'.length = m ∧ L'.length = m ∧ PL m xs m E' L' ∧ Evt (fun k => spec_l10Times.l1 k (m : Int) xs E L (v : Int) (i : Int) = some (E', L')) ∧ Evt (fun k => impl_litTimes.l1 k (m : Int) xs E L (v : Int) xs (xs.length : Int) (i : Int) = some (E', L')) := by
 intro d
 induction d with
 | zero =>
  intro i E L hd hi hE hL hq
  have e : i = xs.length := by omega
  subst e
  obtain ⟨E', L', e1, e2, e3, ⟨K, hs⟩, ⟨K', ht⟩⟩ := hnext E L hE hL (ql_end hq)
  refine ⟨E', L', e1, e2, e3, ⟨K + 1, fun k hk => ?_⟩, ⟨K' + 1, fun k hk => ?_⟩⟩
  ·obtain ⟨k, rfl⟩ : ∃ m, k = m + 1 := ⟨k - 1, by omega⟩
   show spec_l10Times.l1 (k + 1) (m : Int) xs E L (v : Int) (xs.length : Int) = _
   simp only [spec_l10Times.l1]
   rw [if_neg (by omega), w64 (by omega)]
   exact hs k (by omega)
  ·obtain ⟨k, rfl⟩ : ∃ m, k = m + 1 := ⟨k - 1, by omega⟩
   show impl_litTimes.l1 (k + 1) (m : Int) xs E L (v : Int) xs (xs.length : Int) (xs.length : Int) = _
   simp only [impl_litTimes.l1]
   rw [if_neg (by omega), w64 (by omega)]
   exact ht k (by omega)
 | succ d ih =>
  intro i E L hd hi hE hL hq
  have g := hf.1 i (by omega)
  obtain ⟨E1, L1, b, b2, b3, l1, l2, l3, l4, f1, f2⟩ := tstepl hx E L hE hL v i h0 hv (by omega) ⟨g.1, by omega⟩
  obtain ⟨E', L', e1, e2, e3, ⟨K, hs⟩, ⟨K', ht⟩⟩ := ih (i + 1) E1 L1 (by omega) (by omega) l1 l2 (ql_step hf hm h0 hv (by omega) hq l3 l4)
  refine ⟨E', L', e1, e2, e3, ⟨K + b, fun k hk => ?_⟩, ⟨K' + b, fun k hk => ?_⟩⟩
  ·obtain ⟨k, rfl⟩ : ∃ m, k = m + b := ⟨k - b, by omega⟩
   exact (f1 k).trans (hs k (by omega))
  ·obtain ⟨k, rfl⟩ : ∃ m, k = m + b := ⟨k - b, by omega⟩
   exact (f2 k).trans (ht k (by omega))
theorem timesl_out {m : Nat} {xs : List S39} (hx : xs.length ≤ 20) (hm : m ≤ 10) (hf : FOl m xs) :
  ∀ (d v : Nat) (E L : List Int), m - v = d → 0 < v → v ≤ m → E.length = m → L.length = m → PL m xs v E L → ∃ E' L' : List Int, E'.length = m ∧ L'.length = m ∧ PL m xs m E' L' ∧ Evt (fun k => spec_l10Times.l0 k (m : Int) xs E L (v : Int) = some (E', L')) ∧ Evt (fun k => impl_litTimes.l0 k (m : Int) xs E L (v : Int) = some (E', L')) := by
 intro d
 induction d with
 | zero =>
  intro v E L hd hv hvm hE hL hp
  have e : v = m := by omega
  subst e
  refine ⟨E, L, hE, hL, hp, ⟨1, fun k hk => ?_⟩, ⟨1, fun k hk => ?_⟩⟩
  ·obtain ⟨k, rfl⟩ : ∃ m, k = m + 1 := ⟨k - 1, by omega⟩
   show spec_l10Times.l0 (k + 1) (v : Int) xs E L (v : Int) = _
   simp only [spec_l10Times.l0]
   rw [if_neg (by omega)]
  ·obtain ⟨k, rfl⟩ : ∃ m, k = m + 1 := ⟨k - 1, by omega⟩
   show impl_litTimes.l0 (k + 1) (v : Int) xs E L (v : Int) = _
   simp only [impl_litTimes.l0]
   rw [if_neg (by omega)]
 | succ d ih =>
  intro v E L hd hv hvm hE hL hp
  obtain ⟨E', L', e1, e2, e3, ⟨K, hs⟩, ⟨K', ht⟩⟩ := timesl_in hx hm hf v hv (by omega) (fun E L a b c => ih (v + 1) E L (by omega) (by omega) (by omega) a b c) xs.length 0 (E.set v (-1)) (L.set v (-1)) (by omega) (by omega) (by rw [List.length_set]; exact hE) (by rw [List.length_set]; exact hL) (ql_start hf.1 hv (by omega) hp)
  refine ⟨E', L', e1, e2, e3, ⟨K + 1, fun k hk => ?_⟩, ⟨K' + 1, fun k hk => ?_⟩⟩
  ·obtain ⟨k, rfl⟩ : ∃ m, k = m + 1 := ⟨k - 1, by omega⟩
   show spec_l10Times.l0 (k + 1) (m : Int) xs E L (v : Int) = _
   simp only [spec_l10Times.l0]
   rw [if_pos (by omega), if_pos (by omega), if_pos (by omega), if_pos (by omega), Int.toNat_natCast]
   exact hs k (by omega)
  ·obtain ⟨k, rfl⟩ : ∃ m, k = m + 1 := ⟨k - 1, by omega⟩
   show impl_litTimes.l0 (k + 1) (m : Int) xs E L (v : Int) = _
   simp only [impl_litTimes.l0]
   rw [if_pos (by omega), if_pos (by omega), if_pos (by omega), if_pos (by omega), Int.toNat_natCast]
   exact ht k (by omega)
theorem timesl_is {n : Int} {xs : List S39} (h : areFuses n xs = true) : ∃ (m : Nat) (E L : List Int), n = (m : Int) ∧ 1 ≤ m ∧ m ≤ 10 ∧ xs.length ≤ 20 ∧ FOl m xs ∧ E.length = m ∧ L.length = m ∧ PL m xs m E L ∧ Evt (fun k => spec_l10Times.f k n xs = some (E, L)) ∧ Evt (fun k => impl_litTimes.f k n xs = some (E, L)) := by
 obtain ⟨m, rfl, h1, h2, h3, h4⟩ := areFuses_true h
 have hf : FOl m xs := ⟨fun i hi => by have := h4 i hi; omega, fun i hi => by have := h4 i hi; omega⟩
 obtain ⟨E, L, e1, e2, e3, ⟨K, hs⟩, ⟨K', ht⟩⟩ := timesl_out h3 h2 hf (m - 1) 1 (List.replicate m 0) (List.replicate m 0) (by omega) (by omega) (by omega) (by simp) (by simp) ⟨⟨by simp, by cases m <;> rfl, fun u h1 h2 => absurd h2 (by omega)⟩, by simp, by cases m <;> rfl, fun u h1 h2 => absurd h2 (by omega)⟩
 refine ⟨m, E, L, rfl, h1, h2, h3, hf, e1, e2, e3, ⟨K, fun k hk => ?_⟩, ⟨K', fun k hk => ?_⟩⟩
 ·show spec_l10Times.f k (m : Int) xs = _
  unfold spec_l10Times.f
  rw [if_pos (by omega), if_pos (by omega), Int.toNat_natCast]
  exact hs k hk
 ·show impl_litTimes.f k (m : Int) xs = _
  unfold impl_litTimes.f
  rw [if_pos (by omega), if_pos (by omega), Int.toNat_natCast]
  exact ht k hk
end Go.Proofs.Ytlnfjhahnacmiaa.F
namespace Go.Proofs.Ytlnfjhahnacmiaa.F
open Go.RowKit Go.Proofs.YtlnfjhahnacmiaaW.PrintWords Go.Proofs.YtlnfjhahnacmiaaW.PrintLast Go.Proofs.YtlnfjhahnacmiaaW.PrintMore
set_option linter.unusedVariables false
set_option linter.unusedSimpArgs false
def cdo (E : List Int) (m : Nat) (a : Int) : Int := if inB a 0 ((m : Int) - 1) = true then (if rd E a < 0 then 4 else 0) else 2
theorem spec_code {m : Nat} {xs : List S39} (h : areFuses (m : Int) xs = true) (h1 : 1 ≤ m) (h2 : m ≤ 10) (hx : xs.length ≤ 20) {E L : List Int} (hE : E.length = m) {K : Nat} (hs : ∀ k, K ≤ k → spec_l10Times.f k (m : Int) xs = some (E, L)) (a : Int) (k : Nat) (hk : K + 30 ≤ k) : spec_l10Code.f k (m : Int) xs a = some (cdo E m a) := by
 have hw : wrap64 ((m : Int) - 1) = (m : Int) - 1 := w64 (by omega)
 unfold spec_l10Code.f cdo
 rw [spec_fuses _ xs (by omega) k (by omega), h]
 simp only [Option.bind_some, In_eq, hw, if_true]
 cases g : inB a 0 ((m : Int) - 1) with
 | false => rfl
 | true =>
  rw [inB_true] at g
  simp only [if_true]
  rw [hs k (by omega)]
  simp only [Option.bind_some]
  rw [if_pos (by omega), if_pos (by omega)]
  by_cases c : rd E a < 0
  ·rw [if_pos c, if_pos c]
  ·rw [if_neg c, if_neg c]
theorem impl_code1 {m : Nat} {xs : List S39} (h : areFuses (m : Int) xs = true) (h1 : 1 ≤ m) (h2 : m ≤ 10) (hx : xs.length ≤ 20) {E L : List Int} (hE : E.length = m) {K : Nat} (ht : ∀ k, K ≤ k → impl_litTimes.f k (m : Int) xs = some (E, L)) (a : Int) (k : Nat) (hk : K + 30 ≤ k) : impl_nodeAsked.f k (m : Int) xs [a] = some (cdo E m a) := by
 have hw : wrap64 ((m : Int) - 1) = (m : Int) - 1 := w64 (by omega)
 have w1 : wrap64 (0 + 1) = 1 := w64 (by omega)
 have r0 : rd [a] 0 = a := rfl
 obtain ⟨k, rfl⟩ : ∃ m, k = m + 6 := ⟨k - 6, by omega⟩
 unfold impl_nodeAsked.f cdo
 rw [impl_fuses _ xs (by omega) (k + 6) (by omega), h]
 have l1 : ([a] : List Int).length = 1 := rfl
 simp only [Option.bind_some, if_true, impl_nodeAsked.l0, Wi_eq, hw, l1, w1, r0]
 rw [if_pos (by omega), if_pos (by omega), if_pos (by omega)]
 cases g : inB a 0 ((m : Int) - 1) with
 | false => rfl
 | true =>
  rw [inB_true] at g
  simp only [if_true]
  rw [if_neg (by omega), ht (k + 4) (by omega)]
  simp only [Option.bind_some, impl_nodeAsked.l1, r0, w1, l1]
  rw [if_pos (by omega), if_pos (by omega), if_pos (by omega), if_pos (by omega), if_pos (by omega)]
  by_cases c : rd E a < 0
  ·rw [if_pos c, if_pos c]
  ·rw [if_neg c, if_neg c, if_neg (by omega)]
theorem cdo_0 {E : List Int} {m : Nat} (h1 : 1 ≤ m) (h : E.getD 0 0 = 0) : cdo E m 0 = 0 := by
 have : rd E 0 = E.getD 0 0 := rfl
 unfold cdo
 rw [inB_true.2 (by omega), if_pos rfl, if_neg (by omega)]
theorem cdo_in {E : List Int} {m : Nat} {a : Int} (h : cdo E m a = 0) : 0 ≤ a ∧ a < (m : Int) := by
 unfold cdo at h
 by_cases g : inB a 0 ((m : Int) - 1) = true
 ·rw [inB_true] at g; omega
 ·rw [if_neg g] at h; omega
end Go.Proofs.Ytlnfjhahnacmiaa.F
namespace Go.Proofs.Ytlnfjhahnacmiaa.F
open Go.RowKit Go.Proofs.YtlnfjhahnacmiaaW.PrintWords Go.Proofs.YtlnfjhahnacmiaaW.PrintLast Go.Proofs.YtlnfjhahnacmiaaW.PrintMore
set_option linter.unusedVariables false
set_option linter.unusedSimpArgs false
def without (xs : List S39) (n : Nat) : List S39 := xs.take n ++ xs.drop (n + 1)
theorem without_len (xs : List S39) (n : Nat) (h : n < xs.length) : (without xs n).length = xs.length - 1 := by
 unfold without
 rw [List.length_append, List.length_take, List.length_drop]; omega
theorem spec_without (xs : List S39) (n : Nat) (hx : xs.length ≤ 4000000) (h : n < xs.length) : spec_l10Without.f xs (n : Int) = some (without xs n) := by
 unfold spec_l10Without.f
 have e : wrap64 ((n : Int) + 1) = ((n + 1 : Nat) : Int) := by rw [w64 (by omega)]; rfl
 simp only [Option.bind_some, List.nil_append, List.length_nil, e, Int.toNat_natCast]
 have h1 := List.length_take_le n xs
 have h2 := List.length_take_le' n xs
 have h3 : (xs.drop (n + 1)).length = xs.length - (n + 1) := List.length_drop
 rw [if_pos (by omega), if_pos (by omega), if_pos (by omega), if_pos (by omega), if_pos (by omega), if_pos (by omega)]
 rfl
theorem impl_without (xs : List S39) (n : Nat) (hx : xs.length ≤ 4000000) (h : n < xs.length) : impl_withoutFuse.f xs (n : Int) = some (without xs n) := by
 unfold impl_withoutFuse.f
 have e : wrap64 ((n : Int) + 1) = ((n + 1 : Nat) : Int) := by rw [w64 (by omega)]; rfl
 simp only [Option.bind_some, List.nil_append, List.length_nil, e, Int.toNat_natCast]
 have h1 := List.length_take_le n xs
 have h2 := List.length_take_le' n xs
 have h3 : (xs.drop (n + 1)).length = xs.length - (n + 1) := List.length_drop
 rw [if_pos (by omega), if_pos (by omega), if_pos (by omega), if_pos (by omega), if_pos (by omega), if_pos (by omega)]
 rfl
end Go.Proofs.Ytlnfjhahnacmiaa.F
namespace Go.Proofs.Ytlnfjhahnacmiaa.F
open Go.RowKit Go.Proofs.YtlnfjhahnacmiaaW.PrintWords Go.Proofs.YtlnfjhahnacmiaaW.PrintLast Go.Proofs.YtlnfjhahnacmiaaW.PrintMore
attribute [local go_sem] max2_int min2_int max_two min_two max_three min_three max_four min_four   -- for this text's walks alone
set_option linter.unusedVariables false
set_option linter.unusedSimpArgs false
def spec_LitBetween.f (k : Nat) (a0 : Int) (l1 : List (S39)) (a2 : Int) : Option (Int × Int × Int) := (spec_l10Code.f k a0 l1 a2).bind fun t443 => (if t443 = 0 then ((spec_l10Times.f k a0 l1).bind fun bt444 => (if 0 ≤ a2 then (if a2 < (bt444.1.length : Int) then (if a2 < (bt444.2.length : Int) then (some (rd bt444.1 a2, rd bt444.2 a2, 0)) else (none)) else (none)) else (none))) else (some (0, 0, t443)))
theorem spec_LitBetween.mono : ∀ a0 a1 a2 k, LeO (spec_LitBetween.f k a0 a1 a2) (spec_LitBetween.f (k + 1) a0 a1 a2) := by
 intro a0 a1 a2 k
 unfold spec_LitBetween.f
 repeat' first
   | (with_reducible exact spec_l10Code.mono _ _ _ _)
   | (with_reducible exact spec_l10Times.mono _ _ _)
   | (with_reducible exact LeO.refl _)
   | (with_reducible exact LeO.none _)
   | (with_reducible refine LeO.ite ?_ ?_)
   | (with_reducible refine LeO.bind ?_ (fun _ => ?_))
   | exact spec_l10Code.mono _ _ _ _
   | exact spec_l10Times.mono _ _ _
   | exact LeO.none _
   | refine LeO.ite ?_ ?_
   | refine LeO.bind ?_ (fun _ => ?_)
set_option maxHeartbeats 8000000 in
set_option maxRecDepth 100000 in
theorem spec_LitBetween.calls (k : Nat) (a0 : Int) (A1 : Option Addr) (c1 : Nat) (l1 : List (S39)) (a2 : Int) (r1 : Int) (r2 : Int) (r3 : Int) (w : World) (hr1 : Kd.C k39 w A1 l1.length l1) (hc1 : l1.length ≤ c1) (h : spec_LitBetween.f k a0 l1 a2 = some (r1, r2, r3)) :
  Calls Try.prog 17 #[.int .i64 a0, .slice A1 l1.length c1, .int .i64 a2] w fun e w' => e = .returned (.tuple #[.int .i64 r1, .int .i64 r2, .int .i64 r3]) ∧ Below w.heap.size w w' := by
 have HR1 := Aside0.mk hr1
 have HC1 := Aside0.mk hc1
 clear hr1 hc1
 have HB := Aside0.mk (Below.refl w.heap.size w)
 have H : ((spec_l10Code.f k a0 l1 a2).bind fun t443 => (if t443 = 0 then ((spec_l10Times.f k a0 l1).bind fun bt444 => (if 0 ≤ a2 then (if a2 < (bt444.1.length : Int) then (if a2 < (bt444.2.length : Int) then (some (rd bt444.1 a2, rd bt444.2 a2, 0)) else (none)) else (none)) else (none))) else (some (0, 0, t443)))) = some (r1, r2, r3) := h
 clear h
 replace H := Option.bind_eq_some_iff.mp H
 obtain ⟨t443, A40, H⟩ := H
 replace H : (if t443 = 0 then ((spec_l10Times.f k a0 l1).bind fun bt444 => (if 0 ≤ a2 then (if a2 < (bt444.1.length : Int) then (if a2 < (bt444.2.length : Int) then (some (rd bt444.1 a2, rd bt444.2 a2, 0)) else (none)) else (none)) else (none))) else (some (0, 0, t443))) = some (r1, r2, r3) := H
 have A4 := Aside0.mk A40
 clear A40
 by_cases c5 : t443 = 0
 ·rw [if_pos c5] at H
  have c5b0 : (t443 == 0) = true := beq_iff_eq.mpr c5
  have c5b1 : (t443 != 0) = false := bne_eq_false_iff_eq.mpr c5
  clear c5
  replace H := Option.bind_eq_some_iff.mp H
  obtain ⟨⟨t444, t445⟩, A60, H⟩ := H
  replace H : (if 0 ≤ a2 then (if a2 < (t444.length : Int) then (if a2 < (t445.length : Int) then (some (rd t444 a2, rd t445 a2, 0)) else (none)) else (none)) else (none)) = some (r1, r2, r3) := H
  have A6 := Aside0.mk A60
  clear A60
  by_cases c7 : 0 ≤ a2
  ·rw [if_pos c7] at H
   have c7b0 : decide (0 ≤ a2) = true := decide_eq_true c7
   clear c7
   by_cases c8 : a2 < (t444.length : Int)
   ·rw [if_pos c8] at H
    have c8b0 : decide (a2 < (t444.length : Int)) = true := decide_eq_true c8
    clear c8
    by_cases c9 : a2 < (t445.length : Int)
    ·rw [if_pos c9] at H
     have c9b0 : decide (a2 < (t445.length : Int)) = true := decide_eq_true c9
     clear c9
     simp only [Option.some.injEq, Prod.mk.injEq] at H
     obtain ⟨rfl, rfl, rfl⟩ := H
     go_enter Try.func17, Try.ntmps17
     go_wp2_with (first | (go_at_call 37; (with_reducible refine (spec_l10Code.calls k a0 _ _ l1 a2 t443 _ ?side1 ?side2 A4.out).mono ?_); (case side1 => repeat (first | exact HR1.out | (with_reducible refine Kd.C_alloc ?_ _) | (with_reducible refine Kd.C_drewN ?_ _) | (with_reducible refine Kd.C_drew ?_))); (case side2 => exact HC1.out); rintro e w10 ⟨rfl, hb⟩; have n0_ := Aside0.mk (below_step (by repeat (first | (with_reducible first | exact HB.out | apply below_alloc | apply pw_below_drewN | apply below_drew1) | exact HB.out)) hb); clear HB; have HB := n0_; clear n0_; (try clear hb); (try clear hb2); (try clear hk); (try clear hi)) | (go_at_call 38; (with_reducible refine (spec_l10Times.calls k a0 _ _ l1 t444 t445 _ ?side1 ?side2 A6.out).mono ?_); (case side1 => repeat (first | exact (Kd.C_below HR1.out HB.out) | (with_reducible refine Kd.C_alloc ?_ _) | (with_reducible refine Kd.C_drewN ?_ _) | (with_reducible refine Kd.C_drew ?_))); (case side2 => exact HC1.out); rintro e w11 ⟨v446, v448, rfl, ho0, ho1, hb⟩; have n0_ := Aside0.mk (Kd.R_lower ho0 (below_size (by repeat (first | (with_reducible first | exact HB.out | apply below_alloc | apply pw_below_drewN | apply below_drew1) | exact HB.out)))); have n1_ := Aside0.mk (Kd.R_lower ho1 (below_size (by repeat (first | (with_reducible first | exact HB.out | apply below_alloc | apply pw_below_drewN | apply below_drew1) | exact HB.out)))); have n2_ := Aside0.mk (below_step (by repeat (first | (with_reducible first | exact HB.out | apply below_alloc | apply pw_below_drewN | apply below_drew1) | exact HB.out)) hb); clear HB; have HO447 := n0_; have HO449 := n1_; have HB := n2_; clear n0_ n1_ n2_; (try clear hb); (try clear hb2); (try clear hk); (try clear hi); (try clear ho0); (try clear ho1); obtain ⟨Ao12, co12, eo12⟩ := Kd.R_slice HO447.out; subst eo12; have p450 : 0 ≤ (a2 : Int) := of_decide_eq_true (by first | (with_reducible assumption) | assumption); have q450 : a2 < (t444.length : Int) := of_decide_eq_true (by first | (with_reducible assumption) | assumption); obtain ⟨ad450, e450, hx450_0⟩ := Kd.at_int (Kd.R_reads' HO447.out).2.2 a2 p450 q450; cases e450; replace p450 := eq_true p450; replace q450 := eq_true q450; obtain ⟨Ao13, co13, eo13⟩ := Kd.R_slice HO449.out; subst eo13; have p451 : 0 ≤ (a2 : Int) := of_decide_eq_true (by first | (with_reducible assumption) | assumption); have q451 : a2 < (t445.length : Int) := of_decide_eq_true (by first | (with_reducible assumption) | assumption); obtain ⟨ad451, e451, hx451_0⟩ := Kd.at_int (Kd.R_reads' HO449.out).2.2 a2 p451 q451; cases e451; replace p451 := eq_true p451; replace q451 := eq_true q451))
     repeat (go_quiet (first | (go_at_call 37; (with_reducible refine (spec_l10Code.calls k a0 _ _ l1 a2 t443 _ ?side1 ?side2 A4.out).mono ?_); (case side1 => repeat (first | exact HR1.out | (with_reducible refine Kd.C_alloc ?_ _) | (with_reducible refine Kd.C_drewN ?_ _) | (with_reducible refine Kd.C_drew ?_))); (case side2 => exact HC1.out); rintro e w10 ⟨rfl, hb⟩; have n0_ := Aside0.mk (below_step (by repeat (first | (with_reducible first | exact HB.out | apply below_alloc | apply pw_below_drewN | apply below_drew1) | exact HB.out)) hb); clear HB; have HB := n0_; clear n0_; (try clear hb); (try clear hb2); (try clear hk); (try clear hi)) | (go_at_call 38; (with_reducible refine (spec_l10Times.calls k a0 _ _ l1 t444 t445 _ ?side1 ?side2 A6.out).mono ?_); (case side1 => repeat (first | exact (Kd.C_below HR1.out HB.out) | (with_reducible refine Kd.C_alloc ?_ _) | (with_reducible refine Kd.C_drewN ?_ _) | (with_reducible refine Kd.C_drew ?_))); (case side2 => exact HC1.out); rintro e w11 ⟨v446, v448, rfl, ho0, ho1, hb⟩; have n0_ := Aside0.mk (Kd.R_lower ho0 (below_size (by repeat (first | (with_reducible first | exact HB.out | apply below_alloc | apply pw_below_drewN | apply below_drew1) | exact HB.out)))); have n1_ := Aside0.mk (Kd.R_lower ho1 (below_size (by repeat (first | (with_reducible first | exact HB.out | apply below_alloc | apply pw_below_drewN | apply below_drew1) | exact HB.out)))); have n2_ := Aside0.mk (below_step (by repeat (first | (with_reducible first | exact HB.out | apply below_alloc | apply pw_below_drewN | apply below_drew1) | exact HB.out)) hb); clear HB; have HO447 := n0_; have HO449 := n1_; have HB := n2_; clear n0_ n1_ n2_; (try clear hb); (try clear hb2); (try clear hk); (try clear hi); (try clear ho0); (try clear ho1); obtain ⟨Ao12, co12, eo12⟩ := Kd.R_slice HO447.out; subst eo12; have p450 : 0 ≤ (a2 : Int) := of_decide_eq_true (by first | (with_reducible assumption) | assumption); have q450 : a2 < (t444.length : Int) := of_decide_eq_true (by first | (with_reducible assumption) | assumption); obtain ⟨ad450, e450, hx450_0⟩ := Kd.at_int (Kd.R_reads' HO447.out).2.2 a2 p450 q450; cases e450; replace p450 := eq_true p450; replace q450 := eq_true q450; obtain ⟨Ao13, co13, eo13⟩ := Kd.R_slice HO449.out; subst eo13; have p451 : 0 ≤ (a2 : Int) := of_decide_eq_true (by first | (with_reducible assumption) | assumption); have q451 : a2 < (t445.length : Int) := of_decide_eq_true (by first | (with_reducible assumption) | assumption); obtain ⟨ad451, e451, hx451_0⟩ := Kd.at_int (Kd.R_reads' HO449.out).2.2 a2 p451 q451; cases e451; replace p451 := eq_true p451; replace q451 := eq_true q451)); try go_wp2_with (first | (go_at_call 37; (with_reducible refine (spec_l10Code.calls k a0 _ _ l1 a2 t443 _ ?side1 ?side2 A4.out).mono ?_); (case side1 => repeat (first | exact HR1.out | (with_reducible refine Kd.C_alloc ?_ _) | (with_reducible refine Kd.C_drewN ?_ _) | (with_reducible refine Kd.C_drew ?_))); (case side2 => exact HC1.out); rintro e w10 ⟨rfl, hb⟩; have n0_ := Aside0.mk (below_step (by repeat (first | (with_reducible first | exact HB.out | apply below_alloc | apply pw_below_drewN | apply below_drew1) | exact HB.out)) hb); clear HB; have HB := n0_; clear n0_; (try clear hb); (try clear hb2); (try clear hk); (try clear hi)) | (go_at_call 38; (with_reducible refine (spec_l10Times.calls k a0 _ _ l1 t444 t445 _ ?side1 ?side2 A6.out).mono ?_); (case side1 => repeat (first | exact (Kd.C_below HR1.out HB.out) | (with_reducible refine Kd.C_alloc ?_ _) | (with_reducible refine Kd.C_drewN ?_ _) | (with_reducible refine Kd.C_drew ?_))); (case side2 => exact HC1.out); rintro e w11 ⟨v446, v448, rfl, ho0, ho1, hb⟩; have n0_ := Aside0.mk (Kd.R_lower ho0 (below_size (by repeat (first | (with_reducible first | exact HB.out | apply below_alloc | apply pw_below_drewN | apply below_drew1) | exact HB.out)))); have n1_ := Aside0.mk (Kd.R_lower ho1 (below_size (by repeat (first | (with_reducible first | exact HB.out | apply below_alloc | apply pw_below_drewN | apply below_drew1) | exact HB.out)))); have n2_ := Aside0.mk (below_step (by repeat (first | (with_reducible first | exact HB.out | apply below_alloc | apply pw_below_drewN | apply below_drew1) | exact HB.out)) hb); clear HB; have HO447 := n0_; have HO449 := n1_; have HB := n2_; clear n0_ n1_ n2_; (try clear hb); (try clear hb2); (try clear hk); (try clear hi); (try clear ho0); (try clear ho1); obtain ⟨Ao12, co12, eo12⟩ := Kd.R_slice HO447.out; subst eo12; have p450 : 0 ≤ (a2 : Int) := of_decide_eq_true (by first | (with_reducible assumption) | assumption); have q450 : a2 < (t444.length : Int) := of_decide_eq_true (by first | (with_reducible assumption) | assumption); obtain ⟨ad450, e450, hx450_0⟩ := Kd.at_int (Kd.R_reads' HO447.out).2.2 a2 p450 q450; cases e450; replace p450 := eq_true p450; replace q450 := eq_true q450; obtain ⟨Ao13, co13, eo13⟩ := Kd.R_slice HO449.out; subst eo13; have p451 : 0 ≤ (a2 : Int) := of_decide_eq_true (by first | (with_reducible assumption) | assumption); have q451 : a2 < (t445.length : Int) := of_decide_eq_true (by first | (with_reducible assumption) | assumption); obtain ⟨ad451, e451, hx451_0⟩ := Kd.at_int (Kd.R_reads' HO449.out).2.2 a2 p451 q451; cases e451; replace p451 := eq_true p451; replace q451 := eq_true q451)))
     go_ret3
     exact ⟨by first | rfl | (simp [errW_none, errW_some] <;> rfl) | (simp [*, errW_none, errW_some] <;> rfl), by repeat (first | (with_reducible first | exact HB.out | apply below_alloc | apply pw_below_drewN | apply below_drew1) | exact HB.out)⟩
    ·rw [if_neg c9] at H
     exact absurd H (by simp)
   ·rw [if_neg c8] at H
    exact absurd H (by simp)
  ·rw [if_neg c7] at H
   exact absurd H (by simp)
 ·rw [if_neg c5] at H
  have c5b0 : (t443 == 0) = false := beq_eq_false_iff_ne.mpr c5
  have c5b1 : (t443 != 0) = true := bne_iff_ne.mpr c5
  simp only [Option.some.injEq, Prod.mk.injEq] at H
  obtain ⟨rfl, rfl, rfl⟩ := H
  go_enter Try.func17, Try.ntmps17
  go_wp2_with (first | (go_at_call 37; (with_reducible refine (spec_l10Code.calls k a0 _ _ l1 a2 t443 _ ?side1 ?side2 A4.out).mono ?_); (case side1 => repeat (first | exact HR1.out | (with_reducible refine Kd.C_alloc ?_ _) | (with_reducible refine Kd.C_drewN ?_ _) | (with_reducible refine Kd.C_drew ?_))); (case side2 => exact HC1.out); rintro e w14 ⟨rfl, hb⟩; have n0_ := Aside0.mk (below_step (by repeat (first | (with_reducible first | exact HB.out | apply below_alloc | apply pw_below_drewN | apply below_drew1) | exact HB.out)) hb); clear HB; have HB := n0_; clear n0_; (try clear hb); (try clear hb2); (try clear hk); (try clear hi)))
  repeat (go_quiet (first | (go_at_call 37; (with_reducible refine (spec_l10Code.calls k a0 _ _ l1 a2 t443 _ ?side1 ?side2 A4.out).mono ?_); (case side1 => repeat (first | exact HR1.out | (with_reducible refine Kd.C_alloc ?_ _) | (with_reducible refine Kd.C_drewN ?_ _) | (with_reducible refine Kd.C_drew ?_))); (case side2 => exact HC1.out); rintro e w14 ⟨rfl, hb⟩; have n0_ := Aside0.mk (below_step (by repeat (first | (with_reducible first | exact HB.out | apply below_alloc | apply pw_below_drewN | apply below_drew1) | exact HB.out)) hb); clear HB; have HB := n0_; clear n0_; (try clear hb); (try clear hb2); (try clear hk); (try clear hi))); try go_wp2_with (first | (go_at_call 37; (with_reducible refine (spec_l10Code.calls k a0 _ _ l1 a2 t443 _ ?side1 ?side2 A4.out).mono ?_); (case side1 => repeat (first | exact HR1.out | (with_reducible refine Kd.C_alloc ?_ _) | (with_reducible refine Kd.C_drewN ?_ _) | (with_reducible refine Kd.C_drew ?_))); (case side2 => exact HC1.out); rintro e w14 ⟨rfl, hb⟩; have n0_ := Aside0.mk (below_step (by repeat (first | (with_reducible first | exact HB.out | apply below_alloc | apply pw_below_drewN | apply below_drew1) | exact HB.out)) hb); clear HB; have HB := n0_; clear n0_; (try clear hb); (try clear hb2); (try clear hk); (try clear hi))))
  go_ret3
  exact ⟨by first | rfl | (simp [errW_none, errW_some] <;> rfl) | (simp [*, errW_none, errW_some] <;> rfl), by repeat (first | (with_reducible first | exact HB.out | apply below_alloc | apply pw_below_drewN | apply below_drew1) | exact HB.out)⟩
end Go.Proofs.Ytlnfjhahnacmiaa.F
namespace Go.Proofs.Ytlnfjhahnacmiaa.F
open Go.RowKit Go.Proofs.YtlnfjhahnacmiaaW.PrintWords Go.Proofs.YtlnfjhahnacmiaaW.PrintLast Go.Proofs.YtlnfjhahnacmiaaW.PrintMore
set_option linter.unusedVariables false
set_option linter.unusedSimpArgs false
theorem impl_between {m : Nat} {xs : List S39} (h : areFuses (m : Int) xs = true) (h1 : 1 ≤ m) (h2 : m ≤ 10) (hx : xs.length ≤ 20) {E L : List Int} (hE : E.length = m) (hL : L.length = m) {K : Nat} (ht : ∀ k, K ≤ k → impl_litTimes.f k (m : Int) xs = some (E, L)) (a : Int) (k : Nat) (hk : K + 40 ≤ k) : impl_LitBetween.f k (m : Int) xs a = some (if cdo E m a = 0 then (rd E a, rd L a, 0) else (0, 0, cdo E m a)) := by
 unfold impl_LitBetween.f
 rw [impl_code1 h h1 h2 hx hE ht a k (by omega)]
 simp only [Option.bind_some]
 by_cases c : cdo E m a = 0
 ·have ha := cdo_in c
  rw [if_pos c, if_pos c, ht k (by omega)]
  simp only [Option.bind_some]
  rw [if_pos (by omega), if_pos (by omega), if_pos (by omega)]
 ·rw [if_neg c, if_neg c]
theorem cdo_at {E : List Int} {m : Nat} {a : Int} (h : 0 ≤ a ∧ a < (m : Int)) : cdo E m a = if rd E a < 0 then 4 else 0 := by
 unfold cdo
 rw [if_pos (inB_true.2 (by omega))]
theorem has_int (X : List Int) (hX : X.length ≤ 4000000) (a : Int) (k : Nat) (hk : X.length < k) : laws_hasInt.f k X a = some (decide (a ∈ X)) := by
 have loop : ∀ d i k, X.length - i = d → i ≤ X.length → d < k → laws_hasInt.l0 k X a (i : Int) = some (decide (a ∈ X.drop i)) := by
  intro d
  induction d with
  | zero =>
   intro i k hd hi hk
   obtain ⟨k, rfl⟩ : ∃ m, k = m + 1 := ⟨k - 1, by omega⟩
   simp only [laws_hasInt.l0]
   rw [if_neg (by omega), List.drop_eq_nil_of_le (by omega)]
   rfl
  | succ d ih =>
   intro i k hd hi hk
   obtain ⟨k, rfl⟩ : ∃ m, k = m + 1 := ⟨k - 1, by omega⟩
   have hlt : i < X.length := by omega
   have e : X.drop i = rd X (i : Int) :: X.drop (i + 1) := by
    rw [List.drop_eq_getElem_cons hlt]
    unfold rd
    rw [Int.toNat_natCast, List.getD_eq_getElem?_getD, List.getElem?_eq_getElem hlt]
    rfl
   simp only [laws_hasInt.l0]
   rw [if_pos (by omega), if_pos (by omega), w64 (n := (i : Int) + 1) (by omega), e]
   by_cases c : rd X (i : Int) = a
   ·rw [if_pos c, decide_eq_true (List.mem_cons.2 (.inl c.symm))]
   ·rw [if_neg c]
    refine (ih (i + 1) k (by omega) (by omega) (by omega)).trans ?_
    congr 1
    rw [Bool.eq_iff_iff, decide_eq_true_iff, decide_eq_true_iff, List.mem_cons]
    exact ⟨fun x => .inr x, fun x => x.elim (fun y => absurd y.symm c) id⟩
 unfold laws_hasInt.f
 exact loop X.length 0 k (by omega) (by omega) hk
theorem like_ints (X : List Int) (hX : X.length ≤ 4000000) (k : Nat) (hk : X.length < k) : laws_likeInts.f k X X = some true := by
 have loop : ∀ d i k, X.length - i = d → i ≤ X.length → d < k → laws_likeInts.l0 k X X (i : Int) = some true := by
  intro d
  induction d with
  | zero =>
   intro i k hd hi hk
   obtain ⟨k, rfl⟩ : ∃ m, k = m + 1 := ⟨k - 1, by omega⟩
   simp only [laws_likeInts.l0]
   rw [if_neg (by omega)]
  | succ d ih =>
   intro i k hd hi hk
   obtain ⟨k, rfl⟩ : ∃ m, k = m + 1 := ⟨k - 1, by omega⟩
   simp only [laws_likeInts.l0]
   rw [if_pos (by omega), if_pos (by omega), if_pos (by omega), if_pos trivial, w64 (by omega)]
   exact ih (i + 1) k (by omega) (by omega) (by omega)
 unfold laws_likeInts.f
 rw [if_pos rfl]
 exact loop X.length 0 k (by omega) (by omega) hk
theorem fuse_mem_iff (n : Int) (xs : List S39) : allF (fuseAt n xs) 0 xs.length = true ↔ ∀ y ∈ xs, (inB y.f0 0 (wrap64 (n - 1)) && (inB y.f1 (wrap64 (y.f0 + 1)) (wrap64 (n - 1)) && (inB y.f2 0 100000 && inB y.f3 y.f2 100000))) = true := by
 rw [allF_true]
 constructor
 ·intro h y hy
  obtain ⟨i, hi, rfl⟩ := List.getElem_of_mem hy
  have := h i (Nat.zero_le _) (by omega)
  unfold fuseAt fu_at at this
  rw [List.getD_eq_getElem?_getD, List.getElem?_eq_getElem hi] at this
  exact this
 ·intro h i _ hi
  exact h (fu_at xs i) (fu_mem (by omega))
theorem areFuses_without {n : Int} {xs : List S39} (h : areFuses n xs = true) (i : Nat) (hi : i < xs.length) : areFuses n (without xs i) = true := by
 unfold areFuses at h ⊢
 rw [Bool.and_eq_true, Bool.and_eq_true, decide_eq_true_iff, fuse_mem_iff] at h
 rw [Bool.and_eq_true, Bool.and_eq_true, decide_eq_true_iff, fuse_mem_iff]
 refine ⟨fun y hy => h.1 y ?_, h.2.1, by rw [without_len xs i hi]; omega⟩
 unfold without at hy
 rcases List.mem_append.1 hy with g | g
 ·exact List.mem_of_mem_take g
 ·exact List.mem_of_mem_drop g
end Go.Proofs.Ytlnfjhahnacmiaa.F
namespace Go.Proofs.Ytlnfjhahnacmiaa.F
open Go.RowKit Go.Proofs.YtlnfjhahnacmiaaW.PrintWords Go.Proofs.YtlnfjhahnacmiaaW.PrintLast Go.Proofs.YtlnfjhahnacmiaaW.PrintMore
set_option linter.unusedVariables false
set_option linter.unusedSimpArgs false
theorem mem_at {xs : List S39} {f : S39} (h : f ∈ xs) : ∃ j, j < xs.length ∧ fu_at xs j = f := by
 obtain ⟨j, hj, e⟩ := List.getElem_of_mem h
 refine ⟨j, hj, ?_⟩
 unfold fu_at
 rw [List.getD_eq_getElem?_getD, List.getElem?_eq_getElem hj]
 exact e
theorem mem_without {xs : List S39} {i j : Nat} (hi : i < xs.length) (hj : j < xs.length) (h : j ≠ i) : fu_at xs j ∈ without xs i := by
 have e : fu_at xs j = xs[j] := by
  unfold fu_at
  rw [List.getD_eq_getElem?_getD, List.getElem?_eq_getElem hj]
  rfl
 rw [e]
 unfold without
 rw [List.mem_append]
 by_cases c : j < i
 ·left
  have hl : j < (xs.take i).length := by rw [List.length_take]; omega
  rw [← List.getElem_take (xs := xs) (j := i) (i := j) (h := hl)]
  exact List.getElem_mem hl
 ·right
  have hl : j - (i + 1) < (xs.drop (i + 1)).length := by rw [List.length_drop]; omega
  have e2 : (xs.drop (i + 1))[j - (i + 1)] = xs[j] := by
   rw [List.getElem_drop]
   congr 1
   omega
  rw [← e2]
  exact List.getElem_mem hl
theorem without_sub {xs : List S39} {i : Nat} {f : S39} (h : f ∈ without xs i) : f ∈ xs := by
 unfold without at h
 rcases List.mem_append.1 h with g | g
 ·exact List.mem_of_mem_take g
 ·exact List.mem_of_mem_drop g
theorem el_le {m : Nat} {xs : List S39} (hf : FOl m xs) {E L : List Int} (h : PL m xs m E L) : ∀ (d : Nat) (u : Int), u < (d : Int) → 0 ≤ u → u < (m : Int) → 0 ≤ rd E u → rd E u ≤ rd L u := by
 intro d
 induction d with
 | zero => intro u h1 h2; omega
 | succ d ih =>
  intro u h1 h2 h3 h4
  rcases Int.lt_or_le 0 u with z | z
  ·have gl := h.2.2.2 u z h3
   have ge := h.1.2.2 u z h3
   have hp := pl_pos hf.1 h h2 h3 h4
   obtain ⟨j, j1, j2, j3, j4⟩ := gl.2.2 hp.1
   have g := hf.1 j j1
   have g' := hf.2 j j1
   have i1 := ih (fu_at xs j).f0 (by omega) g.1 (by omega) j3
   have i2 := ge.2.1 j j1 j2 j3
   omega
  ·have e : u = 0 := by omega
   subst e
   have a := h.2.2.1
   have b := h.1.2.1
   omega
theorem less_late {m : Nat} {xs ys : List S39} (hf : FOl m xs) (hg : FOl m ys) (sub : ∀ f ∈ ys, f ∈ xs) {E L E' L' : List Int} (h : PL m xs m E L) (h' : PL m ys m E' L') : ∀ (d : Nat) (u : Int), u < (d : Int) → 0 ≤ u → u < (m : Int) → 0 ≤ rd E' u → 0 ≤ rd E u ∧ rd E u ≤ rd E' u ∧ rd L u ≤ rd L' u := by
 intro d
 induction d with
 | zero => intro u h1 h2; omega
 | succ d ih =>
  intro u h1 h2 h3 h4
  rcases Int.lt_or_le 0 u with z | z
  ·have hp := pl_pos hg.1 h' h2 h3 h4
   obtain ⟨j, j1, j2, j3, j4⟩ := (h'.1.2.2 u z h3).2.2 h4
   obtain ⟨i, i1, i2, i3, i4⟩ := (h'.2.2.2 u z h3).2.2 hp.1
   have g := hg.1 j j1
   have g2 := hg.1 i i1
   have a := ih (fu_at ys j).f0 (by omega) g.1 (by omega) j3
   have b := ih (fu_at ys i).f0 (by omega) g2.1 (by omega) i3
   obtain ⟨j', k1, k2⟩ := mem_at (sub _ (fu_mem j1))
   obtain ⟨i', l1, l2⟩ := mem_at (sub _ (fu_mem i1))
   have c := (h.1.2.2 u z h3).2.1 j' k1 (by rw [k2]; exact j2) (by rw [k2]; exact a.1)
   have e := (h.2.2.2 u z h3).2.1 i' l1 (by rw [l2]; exact i2) (by rw [l2]; exact b.1)
   rw [k2] at c
   rw [l2] at e
   omega
  ·have e : u = 0 := by omega
   subst e
   have a := h.2.2.1
   have b := h.1.2.1
   have a' := h'.2.2.1
   have b' := h'.1.2.1
   omega
theorem idle_same {m : Nat} {xs : List S39} (hf : FOl m xs) {i : Nat} (hi : i < xs.length) (hg : FOl m (without xs i)) {E L E' L' : List Int} (h : PL m xs m E L) (h' : PL m (without xs i) m E' L') (idle : rd E (fu_at xs i).f0 < 0 ∨ rd E (fu_at xs i).f0 + (fu_at xs i).f2 > rd L (fu_at xs i).f1) : ∀ (d : Nat) (u : Int), u < (d : Int) → 0 ≤ u → u < (m : Int) → 0 ≤ rd E u → 0 ≤ rd E' u ∧ rd E' u ≤ rd E u ∧ rd L' u ≤ rd L u := by
 intro d
 induction d with
 | zero => intro u h1 h2; omega
 | succ d ih =>
  intro u h1 h2 h3 h4
  rcases Int.lt_or_le 0 u with z | z
  ·have hp := pl_pos hf.1 h h2 h3 h4
   have le := el_le hf h m u h3 h2 h3 h4
   obtain ⟨j, j1, j2, j3, j4⟩ := (h.1.2.2 u z h3).2.2 h4
   obtain ⟨n, n1, n2, n3, n4⟩ := (h.2.2.2 u z h3).2.2 hp.1
   have g := hf.1 j j1
   have g2 := hf.1 n n1
   have g3 := hf.2 n n1
   have le2 := el_le hf h m (fu_at xs n).f0 (by omega) g2.1 (by omega) n3
   have ji : j ≠ i := fun e => by
    subst e
    rw [j2] at idle
    omega
   have ni : n ≠ i := fun e => by
    subst e
    rw [n2] at idle
    omega
   have a := ih (fu_at xs j).f0 (by omega) g.1 (by omega) j3
   have b := ih (fu_at xs n).f0 (by omega) g2.1 (by omega) n3
   obtain ⟨j', k1, k2⟩ := mem_at (mem_without hi j1 ji)
   obtain ⟨n', l1, l2⟩ := mem_at (mem_without hi n1 ni)
   have c := (h'.1.2.2 u z h3).2.1 j' k1 (by rw [k2]; exact j2) (by rw [k2]; exact a.1)
   have e := (h'.2.2.2 u z h3).2.1 n' l1 (by rw [l2]; exact n2) (by rw [l2]; exact b.1)
   rw [k2] at c
   rw [l2] at e
   omega
  ·have e : u = 0 := by omega
   subst e
   have a := h.2.2.1
   have b := h.1.2.1
   have a' := h'.2.2.1
   have b' := h'.1.2.1
   omega
theorem fol_without {m : Nat} {xs : List S39} (hf : FOl m xs) (i : Nat) : FOl m (without xs i) := by
 have key : ∀ j, j < (without xs i).length → ∃ n, n < xs.length ∧ fu_at xs n = fu_at (without xs i) j := fun j hj => mem_at (without_sub (fu_mem hj))
 refine ⟨fun j hj => ?_, fun j hj => ?_⟩
 ·obtain ⟨n, n1, n2⟩ := key j hj
  rw [← n2]; exact hf.1 n n1
 ·obtain ⟨n, n1, n2⟩ := key j hj
  rw [← n2]; exact hf.2 n n1
theorem times_m {m : Nat} {xs : List S39} (h : areFuses (m : Int) xs = true) : ∃ (E L : List Int), 1 ≤ m ∧ m ≤ 10 ∧ xs.length ≤ 20 ∧ FOl m xs ∧ E.length = m ∧ L.length = m ∧ PL m xs m E L ∧ Evt (fun k => spec_l10Times.f k (m : Int) xs = some (E, L)) ∧ Evt (fun k => impl_litTimes.f k (m : Int) xs = some (E, L)) := by
 obtain ⟨m', E, L, e, r⟩ := timesl_is h
 have e' : m' = m := by omega
 subst e'
 exact ⟨E, L, r⟩
end Go.Proofs.Ytlnfjhahnacmiaa.F
namespace Go.Proofs.Ytlnfjhahnacmiaa.F
open Go.RowKit Go.Proofs.YtlnfjhahnacmiaaW.PrintWords Go.Proofs.YtlnfjhahnacmiaaW.PrintLast Go.Proofs.YtlnfjhahnacmiaaW.PrintMore
set_option linter.unusedVariables false
set_option linter.unusedSimpArgs false
def Code (c : List Int) : Prop := c.length ≤ 4096 ∧ ∀ x ∈ c, 0 ≤ x ∧ x ≤ 255
def St (c : List Int) (a s : Int) : Prop := 0 ≤ a ∧ a ≤ (c.length : Int) ∧ 0 ≤ s ∧ s < 2147483647
theorem rd_code {c : List Int} (hc : Code c) (i : Int) : 0 ≤ rd c i ∧ rd c i ≤ 255 := by
 unfold rd
 rw [List.getD_eq_getElem?_getD]
 cases h : c[i.toNat]? with
 | none => exact ⟨Int.le_refl _, by decide⟩
 | some x => exact hc.2 x (List.mem_of_getElem? h)
theorem tmod_nn {a b : Int} (ha : 0 ≤ a) (hb : 0 < b) : 0 ≤ Int.tmod a b ∧ Int.tmod a b < b := by
 rw [Int.tmod_eq_emod_of_nonneg ha]
 exact ⟨Int.emod_nonneg _ (by omega), Int.emod_lt_of_pos _ hb⟩
theorem next_ok {c : List Int} (hc : Code c) {a s : Int} (h : St c a s) (n : Int) (hn : n ≤ 4611686018427387904) : ∃ r a' s', spec_l01Next.f c a s n = some (r, a', s') ∧ St c a' s' ∧ 0 ≤ r ∧ (r < n ∨ (n ≤ 1 ∧ r = 0)) := by
 obtain ⟨h1, h2, h3, h4⟩ := h
 have hl := hc.1
 unfold spec_l01Next.f
 by_cases c1 : n ≤ 1
 ·rw [if_pos c1]
  exact ⟨0, a, s, rfl, ⟨h1, h2, h3, h4⟩, Int.le_refl _, .inr ⟨c1, rfl⟩⟩
 ·have hs := tmod_nn (a := s * 48271 + 29) (b := 2147483647) (by omega) (by omega)
  rw [if_neg c1, w64 (n := s * 48271) (by omega), w64 (n := s * 48271 + 29) (by omega)]
  generalize Int.tmod (s * 48271 + 29) 2147483647 = z at hs ⊢
  have hd : Int.tdiv z 31 = z / 31 := Int.tdiv_eq_ediv_of_nonneg hs.1
  rw [hd]
  have n0 : ¬ n = 0 := by omega
  by_cases c2 : a < (c.length : Int)
  ·have hr := rd_code hc a
   have p := tmod_nn (a := z / 31 + rd c a) (b := n) (by omega) (by omega)
   have q := tmod_nn (a := rd c a) (b := n) (by omega) (by omega)
   simp only [if_neg n0]
   rw [if_pos c2, if_pos h1, w64 (n := a + 1) (by omega), w64 (n := z / 31) (by omega), w64 (n := rd c a) (by omega), w64 (n := z / 31 + rd c a) (by omega), w64 (n := a + 1 - 1) (by omega), show a + 1 - 1 = a by omega, w64 (n := rd c a) (by omega)]
   by_cases c3 : n ≤ 256
   ·rw [if_pos c3]
    by_cases c4 : Int.tmod (a + 1) 2 = 0
    ·rw [if_pos c4, if_pos h1, if_pos c2]
     exact ⟨_, _, _, rfl, ⟨by omega, by omega, hs.1, hs.2⟩, q.1, .inl q.2⟩
    ·rw [if_neg c4]
     exact ⟨_, _, _, rfl, ⟨by omega, by omega, hs.1, hs.2⟩, p.1, .inl p.2⟩
   ·rw [if_neg c3]
    exact ⟨_, _, _, rfl, ⟨by omega, by omega, hs.1, hs.2⟩, p.1, .inl p.2⟩
  ·have p := tmod_nn (a := z / 31) (b := n) (by omega) (by omega)
   simp only [if_neg n0]
   rw [if_neg c2, w64 (n := z / 31) (by omega)]
   exact ⟨_, _, _, rfl, ⟨h1, h2, hs.1, hs.2⟩, p.1, .inl p.2⟩
theorem pick_ok {c : List Int} (hc : Code c) {a s : Int} (h : St c a s) (l : List Int) (hl : 0 < l.length) (hl2 : l.length ≤ 1000) : ∃ r a' s', spec_l01Pick.f c a s l = some (r, a', s') ∧ St c a' s' ∧ r ∈ l := by
 obtain ⟨r, a', s', e, h', h0, h1⟩ := next_ok hc h (l.length : Int) (by omega)
 refine ⟨rd l r, a', s', ?_, h', ?_⟩
 ·unfold spec_l01Pick.f
  rw [e]
  simp only [Option.bind_some]
  rw [if_pos h0, if_pos (by omega)]
 ·have hr : r.toNat < l.length := by omega
  unfold rd
  rw [List.getD_eq_getElem?_getD, List.getElem?_eq_getElem hr]
  exact List.getElem_mem hr
theorem from_ok {c : List Int} (hc : Code c) : ∃ s, (∀ k, 70 ≤ k → spec_l01From.f k c = some (c, 0, s)) ∧ St c 0 s := by
 have loop : ∀ (d : Nat) (i s : Int), 0 ≤ i → i ≤ 64 → 64 - i ≤ d → 0 ≤ s → s < 2147483647 → ∃ s', (∀ k, d < k → spec_l01From.l0 k c i c 0 s = some (c, 0, s')) ∧ St c 0 s' := by
  intro d
  induction d with
  | zero =>
   intro i s h1 h2 h3 h4 h5
   refine ⟨s, fun k hk => ?_, by omega, by omega, h4, h5⟩
   obtain ⟨k, rfl⟩ : ∃ m, k = m + 1 := ⟨k - 1, by omega⟩
   simp only [spec_l01From.l0]
   rw [if_neg (show ¬ i < 64 by omega)]
   split <;> rfl
  | succ d ih =>
   intro i s h1 h2 h3 h4 h5
   by_cases c1 : i < (c.length : Int) ∧ i < 64
   ·have hr := rd_code hc i
    have hm := tmod_nn (a := s * 83 + rd c i) (b := 2147483647) (by omega) (by omega)
    obtain ⟨s', e, hs⟩ := ih (i + 1) (Int.tmod (s * 83 + rd c i) 2147483647) (by omega) (by omega) (by omega) hm.1 hm.2
    refine ⟨s', fun k hk => ?_, hs⟩
    obtain ⟨k, rfl⟩ : ∃ m, k = m + 1 := ⟨k - 1, by omega⟩
    simp only [spec_l01From.l0]
    rw [if_pos c1.1, if_pos c1.2, if_pos h1, w64 (n := i + 1) (by omega), w64 (n := s * 83) (by omega), w64 (n := rd c i) (by omega), w64 (n := s * 83 + rd c i) (by omega)]
    exact e k (by omega)
   ·refine ⟨s, fun k hk => ?_, by omega, by omega, h4, h5⟩
    obtain ⟨k, rfl⟩ : ∃ m, k = m + 1 := ⟨k - 1, by omega⟩
    simp only [spec_l01From.l0]
    by_cases c2 : i < (c.length : Int)
    ·rw [if_pos c2, if_neg (fun x => c1 ⟨c2, x⟩)]
    ·rw [if_neg c2]
 obtain ⟨s', e, hs⟩ := loop 64 0 61043 (by omega) (by omega) (by omega) (by omega) (by omega)
 exact ⟨s', fun k hk => e k (by omega), hs⟩
theorem code_of {l : List Int} (h : ¬ (l.length : Int) > 4096) (hb : ∀ x ∈ l, (Go.Lit.int .u8 x).wf = true) : Code l := ⟨by omega, fun x hx => by
 have h := hb x hx
 simp [Go.Lit.wf, Go.IntKind.min, Go.IntKind.max, Go.IntKind.signed, Go.IntKind.bits] at h
 omega⟩
end Go.Proofs.Ytlnfjhahnacmiaa.F
namespace Go.Proofs.Ytlnfjhahnacmiaa.F
open Go.RowKit Go.Proofs.YtlnfjhahnacmiaaW.PrintWords Go.Proofs.YtlnfjhahnacmiaaW.PrintLast Go.Proofs.YtlnfjhahnacmiaaW.PrintMore
set_option linter.unusedVariables false
set_option linter.unusedSimpArgs false
theorem fuse_draw {c : List Int} (hc : Code c) {a s : Int} (h : St c a s) : ∃ n xs a' s', (∀ k, 60 ≤ k → spec_l10Draw.f k c a s = some (n, xs, a', s')) ∧ St c a' s' ∧ xs.length ≤ 40 ∧ 0 ≤ n ∧ n ≤ 11 := by
 have l1 : ∀ (n : Int) (d : Nat) (xs : List S39) (a s : Int), 21 - xs.length = d → xs.length ≤ 30 → St c a s → ∃ r a' s', (∀ k, d < k → spec_l10Draw.l1 k n xs c a s = some (n, r, a', s')) ∧ St c a' s' ∧ r.length ≤ 40 := by
  intro n d
  induction d with
  | zero =>
   intro xs a s hd hx h
   obtain ⟨r1, a1, s1, e1, h1, b1, b2⟩ := next_ok hc h 2 (by omega)
   refine ⟨xs, a1, s1, fun k hk => ?_, h1, by omega⟩
   obtain ⟨k, rfl⟩ : ∃ m, k = m + 1 := ⟨k - 1, by omega⟩
   simp only [spec_l10Draw.l1, e1, Option.bind_some]
   rw [w64 (n := 20 + r1) (by omega), if_neg (by omega)]
  | succ d ih =>
   intro xs a s hd hx h
   obtain ⟨r1, a1, s1, e1, h1, b1, b2⟩ := next_ok hc h 2 (by omega)
   by_cases c1 : (xs.length : Int) < 20 + r1
   ·obtain ⟨r, a', s', e, h', hl⟩ := ih (xs ++ [(⟨0, 1, 700, 900⟩ : S39)]) a1 s1 (by rw [List.length_append]; show 21 - (xs.length + 1) = d; omega) (by rw [List.length_append]; show xs.length + 1 ≤ 30; omega) h1
    refine ⟨r, a', s', fun k hk => ?_, h', hl⟩
    obtain ⟨k, rfl⟩ : ∃ m, k = m + 1 := ⟨k - 1, by omega⟩
    simp only [spec_l10Draw.l1, e1, Option.bind_some]
    rw [w64 (n := 20 + r1) (by omega), if_pos c1, if_pos (by omega)]
    exact e k (by omega)
   ·refine ⟨xs, a1, s1, fun k hk => ?_, h1, by omega⟩
    obtain ⟨k, rfl⟩ : ∃ m, k = m + 1 := ⟨k - 1, by omega⟩
    simp only [spec_l10Draw.l1, e1, Option.bind_some]
    rw [w64 (n := 20 + r1) (by omega), if_neg c1]
 have fin : ∀ (n x : Int) (xs : List S39) (a s : Int), ¬ x > 0 → 0 ≤ n → n ≤ 11 → xs.length ≤ 20 → St c a s → ∃ m r a' s', (∀ k, 30 ≤ k → spec_l10Draw.l0 k n xs x c a s = some (m, r, a', s')) ∧ St c a' s' ∧ r.length ≤ 40 ∧ 0 ≤ m ∧ m ≤ 11 := by
  intro n x xs a s hn n0 n1 hx h
  obtain ⟨r1, a1, s1, e1, h1, b1, b2⟩ := next_ok hc h 40 (by omega)
  have st : ∀ k, 30 ≤ k → ∃ m, k = m + 1 ∧ 29 ≤ m := fun k hk => ⟨k - 1, by omega, by omega⟩
  by_cases d0 : r1 = 0
  ·obtain ⟨r2, a2, s2, e2, h2, m2⟩ := pick_ok hc h1 [0, 1, 10, 11] (by simp) (by simp)
   refine ⟨r2, xs, a2, s2, fun k hk => ?_, h2, by omega, ?_⟩
   ·obtain ⟨k, rfl, hk⟩ := st k hk
    simp only [spec_l10Draw.l0]
    rw [if_neg hn]
    simp only [e1, e2, Option.bind_some]
    rw [if_pos d0]
   ·simp only [List.mem_cons, List.not_mem_nil, or_false] at m2
    omega
  by_cases d1 : r1 = 1
  ·obtain ⟨r2, a2, s2, e2, h2, _⟩ := next_ok hc h1 3 (by omega)
   refine ⟨n, xs ++ [(⟨1, r2, 5, 5⟩ : S39)], a2, s2, fun k hk => ?_, h2, by rw [List.length_append]; show xs.length + 1 ≤ 40; omega, n0, n1⟩
   obtain ⟨k, rfl, hk⟩ := st k hk
   simp only [spec_l10Draw.l0]
   rw [if_neg hn]
   simp only [e1, e2, Option.bind_some]
   rw [if_neg d0, if_pos d1, if_pos (by omega)]
  by_cases d2 : r1 = 2
  ·obtain ⟨r2, a2, s2, e2, h2, _⟩ := pick_ok hc h1 [6, -1] (by simp) (by simp)
   obtain ⟨r3, a3, s3, e3, h3, _⟩ := pick_ok hc h2 [5, 100000, 100001] (by simp) (by simp)
   refine ⟨n, xs ++ [(⟨0, 1, r2, r3⟩ : S39)], a3, s3, fun k hk => ?_, h3, by rw [List.length_append]; show xs.length + 1 ≤ 40; omega, n0, n1⟩
   obtain ⟨k, rfl, hk⟩ := st k hk
   simp only [spec_l10Draw.l0]
   rw [if_neg hn]
   simp only [e1, e2, e3, Option.bind_some]
   rw [if_neg d0, if_neg d1, if_pos d2, if_pos (by omega)]
  by_cases d3 : r1 = 3
  ·obtain ⟨r, a', s', e, h', hl⟩ := l1 n (21 - xs.length) xs a1 s1 rfl (by omega) h1
   refine ⟨n, r, a', s', fun k hk => ?_, h', hl, n0, n1⟩
   obtain ⟨k, rfl, hk⟩ := st k hk
   simp only [spec_l10Draw.l0]
   rw [if_neg hn]
   simp only [e1, Option.bind_some]
   rw [if_neg d0, if_neg d1, if_neg d2, if_pos d3]
   exact e k (by omega)
  ·refine ⟨n, xs, a1, s1, fun k hk => ?_, h1, by omega, n0, n1⟩
   obtain ⟨k, rfl, hk⟩ := st k hk
   simp only [spec_l10Draw.l0]
   rw [if_neg hn]
   simp only [e1, Option.bind_some]
   rw [if_neg d0, if_neg d1, if_neg d2, if_neg d3]
 have l0 : ∀ (n : Int), 2 ≤ n → n ≤ 7 → ∀ (d : Nat) (x : Int) (xs : List S39) (a s : Int), x ≤ d → xs.length + d ≤ 20 → St c a s → ∃ m r a' s', (∀ k, d + 30 ≤ k → spec_l10Draw.l0 k n xs x c a s = some (m, r, a', s')) ∧ St c a' s' ∧ r.length ≤ 40 ∧ 0 ≤ m ∧ m ≤ 11 := by
  intro n n1 n2 d
  induction d with
  | zero =>
   intro x xs a s hx hl h
   obtain ⟨m, r, a', s', e, r2⟩ := fin n x xs a s (by omega) (by omega) (by omega) (by omega) h
   exact ⟨m, r, a', s', fun k hk => e k (by omega), r2⟩
  | succ d ih =>
   intro x xs a s hx hl h
   by_cases c0 : x > 0
   ·obtain ⟨r1, a1, s1, e1, h1, b1, b2⟩ := next_ok hc h (n - 1) (by omega)
    obtain ⟨r2, a2, s2, e2, h2, b3, b4⟩ := next_ok hc h1 12 (by omega)
    obtain ⟨r3, a3, s3, e3, h3, b5, b6⟩ := next_ok hc h2 (n - 1 - r1) (by omega)
    obtain ⟨r4, a4, s4, e4, h4, b7, b8⟩ := next_ok hc h3 4 (by omega)
    obtain ⟨m, r, a', s', e, p⟩ := ih (x - 1) (xs ++ [(⟨r1, wrap64 ((wrap64 (r1 + 1)) + r3), wrap64 (r2 * 100), wrap64 ((wrap64 (r2 * 100)) + (wrap64 (r4 * 100)))⟩ : S39)]) a4 s4 (by omega) (by rw [List.length_append]; show xs.length + 1 + d ≤ 20; omega) h4
    refine ⟨m, r, a', s', fun k hk => ?_, p⟩
    obtain ⟨k, rfl⟩ : ∃ m, k = m + 1 := ⟨k - 1, by omega⟩
    simp only [spec_l10Draw.l0]
    rw [if_pos c0, w64 (n := n - 1) (by omega), e1]
    simp only [Option.bind_some]
    rw [w64 (n := n - 1 - r1) (by omega)]
    simp only [e2, e3, e4, Option.bind_some]
    rw [if_pos (by omega), w64 (n := x - 1) (by omega)]
    exact e k (by omega)
   ·obtain ⟨m, r, a', s', e, r2⟩ := fin n x xs a s c0 (by omega) (by omega) (by omega) h
    exact ⟨m, r, a', s', fun k hk => e k (by omega), r2⟩
 obtain ⟨r1, a1, s1, e1, h1, b1, b2⟩ := next_ok hc h 6 (by omega)
 obtain ⟨r2, a2, s2, e2, h2, b3, b4⟩ := next_ok hc h1 10 (by omega)
 obtain ⟨m, r, a', s', e, p1, p2, p3, p4⟩ := l0 (2 + r1) (by omega) (by omega) 10 r2 [] a2 s2 (by omega) (by show 0 + 10 ≤ 20; omega) h2
 refine ⟨m, r, a', s', fun k hk => ?_, p1, p2, p3, p4⟩
 unfold spec_l10Draw.f
 simp only [e1, e2, Option.bind_some]
 rw [w64 (n := 2 + r1) (by omega)]
 exact e k (by omega)
end Go.Proofs.Ytlnfjhahnacmiaa.F
namespace Go.Proofs.Ytlnfjhahnacmiaa.F
open Go.RowKit Go.Proofs.YtlnfjhahnacmiaaW.PrintWords Go.Proofs.YtlnfjhahnacmiaaW.PrintLast Go.Proofs.YtlnfjhahnacmiaaW.PrintMore
set_option linter.unusedVariables false
set_option linter.unusedSimpArgs false
theorem index_eq (a n : Int) : impl_isIndex.f a n = some (inB a 0 (wrap64 (n - 1))) := by
 unfold impl_isIndex.f
 simp only [Wi_eq, Option.bind_some]
end Go.Proofs.Ytlnfjhahnacmiaa.F
namespace Go.Proofs.Ytlnfjhahnacmiaa.F
open Go.RowKit Go.Proofs.YtlnfjhahnacmiaaW.PrintWords Go.Proofs.YtlnfjhahnacmiaaW.PrintLast Go.Proofs.YtlnfjhahnacmiaaW.PrintMore
set_option linter.unusedVariables false
set_option linter.unusedSimpArgs false
theorem needed_go (m : Nat) (xs : List S39) (h : areFuses (m : Int) xs = true) (a : Int) (ha : 0 ≤ a ∧ a < (m : Int)) : ∀ (d i : Nat) (X : List Int), xs.length - i = d → i ≤ xs.length → X.length ≤ i → (∀ x ∈ X, x < (i : Int)) → ∃ q : List Int, q.length ≤ 20 ∧ Evt (fun k => spec_NeededFuses.l0 k (m : Int) xs a X (i : Int) = some (q, 0)) ∧ Evt (fun k => impl_NeededFuses.l0 k (m : Int) xs a X (xs.length : Int) (i : Int) = some (q, 0)) ∧
  (∀ x : Int, x < (i : Int) → (x ∈ q ↔ x ∈ X)) ∧ ∀ j : Nat, i ≤ j → j < xs.length → ∀ E L : List Int, Evt (fun k => impl_litTimes.f k (m : Int) (without xs j) = some (E, L)) → ((j : Int) ∈ q ↔ rd E a < 0) := by
 obtain ⟨_, _, m1, m2, hx, _⟩ := times_m h
 intro d
 induction d with
 | zero =>
  intro i X hd hi hX hX2
  refine ⟨X, by omega, ⟨1, fun k hk => ?_⟩, ⟨1, fun k hk => ?_⟩, fun x _ => Iff.rfl, fun j h1 h2 => absurd h2 (by omega)⟩
  ·show spec_NeededFuses.l0 k (m : Int) xs a X (i : Int) = _
   obtain ⟨k, rfl⟩ : ∃ m, k = m + 1 := ⟨k - 1, by omega⟩
   unfold spec_NeededFuses.l0
   rw [if_neg (by omega)]
  ·show impl_NeededFuses.l0 k (m : Int) xs a X (xs.length : Int) (i : Int) = _
   obtain ⟨k, rfl⟩ : ∃ m, k = m + 1 := ⟨k - 1, by omega⟩
   unfold impl_NeededFuses.l0
   rw [if_neg (by omega)]
 | succ d ih =>
  intro i X hd hi hX hX2
  have hl := without_len xs i (by omega)
  obtain ⟨E, L, _, _, _, _, hE, hL, _, ⟨K, hs⟩, ⟨K', ht⟩⟩ := times_m (areFuses_without h i (by omega))
  have det : ∀ E2 L2 : List Int, Evt (fun k => impl_litTimes.f k (m : Int) (without xs i) = some (E2, L2)) → E2 = E := fun E2 L2 ⟨K2, h2⟩ => by
   have e1 : impl_litTimes.f (K' + K2) (m : Int) (without xs i) = some (E, L) := ht (K' + K2) (by omega)
   have e2 : impl_litTimes.f (K' + K2) (m : Int) (without xs i) = some (E2, L2) := h2 (K' + K2) (by omega)
   rw [e1] at e2
   exact (congrArg Prod.fst (Option.some.inj e2)).symm
  by_cases c : rd E a < 0
  ·obtain ⟨q, q0, ⟨J, e1⟩, ⟨J', e2⟩, e3, e4⟩ := ih (i + 1) (X ++ [(i : Int)]) (by omega) (by omega) (by rw [List.length_append, List.length_singleton]; omega) (fun x hx => by
    rcases List.mem_append.1 hx with y | y
    ·have := hX2 x y; omega
    ·rw [List.mem_singleton.1 y]; omega)
   refine ⟨q, q0, ⟨J + K + 1, fun k hk => ?_⟩, ⟨J' + K' + 1, fun k hk => ?_⟩, fun x hx => ?_, fun j j1 j2 E2 L2 hE2 => ?_⟩
   ·show spec_NeededFuses.l0 k (m : Int) xs a X (i : Int) = _
    obtain ⟨k, rfl⟩ : ∃ m, k = m + 1 := ⟨k - 1, by omega⟩
    unfold spec_NeededFuses.l0
    rw [if_pos (by omega), spec_without xs i (by omega) (by omega)]
    simp only [Option.bind_some]
    rw [hs k (by omega)]
    simp only [Option.bind_some]
    rw [if_pos (by omega), if_pos (by omega), if_pos c, if_pos (by omega), w64 (n := (i : Int) + 1) (by omega)]
    exact e1 k (by omega)
   ·show impl_NeededFuses.l0 k (m : Int) xs a X (xs.length : Int) (i : Int) = _
    obtain ⟨k, rfl⟩ : ∃ m, k = m + 1 := ⟨k - 1, by omega⟩
    unfold impl_NeededFuses.l0
    rw [if_pos (by omega), impl_without xs i (by omega) (by omega)]
    simp only [Option.bind_some]
    rw [ht k (by omega)]
    simp only [Option.bind_some]
    rw [if_pos (by omega), if_pos (by omega), if_pos c, if_pos (by omega), w64 (n := (i : Int) + 1) (by omega)]
    exact e2 k (by omega)
   ·rw [e3 x (by omega), List.mem_append, List.mem_singleton]
    exact ⟨fun y => y.elim id (fun z => absurd z (by omega)), .inl⟩
   ·by_cases e : j = i
    ·subst e
     rw [det E2 L2 hE2, e3 _ (by omega)]
     exact ⟨fun _ => c, fun _ => List.mem_append.2 (.inr (List.mem_singleton.2 rfl))⟩
    ·exact e4 j (by omega) j2 E2 L2 hE2
  ·obtain ⟨q, q0, ⟨J, e1⟩, ⟨J', e2⟩, e3, e4⟩ := ih (i + 1) X (by omega) (by omega) (by omega) (fun x hx => by have := hX2 x hx; omega)
   refine ⟨q, q0, ⟨J + K + 1, fun k hk => ?_⟩, ⟨J' + K' + 1, fun k hk => ?_⟩, fun x hx => e3 x (by omega), fun j j1 j2 E2 L2 hE2 => ?_⟩
   ·show spec_NeededFuses.l0 k (m : Int) xs a X (i : Int) = _
    obtain ⟨k, rfl⟩ : ∃ m, k = m + 1 := ⟨k - 1, by omega⟩
    unfold spec_NeededFuses.l0
    rw [if_pos (by omega), spec_without xs i (by omega) (by omega)]
    simp only [Option.bind_some]
    rw [hs k (by omega)]
    simp only [Option.bind_some]
    rw [if_pos (by omega), if_pos (by omega), if_neg c, w64 (n := (i : Int) + 1) (by omega)]
    exact e1 k (by omega)
   ·show impl_NeededFuses.l0 k (m : Int) xs a X (xs.length : Int) (i : Int) = _
    obtain ⟨k, rfl⟩ : ∃ m, k = m + 1 := ⟨k - 1, by omega⟩
    unfold impl_NeededFuses.l0
    rw [if_pos (by omega), impl_without xs i (by omega) (by omega)]
    simp only [Option.bind_some]
    rw [ht k (by omega)]
    simp only [Option.bind_some]
    rw [if_pos (by omega), if_pos (by omega), if_neg c, w64 (n := (i : Int) + 1) (by omega)]
    exact e2 k (by omega)
   ·by_cases e : j = i
    ·subst e
     rw [det E2 L2 hE2, e3 _ (by omega)]
     exact ⟨fun x => absurd (hX2 _ x) (by omega), fun x => absurd x c⟩
    ·exact e4 j (by omega) j2 E2 L2 hE2
def Idle (xs : List S39) (E L : List Int) (i : Nat) : Prop := rd E (fu_at xs i).f0 < 0 ∨ wrap64 (rd E (fu_at xs i).f0 + (fu_at xs i).f2) > rd L (fu_at xs i).f1
theorem idle_go (m : Nat) (xs : List S39) (hx : xs.length ≤ 20) (E L : List Int) (hE : E.length = m) (hL : L.length = m) (hf : FOk m xs) : ∀ (d i : Nat) (X : List Int), xs.length - i = d → i ≤ xs.length → X.length ≤ i → (∀ x ∈ X, x < (i : Int)) → ∃ q : List Int, q.length ≤ 20 ∧ (∀ k, d < k → spec_IdleFuses.l0 k xs E L X (i : Int) = some (q, 0)) ∧ (∀ k, d < k → impl_IdleFuses.l0 k E L X xs (xs.length : Int) (i : Int) = some (q, 0)) ∧
  (∀ x : Int, x < (i : Int) → (x ∈ q ↔ x ∈ X)) ∧ ∀ j : Nat, i ≤ j → j < xs.length → ((j : Int) ∈ q ↔ Idle xs E L j) := by
 intro d
 induction d with
 | zero =>
  intro i X hd hi hX hX2
  refine ⟨X, by omega, fun k hk => ?_, fun k hk => ?_, fun x _ => Iff.rfl, fun j h1 h2 => absurd h2 (by omega)⟩
  ·obtain ⟨k, rfl⟩ : ∃ m, k = m + 1 := ⟨k - 1, by omega⟩
   unfold spec_IdleFuses.l0
   rw [if_neg (by omega)]
  ·obtain ⟨k, rfl⟩ : ∃ m, k = m + 1 := ⟨k - 1, by omega⟩
   unfold impl_IdleFuses.l0
   rw [if_neg (by omega)]
 | succ d ih =>
  intro i X hd hi hX hX2
  have f := hf i (by omega)
  have yes : Idle xs E L i → ∃ q : List Int, q.length ≤ 20 ∧ (∀ k, d < k → spec_IdleFuses.l0 k xs E L (X ++ [(i : Int)]) ((i + 1 : Nat) : Int) = some (q, 0)) ∧ (∀ k, d < k → impl_IdleFuses.l0 k E L (X ++ [(i : Int)]) xs (xs.length : Int) ((i + 1 : Nat) : Int) = some (q, 0)) ∧ (∀ x : Int, x < (i : Int) → (x ∈ q ↔ x ∈ X)) ∧ ∀ j : Nat, i ≤ j → j < xs.length → ((j : Int) ∈ q ↔ Idle xs E L j) := fun id => by
   obtain ⟨q, q0, e1, e2, e3, e4⟩ := ih (i + 1) (X ++ [(i : Int)]) (by omega) (by omega) (by rw [List.length_append, List.length_singleton]; omega) (fun x hx => by
    rcases List.mem_append.1 hx with y | y
    ·have := hX2 x y; omega
    ·rw [List.mem_singleton.1 y]; omega)
   refine ⟨q, q0, e1, e2, fun x hx => ?_, fun j j1 j2 => ?_⟩
   ·rw [e3 x (by omega), List.mem_append, List.mem_singleton]
    exact ⟨fun y => y.elim (fun z => z) (fun z => absurd z (by omega)), .inl⟩
   ·by_cases e : j = i
    ·subst e
     rw [e3 _ (by omega)]
     exact ⟨fun _ => id, fun _ => List.mem_append.2 (.inr (List.mem_singleton.2 rfl))⟩
    ·exact e4 j (by omega) j2
  by_cases c : rd E (fu_at xs i).f0 < 0
  ·obtain ⟨q, q0, e1, e2, e3⟩ := yes (.inl c)
   refine ⟨q, q0, fun k hk => ?_, fun k hk => ?_, e3⟩
   ·obtain ⟨k, rfl⟩ : ∃ m, k = m + 1 := ⟨k - 1, by omega⟩
    unfold spec_IdleFuses.l0
    rw [rd_fuse, if_pos (by omega), if_pos (by omega), if_pos (by omega), if_pos (by omega), if_pos c, if_pos (by omega), w64 (n := (i : Int) + 1) (by omega)]
    exact e1 k (by omega)
   ·obtain ⟨k, rfl⟩ : ∃ m, k = m + 1 := ⟨k - 1, by omega⟩
    unfold impl_IdleFuses.l0
    rw [rd_fuse, if_pos (by omega), if_pos (by omega), if_pos (by omega), if_pos (by omega), if_pos (by omega), if_pos c, if_pos (by omega), w64 (n := (i : Int) + 1) (by omega)]
    exact e2 k (by omega)
  ·by_cases c2 : wrap64 (rd E (fu_at xs i).f0 + (fu_at xs i).f2) > rd L (fu_at xs i).f1
   ·obtain ⟨q, q0, e1, e2, e3⟩ := yes (.inr c2)
    refine ⟨q, q0, fun k hk => ?_, fun k hk => ?_, e3⟩
    ·obtain ⟨k, rfl⟩ : ∃ m, k = m + 1 := ⟨k - 1, by omega⟩
     unfold spec_IdleFuses.l0
     rw [rd_fuse, if_pos (by omega), if_pos (by omega), if_pos (by omega), if_pos (by omega), if_neg c, if_pos (by omega), if_pos (by omega), if_pos c2, if_pos (by omega), w64 (n := (i : Int) + 1) (by omega)]
     exact e1 k (by omega)
    ·obtain ⟨k, rfl⟩ : ∃ m, k = m + 1 := ⟨k - 1, by omega⟩
     unfold impl_IdleFuses.l0
     rw [rd_fuse, if_pos (by omega), if_pos (by omega), if_pos (by omega), if_pos (by omega), if_pos (by omega), if_neg c, if_pos (by omega), if_pos (by omega), if_pos c2, if_pos (by omega), w64 (n := (i : Int) + 1) (by omega)]
     exact e2 k (by omega)
   ·obtain ⟨q, q0, e1, e2, e3, e4⟩ := ih (i + 1) X (by omega) (by omega) (by omega) (fun x hx => by have := hX2 x hx; omega)
    refine ⟨q, q0, fun k hk => ?_, fun k hk => ?_, fun x hx => e3 x (by omega), fun j j1 j2 => ?_⟩
    ·obtain ⟨k, rfl⟩ : ∃ m, k = m + 1 := ⟨k - 1, by omega⟩
     unfold spec_IdleFuses.l0
     rw [rd_fuse, if_pos (by omega), if_pos (by omega), if_pos (by omega), if_pos (by omega), if_neg c, if_pos (by omega), if_pos (by omega), if_neg c2, w64 (n := (i : Int) + 1) (by omega)]
     exact e1 k (by omega)
    ·obtain ⟨k, rfl⟩ : ∃ m, k = m + 1 := ⟨k - 1, by omega⟩
     unfold impl_IdleFuses.l0
     rw [rd_fuse, if_pos (by omega), if_pos (by omega), if_pos (by omega), if_pos (by omega), if_pos (by omega), if_neg c, if_pos (by omega), if_pos (by omega), if_neg c2, w64 (n := (i : Int) + 1) (by omega)]
     exact e2 k (by omega)
    ·by_cases e : j = i
     ·subst e
      rw [e3 _ (by omega)]
      exact ⟨fun x => absurd (hX2 _ x) (by omega), fun x => x.elim (fun y => absurd y c) (fun y => absurd y c2)⟩
     ·exact e4 j (by omega) j2
theorem law_loop {m : Nat} {xs : List S39} (h : areFuses (m : Int) xs = true) {E L : List Int} (hp : PL m xs m E L) (hf : FOl m xs) (a : Int) (ha : 0 ≤ a ∧ a < (m : Int)) (he : ¬ rd E a < 0) (f d : List Int) (hf1 : f.length ≤ 20) (hd1 : d.length ≤ 20)
  (hf2 : ∀ j : Nat, j < xs.length → ∀ E' L' : List Int, Evt (fun k => impl_litTimes.f k (m : Int) (without xs j) = some (E', L')) → ((j : Int) ∈ f ↔ rd E' a < 0)) (hd2 : ∀ j : Nat, j < xs.length → ((j : Int) ∈ d ↔ Idle xs E L j)) :
  ∀ (n i : Nat), xs.length - i = n → i ≤ xs.length → Evt (fun k => laws_FnNeeded.l0 k (m : Int) xs a f d (rd E a) (rd L a) 0 (i : Int) = some true) := by
 obtain ⟨_, _, m1, m2, hx, _⟩ := times_m h
 intro n
 induction n with
 | zero =>
  intro i hn hi
  refine ⟨1, fun k hk => ?_⟩
  obtain ⟨k, rfl⟩ : ∃ m, k = m + 1 := ⟨k - 1, by omega⟩
  show laws_FnNeeded.l0 (k + 1) (m : Int) xs a f d (rd E a) (rd L a) 0 (i : Int) = _
  simp only [laws_FnNeeded.l0]
  rw [if_neg (by omega)]
 | succ n ih =>
  intro i hn hi
  obtain ⟨K, nx⟩ := ih (i + 1) (by omega) (by omega)
  have hw := areFuses_without h i (by omega)
  have hl := without_len xs i (by omega)
  have hfw := fol_without hf i
  obtain ⟨E', L', _, _, _, _, hE', hL', hp', _, ⟨K', ht⟩⟩ := times_m hw
  have hfi := hf2 i (by omega) E' L' ⟨K', ht⟩
  have hdi := hd2 i (by omega)
  refine ⟨K + K' + 100, fun k hk => ?_⟩
  show laws_FnNeeded.l0 k (m : Int) xs a f d (rd E a) (rd L a) 0 (i : Int) = _
  obtain ⟨k, rfl⟩ : ∃ m, k = m + 2 := ⟨k - 2, by omega⟩
  have g : inB (i : Int) 0 (wrap64 ((xs.length : Int) - 1)) = true := by
   rw [w64 (n := (xs.length : Int) - 1) (by omega), inB_true]; omega
  have wo : impl_WithoutFuse.f (k + 1) (m : Int) xs (i : Int) = some (without xs i, 0) := by
   unfold impl_WithoutFuse.f
   rw [impl_fuses _ xs (by omega) (k + 1) (by omega), h, index_eq, g, impl_without xs i (by omega) (by omega)]; rfl
  simp only [laws_FnNeeded.l0]
  rw [if_pos (by omega), wo]
  simp only [Option.bind_some]
  rw [impl_between hw m1 m2 (by omega) hE' hL' ht a (k + 1) (by omega), cdo_at ha, has_int f (by omega) _ (k + 1) (by omega)]
  have fin : ∀ x20 x21 x22 : Int, ((i : Int) ∈ d → x22 = 0 ∧ x20 = rd E a ∧ x21 = rd L a) → laws_FnNeeded.j2 (k + 1) (m : Int) xs a f d (rd E a) (rd L a) 0 (i : Int) x20 x21 x22 false = some true := fun x20 x21 x22 hh => by
   simp only [laws_FnNeeded.j2, Bool.false_eq_true, if_false]
   rw [has_int d (by omega) _ k (by omega)]
   simp only [Option.bind_some]
   rw [w64 (n := (i : Int) + 1) (by omega)]
   by_cases c : (i : Int) ∈ d
   ·obtain ⟨z1, z2, z3⟩ := hh c
    rw [if_pos (decide_eq_true c), if_pos z1, if_pos z2, if_pos z3]
    exact nx k (by omega)
   ·rw [if_neg (by rw [decide_eq_false c]; decide)]
    exact nx k (by omega)
  by_cases c : rd E' a < 0
  ·have e1 : decide ((i : Int) ∈ f) = true := decide_eq_true (hfi.2 c)
   have z4 : (true != ((4 : Int) == 4)) = false := rfl
   rw [if_pos c, e1]
   rw [if_neg (show ¬ (4 : Int) = 0 by decide)]
   simp only [Option.bind_some, if_true, z4]
   refine fin 0 0 4 (fun hid => ?_)
   exfalso
   have id := hdi.1 hid
   have fi := hf.1 i (by omega)
   have idle : rd E (fu_at xs i).f0 < 0 ∨ rd E (fu_at xs i).f0 + (fu_at xs i).f2 > rd L (fu_at xs i).f1 := by
    rcases id with x | x
    ·exact .inl x
    ·by_cases y : rd E (fu_at xs i).f0 < 0
     ·exact .inl y
     ·have z := pl_pos hf.1 hp (u := (fu_at xs i).f0) fi.1 (by omega) (by omega)
      have z2 := el_le hf hp m (fu_at xs i).f0 (by omega) fi.1 (by omega) (by omega)
      rw [w64 (n := rd E (fu_at xs i).f0 + (fu_at xs i).f2) (by omega)] at x
      exact .inr x
   have s := idle_same hf (by omega) hfw hp hp' idle m a ha.2 ha.1 ha.2 (by omega)
   omega
  ·have e1 : decide ((i : Int) ∈ f) = false := decide_eq_false (fun x => c (hfi.1 x))
   have z4 : (false != ((0 : Int) == 4)) = false := rfl
   rw [if_neg c, e1]
   simp only [Option.bind_some, if_true, z4]
   refine fin _ _ 0 (fun hid => ?_)
   have id := hdi.1 hid
   have fi := hf.1 i (by omega)
   have idle : rd E (fu_at xs i).f0 < 0 ∨ rd E (fu_at xs i).f0 + (fu_at xs i).f2 > rd L (fu_at xs i).f1 := by
    rcases id with x | x
    ·exact .inl x
    ·by_cases y : rd E (fu_at xs i).f0 < 0
     ·exact .inl y
     ·have z := pl_pos hf.1 hp (u := (fu_at xs i).f0) fi.1 (by omega) (by omega)
      have z2 := el_le hf hp m (fu_at xs i).f0 (by omega) fi.1 (by omega) (by omega)
      rw [w64 (n := rd E (fu_at xs i).f0 + (fu_at xs i).f2) (by omega)] at x
      exact .inr x
   have s := idle_same hf (by omega) hfw hp hp' idle m a ha.2 ha.1 ha.2 (by omega)
   have t := less_late hf hfw (fun f hf => without_sub hf) hp hp' m a ha.2 ha.1 ha.2 (by omega)
   exact ⟨rfl, by omega, by omega⟩
theorem pure_FnNeeded : laws_FnNeeded.Pure := by
 intro c _ _ hb
 by_cases big : (c.length : Int) > 4096
 ·refine ⟨0, ?_⟩
  unfold laws_FnNeeded.f laws_big.f
  simp only [Option.bind_some, decide_eq_true big, if_true]
 have hc : Code c := code_of big hb
 obtain ⟨z, e0, h0⟩ := from_ok hc
 obtain ⟨n, xs, a1, s1, e1, h1, lx, n0, n1⟩ := fuse_draw hc h0
 obtain ⟨a, d1⟩ : ∃ a, ∀ k, 100 ≤ k → spec_DrawNeededFuses.f k c = some (n, xs, a) := by
  obtain ⟨r2, a2, s2, e2, h2, b1, b2⟩ := next_ok hc h1 (n + 1) (by omega)
  obtain ⟨r3, a3, s3, e3, h3, b3, b4⟩ := next_ok hc h2 24 (by omega)
  refine ⟨wrap64 (r2 - wrap64 (Int.tdiv r3 23)), fun k hk => ?_⟩
  have dl : spec_DrawLitBetween.f k c = some (n, xs, wrap64 (r2 - wrap64 (Int.tdiv r3 23))) := by
   unfold spec_DrawLitBetween.f
   rw [e0 k (by omega), Option.bind_some]
   dsimp only
   rw [e1 k (by omega), Option.bind_some]
   dsimp only
   rw [w64 (n := n + 1) (by omega), e2, Option.bind_some]
   dsimp only
   rw [e3, Option.bind_some]
  unfold spec_DrawNeededFuses.f
  rw [dl]; rfl
 cases h : areFuses n xs with
 | false =>
  obtain ⟨k, hk⟩ : ∃ k, k = 200000 := ⟨_, rfl⟩
  refine ⟨k + 8, ?_⟩
  unfold laws_FnNeeded.f laws_big.f
  simp only [Option.bind_some, decide_eq_false big, Bool.false_eq_true, if_false, d1 (k + 8) (by omega)]
  unfold impl_NeededFuses.f spec_NeededFuses.f impl_IdleFuses.f spec_IdleFuses.f impl_nodeAsked.f spec_l10Code.f
  rw [spec_fuses n xs (by omega) (k + 8) (by omega), impl_fuses n xs (by omega) (k + 8) (by omega), h]
  have z1 : ¬ (1 : Int) = 0 := by decide
  simp only [Option.bind_some, Bool.false_eq_true, if_false, if_true, Bool.not_false, if_neg z1, like_ints [] (by simp) (k + 8) (by simp), Bool.not_true]
  rfl
 | true =>
  obtain ⟨m, rfl, _⟩ := areFuses_true h
  obtain ⟨E, L, m1, m2, hx, hf, hE, hL, hp, ⟨K, hs⟩, ⟨K', ht⟩⟩ := times_m h
  have h00 : E.getD 0 0 = 0 := hp.1.2.1
  obtain ⟨d, d0, f1, f2, _, f4⟩ := idle_go m xs hx E L hE hL hf.1 xs.length 0 [] (by omega) (by omega) (by simp) (by simp)
  have i2 : ∀ k, K' + 40 ≤ k → impl_IdleFuses.f k (m : Int) xs = some (d, 0) := fun k hk => by
   unfold impl_IdleFuses.f
   rw [impl_fuses _ xs (by omega) k (by omega), h]
   simp only [Option.bind_some, if_true]
   rw [ht k (by omega)]
   exact f2 k (by omega)
  have s2 : ∀ k, K + 40 ≤ k → spec_IdleFuses.f k (m : Int) xs = some (d, 0) := fun k hk => by
   unfold spec_IdleFuses.f
   rw [spec_code h m1 m2 hx hE hs 0 k (by omega), cdo_0 m1 h00]
   simp only [Option.bind_some, if_true]
   rw [hs k (by omega)]
   exact f1 k (by omega)
  by_cases cz : cdo E m a = 0
  ·have ha := cdo_in cz
   have he : ¬ rd E a < 0 := fun x => by
    rw [cdo_at ha, if_pos x] at cz
    exact absurd cz (by decide)
   obtain ⟨q, q0, ⟨J, e1⟩, ⟨J', e2⟩, _, e4⟩ := needed_go m xs h a ha xs.length 0 [] (by omega) (by omega) (by simp) (by simp)
   obtain ⟨Q, lw⟩ := law_loop h hp hf a ha he q d (by omega) (by omega) (fun j hj => e4 j (Nat.zero_le _) hj) (fun j hj => f4 j (Nat.zero_le _) hj) xs.length 0 (by omega) (by omega)
   obtain ⟨k, hk⟩ : ∃ k, k = K + K' + J + J' + Q + 1000 := ⟨_, rfl⟩
   refine ⟨k + 1, ?_⟩
   have i1 : impl_NeededFuses.f (k + 1) (m : Int) xs a = some (q, 0) := by
    unfold impl_NeededFuses.f
    rw [impl_code1 h m1 m2 hx hE ht a (k + 1) (by omega), cz]
    simp only [Option.bind_some, if_true]
    exact e2 (k + 1) (by omega)
   have s1 : spec_NeededFuses.f (k + 1) (m : Int) xs a = some (q, 0) := by
    unfold spec_NeededFuses.f
    rw [spec_code h m1 m2 hx hE hs a (k + 1) (by omega), cz]
    simp only [Option.bind_some, if_true]
    exact e1 (k + 1) (by omega)
   unfold laws_FnNeeded.f laws_big.f
   simp only [Option.bind_some, decide_eq_false big, Bool.false_eq_true, if_false, d1 (k + 1) (by omega), i1, s1, i2 (k + 1) (by omega), s2 (k + 1) (by omega), if_true, like_ints q (by omega) (k + 1) (by omega), like_ints d (by omega) (k + 1) (by omega), Bool.not_true]
   simp only [laws_FnNeeded.j0, Bool.false_eq_true, if_false, if_true]
   rw [impl_between h m1 m2 hx hE hL ht a k (by omega), if_pos cz]
   exact lw k (by omega)
  ·obtain ⟨k, hk⟩ : ∃ k, k = K + K' + 1000 := ⟨_, rfl⟩
   refine ⟨k + 1, ?_⟩
   have i1 : impl_NeededFuses.f (k + 1) (m : Int) xs a = some ([], cdo E m a) := by
    unfold impl_NeededFuses.f
    rw [impl_code1 h m1 m2 hx hE ht a (k + 1) (by omega)]
    simp only [Option.bind_some]
    rw [if_neg cz]
   have s1 : spec_NeededFuses.f (k + 1) (m : Int) xs a = some ([], cdo E m a) := by
    unfold spec_NeededFuses.f
    rw [spec_code h m1 m2 hx hE hs a (k + 1) (by omega)]
    simp only [Option.bind_some]
    rw [if_neg cz]
   unfold laws_FnNeeded.f laws_big.f
   simp only [Option.bind_some, decide_eq_false big, Bool.false_eq_true, if_false, d1 (k + 1) (by omega), i1, s1, i2 (k + 1) (by omega), s2 (k + 1) (by omega), if_true, like_ints [] (by simp) (k + 1) (by simp), like_ints d (by omega) (k + 1) (by omega), Bool.not_true]
   simp only [laws_FnNeeded.j0, Bool.false_eq_true, if_false]
   rw [if_neg cz]
end Go.Proofs.Ytlnfjhahnacmiaa.F
namespace Go.Proofs.Ytlnfjhahnacmiaa.Pure
theorem FnNeeded : Go.Proofs.Ytlnfjhahnacmiaa.F.laws_FnNeeded.Pure := Go.Proofs.Ytlnfjhahnacmiaa.F.pure_FnNeeded
end Go.Proofs.Ytlnfjhahnacmiaa.Pure
namespace Go.Proofs.Ytlnfjhahnacmiaa.F
end Go.Proofs.Ytlnfjhahnacmiaa.F
