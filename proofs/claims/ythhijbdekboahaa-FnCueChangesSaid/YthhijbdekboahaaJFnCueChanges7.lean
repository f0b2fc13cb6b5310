import Derived.Test.YthhijbdekboahaaJFnCueChanges6
import Derived.Below
import Derived.Deep.Draws
import Derived.Deep.AppendLies
import Derived.Maps.AppendAt
import Derived.OwnWalk
import Derived.Laws.BytesArg
import Derived.Laws.MakeOwn
import Derived.Laws.OwnMore
import Derived.Tactics
import Derived.Lib.ConvBytes
import Derived.Laws.Slices
import Derived.WalkKit
import Derived.KernelRfl
import Derived.RowKit3
import Derived.Deep.LoopGhost
import Derived.Deep.QuietTactic
import Derived.BigQuiet
import Derived.WideLaws
import Derived.Deep.DeepCutAuto
import Derived.Deep.CutBlock
import Derived.Deep.RegionHeld3
import Derived.Lib.AppendStr
import Derived.ArgAppend
import Derived.Laws.IdiomCopy
import Derived.RowKit
import Derived.OrdersHeld
import Derived.Laws.BitsLemmas
import Derived.Laws.StructEq
import Derived.Test.YthhijbdekboahaaProg
import Derived.Laws.Cover1
namespace Go.Proofs.Ythhijbdekboahaa.F
open Go.RowKit Go.Proofs.YthhijbdekboahaaW.PrintWords Go.Proofs.YthhijbdekboahaaW.PrintLast Go.Proofs.YthhijbdekboahaaW.PrintMore
set_option linter.unusedVariables false
set_option linter.unusedSimpArgs false
def cu_at (C : List S39) (i : Nat) : S39 := C.getD i z39
theorem rd_cue (C : List S39) (i : Nat) : rd_T39 C (i : Int) = cu_at C i := by unfold rd_T39 cu_at; rw [Int.toNat_natCast]
def arOf (B : List S62) (c : S39) : S62 := ar_at B (find B c.f2).toNat
def ftime (A : List S104) (B : List S62) (c : S39) : Int := tm A c.f0.toNat + c.f1 * ln_at A c.f0.toNat - (arOf B c).f3
theorem areArts_true {xs : List S62} (h : areArts xs = true) : xs.length ≤ 12 ∧ ∀ i, i < xs.length → art (ar_at xs i) = true := by
 unfold areArts at h
 rw [Bool.and_eq_true, allF_true, decide_eq_true_iff] at h; refine ⟨by omega, fun i hi => ?_⟩; have := h.1 i (by omega) (by omega)
 unfold artAt at this
 rw [Bool.and_eq_true] at this; exact this.1
theorem art_true {a : S62} (h : art a = true) : (0 ≤ a.f1 ∧ a.f1 ≤ 3) ∧ (20 ≤ a.f2 ∧ a.f2 ≤ 300) ∧ (0 ≤ a.f3 ∧ a.f3 ≤ 10000) ∧ (0 ≤ a.f4 ∧ a.f4 ≤ a.f3) ∧ (1 ≤ a.f5 ∧ a.f5 ≤ 50) ∧ (0 ≤ a.f6 ∧ a.f6 ≤ 10000) ∧ (1 ≤ a.f7 ∧ a.f7 ≤ 100000) ∧ 0 ≤ a.f8 ∧ a.f8 ≤ 3 := by
 unfold art at h
 simp only [Bool.and_eq_true, inB_true] at h; exact h.2
theorem arOf_ok {B : List S62} (hB : areArts B = true) {c : S39} (hc : 0 ≤ find B c.f2) : art (arOf B c) = true ∧ find B c.f2 < (B.length : Int) := by
 rcases find_range B c.f2 with h | h
 ·omega
 ·exact ⟨(areArts_true hB).2 _ (by omega), h.2⟩
theorem time_range {A : List S104} (hA : isScore A = true) {b : Nat} (hb : b < A.length) {e : Int} (he : 0 ≤ e ∧ e ≤ bt_at A b - 1) : 0 ≤ tm A b + e * ln_at A b ∧ tm A b + e * ln_at A b ≤ 2000000 := by
 have hs := isScore_true hA; have hl := hs.2.2 b hb; have ht := tm_le hA b (by omega); have h1 : 0 ≤ e * ln_at A b := Int.mul_nonneg he.1 (by omega); have h2 : e * ln_at A b ≤ 16 * ln_at A b := Int.mul_le_mul_of_nonneg_right (by omega) (by omega)
 omega
theorem ftime_range {A : List S104} (hA : isScore A = true) {B : List S62} (hB : areArts B = true) {c : S39} (hc : 0 ≤ find B c.f2) (hb : hasBeat A c.f0 c.f1 = true) : -10000 ≤ ftime A B c ∧ ftime A B c ≤ 2000000 := by
 obtain ⟨b, e, h1, h2, h3⟩ := hasBeat_true hb; have ha := art_true (arOf_ok hB hc).1; have := time_range hA h1 ⟨h2, h3⟩
 unfold ftime
 rw [e, Int.toNat_natCast]
 omega
theorem spec_ftime {A : List S104} (hA : isScore A = true) {B : List S62} (hB : areArts B = true) (C : List S39) {c : S39} (hc : 0 ≤ find B c.f2) (hb : hasBeat A c.f0 c.f1 = true) (k : Nat) (hk : 100 ≤ k) : spec_l08Time.f k A B C c.f0 c.f1 c.f2 c.f3 = some (ftime A B c) := by
 obtain ⟨b, e, h1, h2, h3⟩ := hasBeat_true hb; have hs := isScore_true hA; have hl := hs.2.2 b h1; have hf := arOf_ok hB hc; have hr := time_range hA h1 ⟨h2, h3⟩; have ha := art_true hf.1; have hB12 := (areArts_true hB).1
 have ft : ftime A B c = tm A b + c.f1 * ln_at A b - (arOf B c).f3 := by unfold ftime; rw [e, Int.toNat_natCast]
 unfold spec_l08Time.f
 rw [e, spec_time hA b h1 c.f1 (by omega) k (by omega)]; simp only [Option.bind_some]; rw [spec_find B (by omega) c.f2 k (by omega)]; simp only [Option.bind_some]; rw [if_pos hc, if_pos hf.2, ft]
 have er : rd_T62 B (find B c.f2) = arOf B c := by
  have := rd_art B (find B c.f2).toNat; rw [show ((find B c.f2).toNat : Int) = find B c.f2 by omega] at this; exact this
 rw [er, w64 (by omega)]
theorem impl_ftime {A : List S104} (hA : isScore A = true) {B : List S62} (hB : areArts B = true) (C : List S39) (c : S39) (k : Nat) (hk : 100 ≤ k) : impl_firedAt.f k A B C c.f0 c.f1 c.f2 c.f3 = some (if 0 ≤ find B c.f2 ∧ hasBeat A c.f0 c.f1 = true then mx (-1) (ftime A B c) else -1) := by
 have hs := isScore_true hA; have hB12 := (areArts_true hB).1
 unfold impl_firedAt.f
 rw [impl_find B (by omega) c.f2 k (by omega)]; simp only [Option.bind_some]
 by_cases hc : 0 ≤ find B c.f2
 ·rw [if_neg (by omega), impl_has hA]
  simp only [Option.bind_some]
  by_cases hb : hasBeat A c.f0 c.f1 = true
  ·obtain ⟨b, e, h1, h2, h3⟩ := hasBeat_true hb
   have hl := hs.2.2 b h1; have hf := arOf_ok hB hc; have hr := time_range hA h1 ⟨h2, h3⟩; have ha := art_true hf.1
   have ft : ftime A B c = tm A b + c.f1 * ln_at A b - (arOf B c).f3 := by unfold ftime; rw [e, Int.toNat_natCast]
   have er : rd_T62 B (find B c.f2) = arOf B c := by
    have := rd_art B (find B c.f2).toNat; rw [show ((find B c.f2).toNat : Int) = find B c.f2 by omega] at this; exact this
   rw [if_pos hb, if_pos (show 0 ≤ find B c.f2 ∧ hasBeat A c.f0 c.f1 = true from ⟨hc, hb⟩), e, impl_time hA b c.f1 (.inl h1) (by omega) k (by omega)]; simp only [Option.bind_some]; rw [if_pos hc, if_pos hf.2, er, ft, w64 (by omega)]
  ·rw [if_neg hb, if_neg (show ¬ (0 ≤ find B c.f2 ∧ hasBeat A c.f0 c.f1 = true) from fun x => hb x.2)]
 ·rw [if_pos (by omega), if_neg (show ¬ (0 ≤ find B c.f2 ∧ hasBeat A c.f0 c.f1 = true) from fun x => hc x.1)]
def cueOk (A : List S104) (B : List S62) (c : S39) : Bool := hasBeat A c.f0 c.f1 && (decide (0 ≤ find B c.f2) && (inB c.f3 0 11 && decide (0 ≤ ftime A B c)))
def isShow (A : List S104) (B : List S62) (C : List S39) : Bool := isScore A && (areArts B && (decide ((C.length : Int) ≤ 20) && allF (fun i => cueOk A B (cu_at C i)) 0 C.length))
theorem cueOk_true {A : List S104} {B : List S62} {c : S39} (h : cueOk A B c = true) : hasBeat A c.f0 c.f1 = true ∧ 0 ≤ find B c.f2 ∧ (0 ≤ c.f3 ∧ c.f3 ≤ 11) ∧ 0 ≤ ftime A B c := by
 unfold cueOk at h
 simpa only [Bool.and_eq_true, inB_true, decide_eq_true_iff] using h
theorem isShow_true {A : List S104} {B : List S62} {C : List S39} (h : isShow A B C = true) : isScore A = true ∧ areArts B = true ∧ C.length ≤ 20 ∧ ∀ i, i < C.length → cueOk A B (cu_at C i) = true := by
 unfold isShow at h
 rw [Bool.and_eq_true, Bool.and_eq_true, Bool.and_eq_true, allF_true, decide_eq_true_iff] at h; exact ⟨h.1, h.2.1, by omega, fun i hi => h.2.2.2 i (by omega) (by omega)⟩
theorem spec_show (n : Nat) (A : List S104) (B : List S62) (C : List S39) (hA : A.length ≤ 9223372036854775807) (hB : B.length ≤ 9223372036854775807) (hC : C.length ≤ 9223372036854775807) (hS : Small n B) (k : Nat) (hk : A.length + B.length + C.length + n + 200 ≤ k) : spec_IsShow.f k A B C = some (isShow A B C) := by
 obtain ⟨k, rfl⟩ : ∃ m, k = m + 1 := ⟨k - 1, by omega⟩
 unfold spec_IsShow.f isShow
 rw [spec_score A (by omega) (k + 1) (by omega)]; simp only [Option.bind_some]
 cases a : isScore A with
 | false => rfl
 | true =>
  rw [if_pos rfl, spec_arts n B (by omega) hS (k + 1) (by omega)]; simp only [Option.bind_some]
  cases b : areArts B with
  | false => rfl
  | true =>
   rw [if_pos rfl]
   by_cases c : (C.length : Int) > 20
   ·rw [decide_eq_true c, decide_eq_false (by omega)]; rfl
   ·rw [decide_eq_false c, decide_eq_true (by omega)]
    simp only [spec_IsShow.j0, Bool.false_eq_true, if_false, Bool.true_and]; have hB12 := (areArts_true b).1
    have loop : ∀ d k i, C.length - i = d → i ≤ C.length → d + 110 ≤ k → spec_IsShow.l0 k (i : Int) A B C = some (allF (fun i => cueOk A B (cu_at C i)) i d) := by
     intro d
     induction d with
     | zero =>
      intro k i hd hi hk; obtain ⟨k, rfl⟩ : ∃ m, k = m + 1 := ⟨k - 1, by omega⟩; simp only [spec_IsShow.l0]; rw [if_neg (by omega)]
      rfl
     | succ d ih =>
      intro k i hd hi hk; obtain ⟨k, rfl⟩ : ∃ m, k = m + 1 := ⟨k - 1, by omega⟩; have nx := ih k (i + 1) (by omega) (by omega) (by omega); simp only [spec_IsShow.l0]; rw [if_pos (by omega), if_pos (by omega), rd_cue, spec_has a, spec_find B (by omega) _ k (by omega), In_eq, w64 (n := (i : Int) + 1) (by omega)]; simp only [Option.bind_some]
      unfold allF cueOk
      cases hb : hasBeat A (cu_at C i).f0 (cu_at C i).f1 with
      | false => rfl
      | true =>
       rw [if_pos rfl, Bool.true_and]
       by_cases hf : 0 ≤ find B (cu_at C i).f2
       ·rw [if_neg (by omega), decide_eq_true hf, Bool.true_and]
        cases hr : inB (cu_at C i).f3 0 11 with
        | false => rfl
        | true =>
         rw [if_pos rfl, Bool.true_and, spec_ftime a b C hf hb k (by omega)]; simp only [Option.bind_some]
         by_cases ht : ftime A B (cu_at C i) < 0
         ·rw [if_pos ht, decide_eq_false (by omega)]; rfl
         ·rw [if_neg ht, decide_eq_true (by omega), Bool.true_and]
          exact nx
       ·rw [if_pos (by omega), decide_eq_false hf]; rfl
    exact loop C.length k 0 (by omega) (by omega) (by omega)
theorem impl_show (n : Nat) (A : List S104) (B : List S62) (C : List S39) (hA : A.length ≤ 9223372036854775807) (hB : B.length ≤ 9223372036854775807) (hC : C.length ≤ 9223372036854775807) (hS : Small n B) (k : Nat) (hk : A.length + B.length + C.length + n + 200 ≤ k) : impl_IsShow.f k A B C = some (isShow A B C) := by
 obtain ⟨k, rfl⟩ : ∃ m, k = m + 1 := ⟨k - 1, by omega⟩
 unfold impl_IsShow.f isShow
 rw [impl_score A (by omega) (k + 1) (by omega)]; simp only [Option.bind_some]
 cases a : isScore A with
 | false => rfl
 | true =>
  rw [if_pos rfl, impl_arts n B (by omega) hS (k + 1) (by omega)]; simp only [Option.bind_some]
  cases b : areArts B with
  | false => rfl
  | true =>
   rw [if_pos rfl]
   by_cases c : (C.length : Int) > 20
   ·rw [decide_eq_true c, decide_eq_false (by omega)]; rfl
   ·rw [decide_eq_false c, decide_eq_true (by omega)]
    simp only [impl_IsShow.j0, Bool.false_eq_true, if_false, Bool.true_and]; have hB12 := (areArts_true b).1
    have loop : ∀ d k i, C.length - i = d → i ≤ C.length → d + 110 ≤ k → impl_IsShow.l0 k C (C.length : Int) (i : Int) A B C = some (allF (fun i => cueOk A B (cu_at C i)) i d) := by
     intro d
     induction d with
     | zero =>
      intro k i hd hi hk; obtain ⟨k, rfl⟩ : ∃ m, k = m + 1 := ⟨k - 1, by omega⟩; simp only [impl_IsShow.l0]; rw [if_neg (by omega)]
      rfl
     | succ d ih =>
      intro k i hd hi hk; obtain ⟨k, rfl⟩ : ∃ m, k = m + 1 := ⟨k - 1, by omega⟩; have nx := ih k (i + 1) (by omega) (by omega) (by omega); simp only [impl_IsShow.l0]; rw [if_pos (by omega), if_pos (by omega), if_pos (by omega), rd_cue, Wi_eq, impl_ftime a b C _ k (by omega), w64 (n := (i : Int) + 1) (by omega)]; simp only [Option.bind_some]
      unfold allF cueOk
      cases hr : inB (cu_at C i).f3 0 11 with
      | false =>
       rw [if_neg (by decide)]
       simp
      | true =>
       rw [if_pos rfl]
       cases hb : hasBeat A (cu_at C i).f0 (cu_at C i).f1 with
       | false =>
        rw [if_neg (show ¬ (0 ≤ find B (cu_at C i).f2 ∧ false = true) from fun x => absurd x.2 (by decide)), if_pos (by omega)]; rfl
       | true =>
        by_cases hf : 0 ≤ find B (cu_at C i).f2
        ·rw [if_pos (show 0 ≤ find B (cu_at C i).f2 ∧ true = true from ⟨hf, rfl⟩), decide_eq_true hf]
         by_cases ht : ftime A B (cu_at C i) < 0
         ·rw [if_pos (by unfold mx; split <;> omega), decide_eq_false (by omega)]; rfl
         ·rw [if_neg (by unfold mx; split <;> omega), decide_eq_true (by omega)]
          exact nx
        ·rw [if_neg (show ¬ (0 ≤ find B (cu_at C i).f2 ∧ true = true) from fun x => hf x.1), if_pos (by omega), decide_eq_false hf]; rfl
    exact loop C.length k 0 (by omega) (by omega) (by omega)
end Go.Proofs.Ythhijbdekboahaa.F
namespace Go.Proofs.Ythhijbdekboahaa.F
open Go.RowKit Go.Proofs.YthhijbdekboahaaW.PrintWords Go.Proofs.YthhijbdekboahaaW.PrintLast Go.Proofs.YthhijbdekboahaaW.PrintMore
attribute [local go_sem] max2_int min2_int max_two min_two max_three min_three max_four min_four
set_option linter.unusedVariables false
set_option linter.unusedSimpArgs false
end Go.Proofs.Ythhijbdekboahaa.F
namespace Go.Proofs.Ythhijbdekboahaa.F
open Go.RowKit Go.Proofs.YthhijbdekboahaaW.PrintWords Go.Proofs.YthhijbdekboahaaW.PrintLast Go.Proofs.YthhijbdekboahaaW.PrintMore
set_option linter.unusedVariables false
set_option linter.unusedSimpArgs false
def Frame (n0 : Nat) (A : List S104) (B : List S62) (C : List S39) : Prop := A.length ≤ 9223372036854775807 ∧ B.length ≤ 9223372036854775807 ∧ C.length ≤ 9223372036854775807 ∧ Small n0 B
theorem ss_ok {n0 : Nat} {A : List S104} {B : List S62} {C : List S39} (h : Frame n0 A B C) (k : Nat) (hk : 36893488147419103428 ≤ k) : spec_IsShow.f k A B C = some (isShow A B C) := spec_show n0 A B C h.1 h.2.1 h.2.2.1 h.2.2.2 k (by have := h.1; have := h.2.1; have := h.2.2.1; have := h.2.2.2.1; omega)
theorem si_ok {n0 : Nat} {A : List S104} {B : List S62} {C : List S39} (h : Frame n0 A B C) (k : Nat) (hk : 36893488147419103428 ≤ k) : impl_IsShow.f k A B C = some (isShow A B C) := impl_show n0 A B C h.1 h.2.1 h.2.2.1 h.2.2.2 k (by have := h.1; have := h.2.1; have := h.2.2.1; have := h.2.2.2.1; omega)
theorem cu_ok {A : List S104} {B : List S62} {C : List S39} (h : isShow A B C = true) {i : Nat} (hi : i < C.length) : hasBeat A (cu_at C i).f0 (cu_at C i).f1 = true ∧ 0 ≤ find B (cu_at C i).f2 ∧ find B (cu_at C i).f2 < (B.length : Int) ∧ 0 ≤ ftime A B (cu_at C i) ∧ ftime A B (cu_at C i) ≤ 2000000 ∧ art (arOf B (cu_at C i)) = true := by
 obtain ⟨hA, hB, hC, hc⟩ := isShow_true h; obtain ⟨h1, h2, h3, h4⟩ := cueOk_true (hc i hi); have := ftime_range hA hB h2 h1; have := arOf_ok hB h2; exact ⟨h1, h2, this.2, h4, by omega, this.1⟩
theorem with_ok (A : List S104) (B : List S62) (C D : List S39) (hA : A.length ≤ 1000000) (hB : B.length ≤ 1000000) (hD : D.length ≤ 1000010) : spec_l08With.f A B C D = some (A, B, D) := by
 unfold spec_l08With.f
 simp only [Option.bind_some, List.nil_append, List.length_nil]; rw [if_pos (by omega), if_pos (by omega), if_pos (by omega)]
theorem copy_ok (A : List S104) (B : List S62) (C : List S39) (hA : A.length ≤ 1000000) (hB : B.length ≤ 1000000) (hC : C.length ≤ 1000000) : impl_copyShow.f A B C = some (A, B, C) := by
 unfold impl_copyShow.f
 simp only [Option.bind_some, List.nil_append, List.length_nil]; rw [if_pos (by omega), if_pos (by omega), if_pos (by omega)]
def addR (A : List S104) (B : List S62) (C : List S39) (c : S39) : List S104 × List S62 × List S39 × Int := if isShow A B C = true then (if (C.length : Int) = 20 then ([], [], [], 3) else (if isShow A B (C ++ [c]) = true then (A, B, C ++ [c], 0) else ([], [], [], 5))) else ([], [], [], 1)
theorem add_ok (n0 : Nat) {A : List S104} {B : List S62} {C : List S39} (hF : Frame n0 A B C) (hL : A.length ≤ 1000000 ∧ B.length ≤ 1000000 ∧ C.length ≤ 1000000) (x0 x1 : Int) (x2 : ByteArray) (x3 : Int) (k : Nat) (hk : 36893488147419103528 ≤ k) : spec_AddCue.f k A B C x0 x1 x2 x3 = some (addR A B C ⟨x0, x1, x2, x3⟩) ∧ impl_AddCue.f k A B C x0 x1 x2 x3 = some (addR A B C ⟨x0, x1, x2, x3⟩) := by
 unfold spec_AddCue.f impl_AddCue.f addR
 rw [ss_ok hF k (by omega), si_ok hF k (by omega)]; simp only [Option.bind_some]
 cases h : isShow A B C with
 | false => exact ⟨rfl, rfl⟩
 | true =>
  simp only [if_true]; have hC := (isShow_true h).2.2.1
  by_cases c : (C.length : Int) = 20
  ·rw [if_pos c, if_pos c, if_pos c]; exact ⟨rfl, rfl⟩
  ·have hl : (C ++ [(⟨x0, x1, x2, x3⟩ : S39)]).length = C.length + 1 := by rw [List.length_append, List.length_singleton]
   have hF2 : Frame n0 A B (C ++ [(⟨x0, x1, x2, x3⟩ : S39)]) := ⟨hF.1, hF.2.1, by omega, hF.2.2.2⟩; rw [if_neg c, if_neg c, if_neg c, copy_ok A B C hL.1 hL.2.1 hL.2.2]; simp only [Option.bind_some, List.nil_append, List.length_nil, List.length_singleton]; constructor
   ·rw [if_pos (show 0 + C.length < 3518437208883 by omega), if_pos (show C.length + 1 < 3518437208883 by omega), with_ok A B C _ hL.1 hL.2.1 (by rw [hl]; omega)]
    simp only [Option.bind_some]; rw [ss_ok hF2 k (by omega)]; simp only [Option.bind_some]
    cases isShow A B (C ++ [(⟨x0, x1, x2, x3⟩ : S39)]) <;> rfl
   ·rw [if_pos (show C.length < 3518437208883 by omega), si_ok hF2 k (by omega)]
    simp only [Option.bind_some]
    cases isShow A B (C ++ [(⟨x0, x1, x2, x3⟩ : S39)]) <;> rfl
def dropR (A : List S104) (B : List S62) (C : List S39) (i : Int) : List S104 × List S62 × List S39 × Int := if isShow A B C = true then (if inB i 0 ((C.length : Int) - 1) = true then (A, B, C.eraseIdx i.toNat, 0) else ([], [], [], 2)) else ([], [], [], 1)
theorem drop_ok (n0 : Nat) {A : List S104} {B : List S62} {C : List S39} (hF : Frame n0 A B C) (hL : A.length ≤ 1000000 ∧ B.length ≤ 1000000 ∧ C.length ≤ 1000000) (i : Int) (k : Nat) (hk : 36893488147419103528 ≤ k) : spec_DropCue.f k A B C i = some (dropR A B C i) ∧ impl_DropCue.f k A B C i = some (dropR A B C i) := by
 have hC := hL.2.2
 unfold spec_DropCue.f impl_DropCue.f dropR
 rw [ss_ok hF k (by omega), si_ok hF k (by omega), index_eq, w64 (n := (C.length : Int) - 1) (by omega)]; simp only [Option.bind_some, In_eq]
 cases h : isShow A B C with
 | false => exact ⟨rfl, rfl⟩
 | true =>
  simp only [if_true]
  cases g : inB i 0 ((C.length : Int) - 1) with
  | false => exact ⟨rfl, rfl⟩
  | true =>
   have gi := inB_true.1 g; obtain ⟨j, rfl⟩ : ∃ j : Nat, i = j := ⟨i.toNat, by omega⟩; simp only [if_true]; rw [copy_ok A B C hL.1 hL.2.1 hC, w64 (n := (j : Int) + 1) (by omega)]; simp only [Option.bind_some, List.nil_append, List.length_nil]
   have e1 : ((j : Int) + 1).toNat = j + 1 := by omega
   have g1 : 0 ≤ (j : Int) := by omega
   have g2 : (j : Int) ≤ (C.length : Int) := by omega
   have g3 : 0 ≤ (j : Int) + 1 := by omega
   have g4 : (j : Int) + 1 ≤ (C.length : Int) := by omega
   have l1 : (C.take j).length ≤ C.length := by rw [List.length_take]; omega
   have l2 : (C.drop (j + 1)).length ≤ C.length := by rw [List.length_drop]; omega
   rw [Int.toNat_natCast, e1]; simp only [if_pos g1, if_pos g2, if_pos g3, if_pos g4]; rw [if_pos (show 0 + (C.take j).length < 3518437208883 by omega), if_pos (show (C.take j).length + (C.drop (j + 1)).length < 3518437208883 by omega), with_ok A B C _ hL.1 hL.2.1 (by rw [List.length_append, List.length_take, List.length_drop]; omega), List.eraseIdx_eq_take_drop_succ]; exact ⟨rfl, trivial⟩
theorem mem_rd {α : Type} {xs : List α} {z : α} {i : Int} (h0 : 0 ≤ i) (h1 : i < (xs.length : Int)) : xs.getD i.toNat z ∈ xs := by
 rw [List.getD_eq_getElem?_getD, List.getElem?_eq_getElem (show i.toNat < xs.length by omega)]; exact List.getElem_mem _
def SmallArts (B : List S62) : Prop := ∀ x ∈ B, x.f0.size ≤ 100
theorem good_l1 {c : List Int} (hc : Code c) {A : List S104} (hA : GoodBars A) (hA1 : 1 ≤ A.length) (hA6 : A.length ≤ 6) {B : List S62} (hB : B.length ≤ 20) (hS : SmallArts B) :
  ∀ m (C : List S39), C.length + m ≤ 20 → ∀ {a s : Int}, St c a s → ∃ C' a' s', (∀ k, 36893488147419103600 + 2 * m ≤ k → spec_l08Good.l1 k (m : Int) c a s A B C = some (A, B, C', a', s')) ∧ St c a' s' ∧ C'.length ≤ 20 := by
 intro m
 induction m with
 | zero =>
  intro C hC a s h; refine ⟨C, a, s, fun k hk => ?_, h, by omega⟩; obtain ⟨k, rfl⟩ : ∃ m, k = m + 2 := ⟨k - 2, by omega⟩; simp only [spec_l08Good.l1]; rw [if_neg (by omega)]; simp only [spec_l08Good.j2]; rw [if_neg (by decide)]
 | succ m ih =>
  intro C hC a s h
  by_cases hb : (B.length : Int) > 0
  ·obtain ⟨r1, a1, s1, e1, h1, p1, q1⟩ := next_ok hc h (A.length : Int) (by omega)
   have hm := hA _ (mem_rd (z := z104) p1 (show r1 < (A.length : Int) by omega)); obtain ⟨r2, a2, s2, e2, h2, _⟩ := next_ok hc h1 (rd_T104 A r1).f0 (by unfold rd_T104; omega); obtain ⟨r3, a3, s3, e3, h3, p3, q3⟩ := next_ok hc h2 (B.length : Int) (by omega); obtain ⟨r4, a4, s4, e4, h4, _⟩ := next_ok hc h3 12 (by decide); have ha := fun k hk => (add_ok 100 (A := A) (B := B) (C := C) ⟨by omega, by omega, by omega, by decide, hS⟩ ⟨by omega, by omega, by omega⟩ r1 r2 (rd_T62 B r3).f0 r4 k hk).1
   have hw : wrap64 (((m + 1 : Nat) : Int) - 1) = (m : Int) := by rw [w64 (by omega)]; omega
   have run : ∀ k, 36893488147419103600 + 2 * (m + 1) ≤ k + 2 → spec_l08Good.l1 (k + 2) ((m + 1 : Nat) : Int) c a s A B C = if (addR A B C ⟨r1, r2, (rd_T62 B r3).f0, r4⟩).2.2.2 = 0 then spec_l08Good.l1 k (m : Int) c a4 s4 (addR A B C ⟨r1, r2, (rd_T62 B r3).f0, r4⟩).1 (addR A B C ⟨r1, r2, (rd_T62 B r3).f0, r4⟩).2.1 (addR A B C ⟨r1, r2, (rd_T62 B r3).f0, r4⟩).2.2.1 else spec_l08Good.l1 k (m : Int) c a4 s4 A B C := by
    intro k hk; simp only [spec_l08Good.l1]; rw [if_pos (by omega)]; simp only [spec_l08Good.j2]; rw [if_pos (by rw [decide_eq_true_iff]; exact hb), e1, Option.bind_some]; dsimp only; rw [if_pos p1, if_pos (by omega), e2, Option.bind_some]; dsimp only; rw [e3, Option.bind_some]; dsimp only; rw [if_pos p3, if_pos (by omega), e4, Option.bind_some]; dsimp only; rw [ha k (by omega), Option.bind_some, hw]
   by_cases g : isShow A B C = true ∧ ¬ (C.length : Int) = 20 ∧ isShow A B (C ++ [⟨r1, r2, (rd_T62 B r3).f0, r4⟩]) = true
   ·have hR : addR A B C ⟨r1, r2, (rd_T62 B r3).f0, r4⟩ = (A, B, C ++ [⟨r1, r2, (rd_T62 B r3).f0, r4⟩], 0) := by
     unfold addR; rw [if_pos g.1, if_neg g.2.1, if_pos g.2.2]
    obtain ⟨C', a', s', e, hs, hl⟩ := ih (C ++ [⟨r1, r2, (rd_T62 B r3).f0, r4⟩]) Zdu h4; refine ⟨C', a', s', fun k hk => ?_, hs, hl⟩; obtain ⟨k, rfl⟩ : ∃ m, k = m + 2 := ⟨k - 2, by omega⟩; rw [run k hk, hR, if_pos rfl]; exact e k (by omega)
   ·have hR : (addR A B C ⟨r1, r2, (rd_T62 B r3).f0, r4⟩).2.2.2 ≠ 0 := by
     unfold addR
     by_cases g1 : isShow A B C = true
     ·rw [if_pos g1]
      by_cases g2 : (C.length : Int) = 20
      ·rw [if_pos g2]; decide
      ·rw [if_neg g2, if_neg (fun g3 => g ⟨g1, g2, g3⟩)]; decide
     ·rw [if_neg g1]; decide
    obtain ⟨C', a', s', e, hs, hl⟩ := ih C (by omega) h4; refine ⟨C', a', s', fun k hk => ?_, hs, hl⟩; obtain ⟨k, rfl⟩ : ∃ m, k = m + 2 := ⟨k - 2, by omega⟩; rw [run k hk, if_neg hR]; exact e k (by omega)
  ·refine ⟨C, a, s, fun k hk => ?_, h, by omega⟩
   obtain ⟨k, rfl⟩ : ∃ m, k = m + 2 := ⟨k - 2, by omega⟩; simp only [spec_l08Good.l1]; rw [if_pos (by omega)]; simp only [spec_l08Good.j2]; rw [if_neg (by rw [decide_eq_true_iff]; exact hb)]
theorem good_l0 {c : List Int} (hc : Code c) {A : List S104} (hA : GoodBars A) (hA1 : 1 ≤ A.length) (hA6 : A.length ≤ 6) {nm : List ByteArray} (hn : ∀ x ∈ nm, x.size ≤ 100) (hn6 : nm.length ≤ 6) :
  ∀ d i (B : List S62), nm.length - i = d → i ≤ nm.length → B.length + d ≤ 20 → SmallArts B → ∀ {a s : Int}, St c a s → ∃ B' C' a' s', (∀ k, 36893488147419104000 + d ≤ k → spec_l08Good.l0 k nm (i : Int) c a s A B [] = some (A, B', C', a', s')) ∧ St c a' s' ∧ B'.length ≤ 20 ∧ SmallArts B' ∧ C'.length ≤ 20 := by
 intro d
 induction d with
 | zero =>
  intro i B hd hi hB hS a s h; obtain ⟨r, a1, s1, e1, h1, p1, q1⟩ := next_ok hc h 9 (by decide); obtain ⟨C', a', s', e, hs, hl⟩ := good_l1 hc hA hA1 hA6 (B := B) (by omega) hS r.toNat [] (by simp only [List.length_nil]; omega) h1; refine ⟨B, C', a', s', fun k hk => ?_, hs, by omega, hS, hl⟩; obtain ⟨k, rfl⟩ : ∃ m, k = m + 1 := ⟨k - 1, by omega⟩; simp only [spec_l08Good.l0]; rw [if_neg (by omega), e1, Option.bind_some]; dsimp only; have := e k (by omega); rw [show ((r.toNat : Nat) : Int) = r by omega] at this; exact this
 | succ d ih =>
  intro i B hd hi hB hS a s h; obtain ⟨r, a1, s1, e1, h1, p1, q1⟩ := next_ok hc h 3 (by decide)
  have hw : wrap64 ((i : Int) + 1) = ((i + 1 : Nat) : Int) := by rw [w64 (by omega)]; omega
  by_cases g : r > 0
  ·obtain ⟨q2, q3, q4, q5, q6, q7, q8, q9, a2, s2, e2, h2⟩ := good_art hc h1 (rdOf ByteArray.empty nm (i : Int))
   have hz : (rdOf ByteArray.empty nm (i : Int)).size ≤ 100 := hn _ (by unfold rdOf; exact mem_rd (by omega) (by omega))
   obtain ⟨B', C', a', s', e, hs, hb, hS', hl⟩ := ih (i + 1) (B ++ [⟨rdOf ByteArray.empty nm (i : Int), q2, q3, Int.tmod q4 3000, mn q5 (Int.tmod q4 3000), q6, q7, q8, q9⟩]) (by omega) (by omega) Zdu (fun x hx => by
    rcases List.mem_append.mp hx with y | y
    ·exact hS x y
    ·rw [List.mem_singleton] at y; subst y; exact hz) h2
   refine ⟨B', C', a', s', fun k hk => ?_, hs, hb, hS', hl⟩; obtain ⟨k, rfl⟩ : ∃ m, k = m + 1 := ⟨k - 1, by omega⟩; simp only [spec_l08Good.l0]; rw [if_pos (by omega), e1, Option.bind_some]; dsimp only; rw [if_pos g, if_pos (by omega), e2, Option.bind_some]; dsimp only; rw [if_pos (by omega), hw]; exact e k (by omega)
  ·obtain ⟨B', C', a', s', e, hs, hb, hS', hl⟩ := ih (i + 1) B (by omega) (by omega) (by omega) hS h1
   refine ⟨B', C', a', s', fun k hk => ?_, hs, hb, hS', hl⟩; obtain ⟨k, rfl⟩ : ∃ m, k = m + 1 := ⟨k - 1, by omega⟩; simp only [spec_l08Good.l0]; rw [if_pos (by omega), e1, Option.bind_some]; dsimp only; rw [if_neg g, hw]; exact e k (by omega)
theorem good_show {c : List Int} (hc : Code c) {a s : Int} (h : St c a s) : ∃ A B C a' s', (∀ k, 36893488147419104010 ≤ k → spec_l08Good.f k c a s = some (A, B, C, a', s')) ∧ St c a' s' ∧ 1 ≤ A.length ∧ A.length ≤ 6 ∧ B.length ≤ 20 ∧ SmallArts B ∧ C.length ≤ 20 := by
 obtain ⟨A, a1, s1, e1, h1, hA1, hA6, hA⟩ := score_good hc h; obtain ⟨nm, en, hn, hn6⟩ : ∃ nm, spec_l03Names.f = some nm ∧ (∀ x ∈ nm, x.size ≤ 100) ∧ nm.length ≤ 6 := ⟨_, rfl, by decide, by decide⟩; obtain ⟨B, C, a', s', e, hs, hb, hS, hl⟩ := good_l0 hc hA hA1 hA6 hn hn6 nm.length 0 [] (by omega) (by omega) (by simp only [List.length_nil]; omega) (fun x hx => by simp at hx) h1; refine ⟨A, B, C, a', s', fun k hk => ?_, hs, hA1, hA6, hb, hS, hl⟩
 unfold spec_l08Good.f
 rw [e1 k (by omega), Option.bind_some]; dsimp only; rw [en, Option.bind_some]; exact e k (by omega)
theorem draw_art {c : List Int} (hc : Code c) {a s : Int} (h : St c a s) (nm : ByteArray) (hn : nm.size ≤ 100) (hW : ∀ {a s : Int}, St c a s → ∃ w a' s', spec_l01DrawWord.f c a s = some (w, a', s') ∧ St c a' s' ∧ w.size ≤ 100) : ∃ q1 q2 q3 q4 q5 q6 q7 q8 q9 a' s', spec_l03Draw.f c a s nm = some (q1, q2, q3, q4, q5, q6, q7, q8, q9, a', s') ∧ St c a' s' ∧ q1.size ≤ 100 := by
 obtain ⟨q2, q3, q4, q5, q6, q7, q8, q9, a1, s1, e1, h1⟩ := good_art hc h nm; obtain ⟨r, a2, s2, e2, h2, _⟩ := next_ok hc h1 60 (by decide)
 unfold spec_l03Draw.f
 rw [e1, Option.bind_some]; dsimp only; rw [e2, Option.bind_some]; dsimp only
 by_cases g0 : r = 0
 ·obtain ⟨p, a3, s3, e3, h3, _⟩ := pick_ok hc h2 [19, 20, 300, 301] (by simp) (by simp)
  rw [if_pos g0, e3, Option.bind_some]; exact ⟨_, _, _, _, _, _, _, _, _, _, _, rfl, h3, hn⟩
 rw [if_neg g0]
 by_cases g1 : r = 1
 ·obtain ⟨p, a3, s3, e3, h3, _⟩ := pick_ok hc h2 [q4, wrap64 (q4 + 1), (-1)] (by simp) (by simp)
  rw [if_pos g1, e3, Option.bind_some]; exact ⟨_, _, _, _, _, _, _, _, _, _, _, rfl, h3, hn⟩
 rw [if_neg g1]
 by_cases g2 : r = 2
 ·obtain ⟨p, a3, s3, e3, h3, _⟩ := pick_ok hc h2 [0, 50, 51] (by simp) (by simp)
  rw [if_pos g2, e3, Option.bind_some]; exact ⟨_, _, _, _, _, _, _, _, _, _, _, rfl, h3, hn⟩
 rw [if_neg g2]
 by_cases g3 : r = 3
 ·obtain ⟨w, a3, s3, e3, h3, hw⟩ := hW h2
  rw [if_pos g3, e3, Option.bind_some]; exact ⟨_, _, _, _, _, _, _, _, _, _, _, rfl, h3, hw⟩
 rw [if_neg g3]
 by_cases g4 : r = 4
 ·obtain ⟨p, a3, s3, e3, h3, _⟩ := pick_ok hc h2 [0, 100000, 100001] (by simp) (by simp)
  rw [if_pos g4, e3, Option.bind_some]; exact ⟨_, _, _, _, _, _, _, _, _, _, _, rfl, h3, hn⟩
 rw [if_neg g4]; exact ⟨_, _, _, _, _, _, _, _, _, _, _, rfl, h2, hn⟩
theorem word_key {c : List Int} (hc : Code c) {a s : Int} (h : St c a s) (n : Int) (hn : n ≤ 100) (L : List ByteArray) (hL : ∀ x ∈ L, x.size ≤ 100) (hl : (L.length : Int) = n) (h1 : 1 ≤ n) :
  ∃ w a' s', ((some L).bind fun y => (spec_l01Next.f c a s n).bind fun bt => (if 0 ≤ bt.1 then (if bt.1 < (y.length : Int) then (some (rdOf ByteArray.empty y bt.1, bt.2.1, bt.2.2)) else (none)) else (none))) = some (w, a', s') ∧ St c a' s' ∧ w.size ≤ 100 := by
 obtain ⟨r, a1, s1, e1, h2, p1, q1⟩ := next_ok hc h n (by omega); rw [Option.bind_some, e1, Option.bind_some]; dsimp only; rw [if_pos p1, if_pos (by omega)]; exact ⟨_, _, _, rfl, h2, hL _ (by unfold rdOf; exact mem_rd p1 (by omega))⟩
theorem word_draw {c : List Int} (hc : Code c) {a s : Int} (h : St c a s) : ∃ w a' s', spec_l01DrawWord.f c a s = some (w, a', s') ∧ St c a' s' ∧ w.size ≤ 100 := by
 obtain ⟨r, a1, s1, e1, h1, _⟩ := next_ok hc h 24 (by decide)
 unfold spec_l01DrawWord.f
 rw [e1, Option.bind_some]; dsimp only
 by_cases g : r = 0
 ·rw [if_pos g]
  exact word_key hc h1 6 (by decide) _ (by decide) rfl (by decide)
 ·rw [if_neg g]
  obtain ⟨w, a2, s2, e2, h2, hw⟩ : ∃ w a' s', spec_l01Good.f c a1 s1 = some (w, a', s') ∧ St c a' s' ∧ w.size ≤ 100 := by
   unfold spec_l01Good.f
   exact word_key hc h1 12 (by decide) _ (by decide) rfl (by decide)
  rw [e2, Option.bind_some]; exact ⟨w, a2, s2, rfl, h2, hw⟩
theorem draw_loop {c : List Int} (hc : Code c) (A : List S104) (B : List S62) (q : S39) : ∀ d (C : List S39), 30 - C.length = d → C.length ≤ 30 → ∀ {a s : Int}, St c a s → ∃ C' a' s', (∀ k, d + 2 ≤ k → spec_l08Draw.l0 k c a s A B C q.f0 q.f1 q.f2 q.f3 = some (A, B, C', a', s')) ∧ St c a' s' ∧ C'.length ≤ 30 := by
 intro d
 induction d with
 | zero =>
  intro C hd hC a s h; obtain ⟨r, a1, s1, e1, h1, p1, q1⟩ := next_ok hc h 2 (by decide); refine ⟨C, a1, s1, fun k hk => ?_, h1, hC⟩; obtain ⟨k, rfl⟩ : ∃ m, k = m + 1 := ⟨k - 1, by omega⟩; simp only [spec_l08Draw.l0]; rw [e1, Option.bind_some]; dsimp only; rw [w64 (by omega), if_neg (by omega)]
 | succ d ih =>
  intro C hd hC a s h; obtain ⟨r, a1, s1, e1, h1, p1, q1⟩ := next_ok hc h 2 (by decide)
  by_cases g : (C.length : Int) < 20 + r
  ·obtain ⟨C', a', s', e, hs, hl⟩ := ih (C ++ [⟨q.f0, q.f1, q.f2, q.f3⟩]) Zdu Zdu h1
   refine ⟨C', a', s', fun k hk => ?_, hs, hl⟩; obtain ⟨k, rfl⟩ : ∃ m, k = m + 1 := ⟨k - 1, by omega⟩; simp only [spec_l08Draw.l0]; rw [e1, Option.bind_some]; dsimp only; rw [w64 (by omega), if_pos g, if_pos (by omega)]; exact e k (by omega)
  ·refine ⟨C, a1, s1, fun k hk => ?_, h1, hC⟩
   obtain ⟨k, rfl⟩ : ∃ m, k = m + 1 := ⟨k - 1, by omega⟩; simp only [spec_l08Draw.l0]; rw [e1, Option.bind_some]; dsimp only; rw [w64 (by omega), if_neg g]
theorem small_snoc {B : List S62} (hB : SmallArts B) {x : S62} (hx : x.f0.size ≤ 100) : SmallArts (B ++ [x]) := fun y hy => by
 rcases List.mem_append.mp hy with z | z
 ·exact hB y z
 ·rw [List.mem_singleton] at z; subst z; exact hx
theorem list_l1 {c : List Int} (hc : Code c) : ∀ d (i : Nat) (B : List S62), 14 - i = d → i ≤ 14 → B.length + d ≤ 60 → SmallArts B → ∀ {a s : Int}, St c a s → ∃ B' a' s', (∀ k, d + 2 ≤ k → spec_l03List.l1 k B (i : Int) c a s = some (B', a', s')) ∧ St c a' s' ∧ B'.length ≤ 60 ∧ SmallArts B' := by
 intro d
 induction d with
 | zero =>
  intro i B hd hi hB hS a s h; obtain ⟨r, a1, s1, e1, h1, p1, q1⟩ := next_ok hc h 2 (by decide); refine ⟨B, a1, s1, fun k hk => ?_, h1, by omega, hS⟩; obtain ⟨k, rfl⟩ : ∃ m, k = m + 1 := ⟨k - 1, by omega⟩; simp only [spec_l03List.l1]; rw [e1, Option.bind_some]; dsimp only
  by_cases g : (B.length : Int) < wrap64 (12 + r)
  ·rw [if_pos g, if_neg (by omega)]
  ·rw [if_neg g]
 | succ d ih =>
  intro i B hd hi hB hS a s h; obtain ⟨r, a1, s1, e1, h1, p1, q1⟩ := next_ok hc h 2 (by decide)
  by_cases g : (B.length : Int) < wrap64 (12 + r)
  ·have hw : wrap64 ((i : Int) + 1) = ((i + 1 : Nat) : Int) := by rw [w64 (by omega)]; omega
   have hz : ((⟨#[97, 98, 99, 100, 101, 102, 103, 104, 105, 106, 107, 108, 109, 110]⟩ : ByteArray).extract (i : Int).toNat ((i + 1 : Nat) : Int).toNat).size ≤ 14 := by
    rw [ByteArray.size_extract]; have : (⟨#[97, 98, 99, 100, 101, 102, 103, 104, 105, 106, 107, 108, 109, 110]⟩ : ByteArray).size = 14 := rfl
    omega
   obtain ⟨q2, q3, q4, q5, q6, q7, q8, q9, a2, s2, e2, h2⟩ := good_art hc h1 ((⟨#[120]⟩ : ByteArray) ++ ((⟨#[97, 98, 99, 100, 101, 102, 103, 104, 105, 106, 107, 108, 109, 110]⟩ : ByteArray).extract (i : Int).toNat ((i + 1 : Nat) : Int).toNat))
   have hx : ((⟨#[120]⟩ : ByteArray) ++ ((⟨#[97, 98, 99, 100, 101, 102, 103, 104, 105, 106, 107, 108, 109, 110]⟩ : ByteArray).extract (i : Int).toNat ((i + 1 : Nat) : Int).toNat)).size ≤ 100 := by
    rw [ByteArray.size_append]; have : (⟨#[120]⟩ : ByteArray).size = 1 := rfl
    omega
   obtain ⟨B', a', s', e, hs, hl, hS'⟩ := ih (i + 1) (B ++ [⟨_, q2, q3, q4, q5, q6, q7, q8, q9⟩]) (by omega) (by omega) Zdu (small_snoc hS hx) h2; refine ⟨B', a', s', fun k hk => ?_, hs, hl, hS'⟩; obtain ⟨k, rfl⟩ : ∃ m, k = m + 1 := ⟨k - 1, by omega⟩; simp only [spec_l03List.l1]; rw [e1, Option.bind_some]; dsimp only; rw [if_pos g, hw, if_pos (by omega), if_pos (by omega), if_pos (by omega), if_pos (by omega), if_pos (by omega), e2, Option.bind_some]; dsimp only; rw [if_pos (by omega)]; exact e k (by omega)
  ·refine ⟨B, a1, s1, fun k hk => ?_, h1, by omega, hS⟩
   obtain ⟨k, rfl⟩ : ∃ m, k = m + 1 := ⟨k - 1, by omega⟩; simp only [spec_l03List.l1]; rw [e1, Option.bind_some]; dsimp only; rw [if_neg g]
theorem list_l0 {c : List Int} (hc : Code c) {nm : List ByteArray} (hn : ∀ x ∈ nm, x.size ≤ 100) (hn6 : nm.length ≤ 6) : ∀ d (i : Nat) (B : List S62), nm.length - i = d → i ≤ nm.length → B.length + d ≤ 40 → SmallArts B → ∀ {a s : Int}, St c a s → ∃ B' a' s', (∀ k, d + 30 ≤ k → spec_l03List.l0 k B nm (i : Int) c a s = some (B', a', s')) ∧ St c a' s' ∧ B'.length ≤ 60 ∧ SmallArts B' := by
 intro d
 induction d with
 | zero =>
  intro i B hd hi hB hS a s h; obtain ⟨r, a1, s1, e1, h1, p1, q1⟩ := next_ok hc h 30 (by decide)
  by_cases g0 : r = 0
  ·obtain ⟨q2, q3, q4, q5, q6, q7, q8, q9, a2, s2, e2, h2⟩ := good_art hc h1 (⟨#[97, 115, 116, 101, 114]⟩ : ByteArray)
   refine ⟨B ++ [⟨_, q2, q3, q4, q5, q6, q7, q8, q9⟩], a2, s2, fun k hk => ?_, h2, Zdu, small_snoc hS (show (⟨#[97, 115, 116, 101, 114]⟩ : ByteArray).size ≤ 100 by decide)⟩; obtain ⟨k, rfl⟩ : ∃ m, k = m + 1 := ⟨k - 1, by omega⟩; simp only [spec_l03List.l0]; rw [if_neg (by omega), e1, Option.bind_some]; dsimp only; rw [if_pos g0, e2, Option.bind_some]; dsimp only; rw [if_pos (by omega)]
  ·by_cases g1 : r = 1
   ·obtain ⟨B', a', s', e, hs, hl, hS'⟩ := list_l1 hc 14 0 B (by omega) (by omega) (by omega) hS h1
    refine ⟨B', a', s', fun k hk => ?_, hs, hl, hS'⟩; obtain ⟨k, rfl⟩ : ∃ m, k = m + 1 := ⟨k - 1, by omega⟩; simp only [spec_l03List.l0]; rw [if_neg (by omega), e1, Option.bind_some]; dsimp only; rw [if_neg g0, if_pos g1]; exact e k (by omega)
   ·refine ⟨B, a1, s1, fun k hk => ?_, h1, by omega, hS⟩
    obtain ⟨k, rfl⟩ : ∃ m, k = m + 1 := ⟨k - 1, by omega⟩; simp only [spec_l03List.l0]; rw [if_neg (by omega), e1, Option.bind_some]; dsimp only; rw [if_neg g0, if_neg g1]
 | succ d ih =>
  intro i B hd hi hB hS a s h; obtain ⟨r, a1, s1, e1, h1, p1, q1⟩ := next_ok hc h 3 (by decide)
  have hw : wrap64 ((i : Int) + 1) = ((i + 1 : Nat) : Int) := by rw [w64 (by omega)]; omega
  by_cases g : r > 0
  ·have hz : (rdOf ByteArray.empty nm (i : Int)).size ≤ 100 := hn _ (by unfold rdOf; exact mem_rd (by omega) (by omega))
   obtain ⟨q1_, q2, q3, q4, q5, q6, q7, q8, q9, a2, s2, e2, h2, hx⟩ := draw_art hc h1 (rdOf ByteArray.empty nm (i : Int)) hz (fun h => word_draw hc h); obtain ⟨B', a', s', e, hs, hb, hS'⟩ := ih (i + 1) (B ++ [⟨q1_, q2, q3, q4, q5, q6, q7, q8, q9⟩]) (by omega) (by omega) Zdu (small_snoc hS hx) h2; refine ⟨B', a', s', fun k hk => ?_, hs, hb, hS'⟩; obtain ⟨k, rfl⟩ : ∃ m, k = m + 1 := ⟨k - 1, by omega⟩; simp only [spec_l03List.l0]; rw [if_pos (by omega), e1, Option.bind_some]; dsimp only; rw [if_pos g, if_pos (by omega), e2, Option.bind_some]; dsimp only; rw [if_pos (by omega), hw]; exact e k (by omega)
  ·obtain ⟨B', a', s', e, hs, hb, hS'⟩ := ih (i + 1) B (by omega) (by omega) (by omega) hS h1
   refine ⟨B', a', s', fun k hk => ?_, hs, hb, hS'⟩; obtain ⟨k, rfl⟩ : ∃ m, k = m + 1 := ⟨k - 1, by omega⟩; simp only [spec_l03List.l0]; rw [if_pos (by omega), e1, Option.bind_some]; dsimp only; rw [if_neg g, hw]; exact e k (by omega)
theorem list_draw {c : List Int} (hc : Code c) {a s : Int} (h : St c a s) : ∃ B a' s', (∀ k, 40 ≤ k → spec_l03List.f k c a s = some (B, a', s')) ∧ St c a' s' ∧ B.length ≤ 60 ∧ SmallArts B := by
 obtain ⟨nm, en, hn, hn6⟩ : ∃ nm, spec_l03Names.f = some nm ∧ (∀ x ∈ nm, x.size ≤ 100) ∧ nm.length ≤ 6 := ⟨_, rfl, by decide, by decide⟩; obtain ⟨B, a', s', e, hs, hb, hS⟩ := list_l0 hc hn hn6 nm.length 0 [] (by omega) (by omega) (by simp only [List.length_nil]; omega) (fun x hx => by simp at hx) h; refine ⟨B, a', s', fun k hk => ?_, hs, hb, hS⟩
 unfold spec_l03List.f
 rw [en, Option.bind_some]; exact e k (by omega)
theorem show_draw {c : List Int} (hc : Code c) {a s : Int} (h : St c a s) : ∃ A B C a' s', (∀ k, 36893488147419104010 ≤ k → spec_l08Draw.f k c a s = some (A, B, C, a', s')) ∧ St c a' s' ∧ A.length ≤ 60 ∧ B.length ≤ 60 ∧ SmallArts B ∧ C.length ≤ 60 := by
 obtain ⟨A, B, C, a1, s1, e1, h1, hA1, hA6, hB, hS, hC⟩ := good_show hc h; obtain ⟨r, a2, s2, e2, h2, _⟩ := next_ok hc h1 40 (by decide)
 by_cases g0 : r = 0
 ·obtain ⟨A', a3, s3, e3, h3, hl⟩ := score_draw hc h2
  refine ⟨A', B, C, a3, s3, fun k hk => ?_, h3, by omega, by omega, hS, by omega⟩
  unfold spec_l08Draw.f
  rw [e1 k hk, Option.bind_some]; dsimp only; rw [e2, Option.bind_some]; dsimp only; rw [if_pos g0, e3 k (by omega), Option.bind_some]
 by_cases g1 : r = 1
 ·obtain ⟨B', a3, s3, e3, h3, hl, hS'⟩ := list_draw hc h2
  refine ⟨A, B', C, a3, s3, fun k hk => ?_, h3, by omega, by omega, hS', by omega⟩
  unfold spec_l08Draw.f
  rw [e1 k hk, Option.bind_some]; dsimp only; rw [e2, Option.bind_some]; dsimp only; rw [if_neg g0, if_pos g1, e3 k (by omega), Option.bind_some]
 by_cases g2 : r = 2
 ·obtain ⟨r3, a3, s3, e3, h3, _⟩ := next_ok hc h2 8 (by decide)
  obtain ⟨r4, a4, s4, e4, h4, _⟩ := next_ok hc h3 5 (by decide); obtain ⟨r5, a5, s5, e5, h5, _⟩ := next_ok hc h4 14 (by decide); refine ⟨A, B, C ++ [⟨wrap64 (r3 - 1), r4, (⟨#[112, 101, 111, 110, 121]⟩ : ByteArray), wrap64 (r5 - 1)⟩], a5, s5, fun k hk => ?_, h5, by omega, by omega, hS, Zdu⟩
  unfold spec_l08Draw.f
  rw [e1 k hk, Option.bind_some]; dsimp only; rw [e2, Option.bind_some]; dsimp only; rw [if_neg g0, if_neg g1, if_pos g2, e3, Option.bind_some]; dsimp only; rw [e4, Option.bind_some]; dsimp only; rw [e5, Option.bind_some]; dsimp only; rw [if_pos (by omega)]
 by_cases g3 : r = 3
 ·by_cases g4 : (C.length : Int) > 0
  ·obtain ⟨C', a3, s3, e3, h3, hl⟩ := draw_loop hc A B (rd_T39 C 0) (30 - C.length) C rfl (by omega) h2
   refine ⟨A, B, C', a3, s3, fun k hk => ?_, h3, by omega, by omega, hS, by omega⟩
   unfold spec_l08Draw.f
   rw [e1 k hk, Option.bind_some]; dsimp only; rw [e2, Option.bind_some]; dsimp only; rw [if_neg g0, if_neg g1, if_neg g2, if_pos g3, if_pos g4, if_pos (by omega)]; exact e3 k (by omega)
  ·refine ⟨A, B, C, a2, s2, fun k hk => ?_, h2, by omega, by omega, hS, by omega⟩
   unfold spec_l08Draw.f
   rw [e1 k hk, Option.bind_some]; dsimp only; rw [e2, Option.bind_some]; dsimp only; rw [if_neg g0, if_neg g1, if_neg g2, if_pos g3, if_neg g4]
 ·refine ⟨A, B, C, a2, s2, fun k hk => ?_, h2, by omega, by omega, hS, by omega⟩
  unfold spec_l08Draw.f
  rw [e1 k hk, Option.bind_some]; dsimp only; rw [e2, Option.bind_some]; dsimp only; rw [if_neg g0, if_neg g1, if_neg g2, if_neg g3]
end Go.Proofs.Ythhijbdekboahaa.F
namespace Go.Proofs.Ythhijbdekboahaa.F
open Go.RowKit Go.Proofs.YthhijbdekboahaaW.PrintWords Go.Proofs.YthhijbdekboahaaW.PrintLast Go.Proofs.YthhijbdekboahaaW.PrintMore
attribute [local go_sem] max2_int min2_int max_two min_two max_three min_three max_four min_four
set_option linter.unusedVariables false
set_option linter.unusedSimpArgs false
end Go.Proofs.Ythhijbdekboahaa.F
namespace Go.Proofs.Ythhijbdekboahaa.F
open Go.RowKit Go.Proofs.YthhijbdekboahaaW.PrintWords Go.Proofs.YthhijbdekboahaaW.PrintLast Go.Proofs.YthhijbdekboahaaW.PrintMore
set_option linter.unusedVariables false
set_option linter.unusedSimpArgs false
theorem like_ints_s (X : List Int) (hX : X.length ≤ 4000000) (k : Nat) (hk : X.length < k) : laws_likeInts.f k X X = some true := by
 have loop : ∀ d i k, X.length - i = d → i ≤ X.length → d < k → laws_likeInts.l0 k X X (i : Int) = some true := by
  intro d
  induction d with
  | zero =>
   intro i k hd hi hk; obtain ⟨k, rfl⟩ : ∃ m, k = m + 1 := ⟨k - 1, by omega⟩; simp only [laws_likeInts.l0]; rw [if_neg (by omega)]
  | succ d ih =>
   intro i k hd hi hk; obtain ⟨k, rfl⟩ : ∃ m, k = m + 1 := ⟨k - 1, by omega⟩; simp only [laws_likeInts.l0]; rw [if_pos (by omega), if_pos (by omega), if_pos (by omega), if_pos trivial, w64 (by omega)]; exact ih (i + 1) k (by omega) (by omega) (by omega)
 unfold laws_likeInts.f
 rw [if_pos rfl]; exact loop X.length 0 k (by omega) (by omega) hk
end Go.Proofs.Ythhijbdekboahaa.F
namespace Go.Proofs.Ythhijbdekboahaa.F
open Go.RowKit Go.Proofs.YthhijbdekboahaaW.PrintWords Go.Proofs.YthhijbdekboahaaW.PrintLast Go.Proofs.YthhijbdekboahaaW.PrintMore
attribute [local go_sem] max2_int min2_int max_two min_two max_three min_three max_four min_four
set_option linter.unusedVariables false
set_option linter.unusedSimpArgs false
end Go.Proofs.Ythhijbdekboahaa.F
namespace Go.Proofs.Ythhijbdekboahaa.F
open Go.RowKit Go.Proofs.YthhijbdekboahaaW.PrintWords Go.Proofs.YthhijbdekboahaaW.PrintLast Go.Proofs.YthhijbdekboahaaW.PrintMore
set_option linter.unusedVariables false
set_option linter.unusedSimpArgs false
end Go.Proofs.Ythhijbdekboahaa.F
namespace Go.Proofs.Ythhijbdekboahaa.F
open Go.RowKit Go.Proofs.YthhijbdekboahaaW.PrintWords Go.Proofs.YthhijbdekboahaaW.PrintLast Go.Proofs.YthhijbdekboahaaW.PrintMore
attribute [local go_sem] max2_int min2_int max_two min_two max_three min_three max_four min_four
set_option linter.unusedVariables false
set_option linter.unusedSimpArgs false
end Go.Proofs.Ythhijbdekboahaa.F
namespace Go.Proofs.Ythhijbdekboahaa.F
open Go.RowKit Go.Proofs.YthhijbdekboahaaW.PrintWords Go.Proofs.YthhijbdekboahaaW.PrintLast Go.Proofs.YthhijbdekboahaaW.PrintMore
set_option linter.unusedVariables false
set_option linter.unusedSimpArgs false
end Go.Proofs.Ythhijbdekboahaa.F
namespace Go.Proofs.Ythhijbdekboahaa.F
open Go.RowKit Go.Proofs.YthhijbdekboahaaW.PrintWords Go.Proofs.YthhijbdekboahaaW.PrintLast Go.Proofs.YthhijbdekboahaaW.PrintMore
attribute [local go_sem] max2_int min2_int max_two min_two max_three min_three max_four min_four
set_option linter.unusedVariables false
set_option linter.unusedSimpArgs false
end Go.Proofs.Ythhijbdekboahaa.F
namespace Go.Proofs.Ythhijbdekboahaa.F
open Go.RowKit Go.Proofs.YthhijbdekboahaaW.PrintWords Go.Proofs.YthhijbdekboahaaW.PrintLast Go.Proofs.YthhijbdekboahaaW.PrintMore
set_option linter.unusedVariables false
set_option linter.unusedSimpArgs false
def countF (B : List S62) (C : List S39) : Nat → Nat → List Int → List Int
 | _, 0, X => X
 | i, d + 1, X => countF B C (i + 1) d (X.set (find B (cu_at C i).f2).toNat (wrap64 (rd X (find B (cu_at C i).f2) + 1)))
theorem countF_len (B : List S62) (C : List S39) : ∀ d i X, (countF B C i d X).length = X.length
 | 0, _, _ => rfl
 | d + 1, i, X => by
  unfold countF
  rw [countF_len B C d (i + 1) _, List.length_set]
def countR (A : List S104) (B : List S62) (C : List S39) : List Int × Int := if isShow A B C = true then (countF B C 0 C.length (List.replicate B.length 0), 0) else ([], 1)
theorem count_go {A : List S104} {B : List S62} {C : List S39} (h : isShow A B C = true) : ∀ d k i X, C.length - i = d → i ≤ C.length → X.length = B.length → d + 110 ≤ k → spec_CountUsed.l0 k X (i : Int) A B C = some (countF B C i d X, 0) ∧ impl_CountUsed.l0 k X C (C.length : Int) (i : Int) A B C = some (countF B C i d X, 0) := by
 have hC := (isShow_true h).2.2.1; have hB := (areArts_true (isShow_true h).2.1).1; intro d
 induction d with
 | zero =>
  intro k i X hd hi hX hk; obtain ⟨k, rfl⟩ : ∃ m, k = m + 1 := ⟨k - 1, by omega⟩; simp only [spec_CountUsed.l0, impl_CountUsed.l0]; rw [if_neg (by omega), if_neg (by omega)]; exact ⟨rfl, rfl⟩
 | succ d ih =>
  intro k i X hd hi hX hk; obtain ⟨k, rfl⟩ : ∃ m, k = m + 1 := ⟨k - 1, by omega⟩
  have hi' : i < C.length := by omega
  obtain ⟨h1, h2, h3, h4, h5, h6⟩ := cu_ok h hi'; obtain ⟨a, b⟩ := ih k (i + 1) (X.set (find B (cu_at C i).f2).toNat (wrap64 (rd X (find B (cu_at C i).f2) + 1))) (by omega) (by omega) (by rw [List.length_set]; exact hX) (by omega)
  have g1 : (i : Int) < (C.length : Int) := by omega
  have g2 : 0 ≤ (i : Int) := by omega
  have g3 : find B (cu_at C i).f2 < (X.length : Int) := by omega
  simp only [spec_CountUsed.l0, impl_CountUsed.l0]; rw [if_pos g1, if_pos g2, if_pos g1, if_pos g2, if_pos g1, rd_cue, spec_find B (by omega) _ k (by omega), impl_find B (by omega) _ k (by omega), w64 (n := (i : Int) + 1) (by omega)]; simp only [Option.bind_some]; rw [if_pos h2, if_pos g3, if_pos h2, if_pos g3]; exact ⟨a, b⟩
theorem count_ok (n0 : Nat) {A : List S104} {B : List S62} {C : List S39} (hF : Frame n0 A B C) (k : Nat) (hk : 36893488147419103528 ≤ k) : spec_CountUsed.f k A B C = some (countR A B C) ∧ impl_CountUsed.f k A B C = some (countR A B C) := by
 unfold spec_CountUsed.f impl_CountUsed.f countR
 rw [ss_ok hF k (by omega), si_ok hF k (by omega)]; simp only [Option.bind_some]
 cases h : isShow A B C with
 | false => exact ⟨rfl, rfl⟩
 | true =>
  simp only [if_true]; have hC := (isShow_true h).2.2.1; have hB := (areArts_true (isShow_true h).2.1).1; rw [if_pos (by omega), if_pos (by omega), if_pos (by omega), if_pos (by omega), Int.toNat_natCast]; exact count_go h C.length k 0 (List.replicate B.length 0) (by omega) (by omega) (by rw [List.length_replicate]) (by omega)
theorem countR_len {A : List S104} {B : List S62} {C : List S39} (hB : B.length ≤ 1000000) : (countR A B C).1.length ≤ 3000000 := by
 unfold countR
 split
 ·show (countF B C 0 C.length (List.replicate B.length 0)).length ≤ _
  rw [countF_len, List.length_replicate]; omega
 ·simp
theorem bars_s (X : List S104) (hX : X.length ≤ 4000000) (k : Nat) (hk : X.length < k) : laws_likeBars.f k X X = some true := by
 have loop : ∀ d i k, X.length - i = d → i ≤ X.length → d < k → laws_likeBars.l0 k X X (i : Int) = some true := by
  intro d
  induction d with
  | zero =>
   intro i k hd hi hk; obtain ⟨k, rfl⟩ : ∃ m, k = m + 1 := ⟨k - 1, by omega⟩; simp only [laws_likeBars.l0]; rw [if_neg (by omega)]
  | succ d ih =>
   intro i k hd hi hk; obtain ⟨k, rfl⟩ : ∃ m, k = m + 1 := ⟨k - 1, by omega⟩; simp only [laws_likeBars.l0]; rw [if_pos (by omega), if_pos (by omega), if_pos (by omega), if_neg (by simp only [beq_self_eq_true, Bool.not_true, Bool.or_false]; decide), w64 (by omega)]; exact ih (i + 1) k (by omega) (by omega) (by omega)
 unfold laws_likeBars.f
 rw [if_pos rfl]; exact loop X.length 0 k (by omega) (by omega) hk
theorem arts_s (X : List S62) (hX : X.length ≤ 4000000) (k : Nat) (hk : X.length < k) : laws_likeArticles.f k X X = some true := by
 have loop : ∀ d i k, X.length - i = d → i ≤ X.length → d < k → laws_likeArticles.l0 k X X (i : Int) = some true := by
  intro d
  induction d with
  | zero =>
   intro i k hd hi hk; obtain ⟨k, rfl⟩ : ∃ m, k = m + 1 := ⟨k - 1, by omega⟩; simp only [laws_likeArticles.l0]; rw [if_neg (by omega)]
  | succ d ih =>
   intro i k hd hi hk; obtain ⟨k, rfl⟩ : ∃ m, k = m + 1 := ⟨k - 1, by omega⟩; simp only [laws_likeArticles.l0]; rw [if_pos (by omega), if_pos (by omega), if_pos (by omega), if_neg (by simp only [beq_self_eq_true, Bool.not_true, Bool.or_false]; decide), w64 (by omega)]; exact ih (i + 1) k (by omega) (by omega) (by omega)
 unfold laws_likeArticles.f
 rw [if_pos rfl]; exact loop X.length 0 k (by omega) (by omega) hk
theorem cues_s (X : List S39) (hX : X.length ≤ 4000000) (k : Nat) (hk : X.length < k) : laws_likeCues.f k X X = some true := by
 have loop : ∀ d i k, X.length - i = d → i ≤ X.length → d < k → laws_likeCues.l0 k X X (i : Int) = some true := by
  intro d
  induction d with
  | zero =>
   intro i k hd hi hk; obtain ⟨k, rfl⟩ : ∃ m, k = m + 1 := ⟨k - 1, by omega⟩; simp only [laws_likeCues.l0]; rw [if_neg (by omega)]
  | succ d ih =>
   intro i k hd hi hk; obtain ⟨k, rfl⟩ : ∃ m, k = m + 1 := ⟨k - 1, by omega⟩; simp only [laws_likeCues.l0]; rw [if_pos (by omega), if_pos (by omega), if_pos (by omega), if_neg (by simp only [beq_self_eq_true, Bool.not_true, Bool.or_false]; decide), w64 (by omega)]; exact ih (i + 1) k (by omega) (by omega) (by omega)
 unfold laws_likeCues.f
 rw [if_pos rfl]; exact loop X.length 0 k (by omega) (by omega) hk
theorem show_s (A : List S104) (B : List S62) (C : List S39) (hA : A.length ≤ 1000) (hB : B.length ≤ 1000) (hC : C.length ≤ 1000) (k : Nat) (hk : 1000 < k) : laws_likeShow.f k A B C A B C = some true := by
 unfold laws_likeShow.f
 rw [bars_s A (by omega) k (by omega), Option.bind_some, if_pos rfl, arts_s B (by omega) k (by omega), Option.bind_some, if_pos rfl, cues_s C (by omega) k (by omega), Option.bind_some]
def sumF (X : List Int) : Nat → Nat → Int
 | _, 0 => 0
 | i, d + 1 => rd X (i : Int) + sumF X (i + 1) d
theorem sum_s (X : List Int) (hX : X.length ≤ 1000) (hr : ∀ j : Nat, j < X.length → 0 ≤ rd X (j : Int) ∧ rd X (j : Int) ≤ 1000) (k : Nat) (hk : X.length < k) : laws_sum.f k X = some (sumF X 0 X.length) := by
 have loop : ∀ d i k (s : Int), X.length - i = d → i ≤ X.length → (0 ≤ s ∧ s ≤ 1000 * (i : Int)) → d < k → laws_sum.l0 k X s (i : Int) = some (s + sumF X i d) := by
  intro d
  induction d with
  | zero =>
   intro i k s hd hi hs hk; obtain ⟨k, rfl⟩ : ∃ m, k = m + 1 := ⟨k - 1, by omega⟩; simp only [laws_sum.l0]; rw [if_neg (by omega)]
   unfold sumF
   rw [Int.add_zero]
  | succ d ih =>
   intro i k s hd hi hs hk; obtain ⟨k, rfl⟩ : ∃ m, k = m + 1 := ⟨k - 1, by omega⟩; have hi' := hr i (by omega); simp only [laws_sum.l0]; rw [if_pos (by omega), if_pos (by omega), w64 (n := s + rd X (i : Int)) (by omega), w64 (n := (i : Int) + 1) (by omega)]; refine (ih (i + 1) k (s + rd X (i : Int)) (by omega) (by omega) (by omega) (by omega)).trans ?_; rw [show sumF X i (d + 1) = rd X (i : Int) + sumF X (i + 1) d from rfl, Int.add_assoc]
 unfold laws_sum.f
 refine (loop X.length 0 k 0 (by omega) (by omega) (by omega) hk).trans ?_; rw [Int.zero_add]
theorem rd_set (X : List Int) (a j : Nat) (v : Int) (ha : a < X.length) : rd (X.set a v) (j : Int) = if a = j then v else rd X (j : Int) := by
 unfold rd
 rw [Int.toNat_natCast, List.getD_eq_getElem?_getD, List.getD_eq_getElem?_getD, List.getElem?_set]
 by_cases h : a = j
 ·subst h; rw [if_pos rfl, if_pos rfl, if_pos ha]; rfl
 ·rw [if_neg h, if_neg h]
theorem sumF_set (X : List Int) (a : Nat) (v : Int) (ha : a < X.length) : ∀ d i, sumF (X.set a v) i d = sumF X i d + (if i ≤ a ∧ a < i + d then v - rd X (a : Int) else 0)
 | 0, i => by unfold sumF; rw [if_neg (by omega)]; rfl
 | d + 1, i => by
  unfold sumF
  rw [sumF_set X a v ha d (i + 1), rd_set X a i v ha]
  by_cases h : a = i
  ·subst h; rw [if_pos rfl, if_neg (by omega), if_pos (by omega)]; omega
  ·rw [if_neg h]
   by_cases g : i ≤ a ∧ a < i + (d + 1)
   ·rw [if_pos (by omega), if_pos g]; omega
   ·rw [if_neg (by omega), if_neg g]; omega
theorem count_sum {A : List S104} {B : List S62} {C : List S39} (h : isShow A B C = true) : ∀ d i (X : List Int), C.length - i = d → i ≤ C.length → X.length = B.length → (∀ j : Nat, j < X.length → 0 ≤ rd X (j : Int) ∧ rd X (j : Int) ≤ (i : Int)) → (∀ j : Nat, j < X.length → 0 ≤ rd (countF B C i d X) (j : Int) ∧ rd (countF B C i d X) (j : Int) ≤ (C.length : Int)) ∧ sumF (countF B C i d X) 0 X.length = sumF X 0 X.length + d := by
 have hC := (isShow_true h).2.2.1; intro d
 induction d with
 | zero =>
  intro i X hd hi hX hr; refine ⟨fun j hj => ?_, by show sumF X 0 X.length = _; omega⟩; have := hr j hj; show 0 ≤ rd X (j : Int) ∧ rd X (j : Int) ≤ _
  omega
 | succ d ih =>
  intro i X hd hi hX hr; obtain ⟨h1, h2, h3, h4, h5, h6⟩ := cu_ok h (i := i) (by omega); obtain ⟨a, ha⟩ : ∃ a : Nat, find B (cu_at C i).f2 = (a : Int) := ⟨(find B (cu_at C i).f2).toNat, by omega⟩; have hra := hr a (by omega)
  have e : countF B C i (d + 1) X = countF B C (i + 1) d (X.set a (rd X (a : Int) + 1)) := by
   show countF B C (i + 1) d (X.set (find B (cu_at C i).f2).toNat (wrap64 (rd X (find B (cu_at C i).f2) + 1))) = _; rw [ha, Int.toNat_natCast, w64 (by omega)]
  have hl : (X.set a (rd X (a : Int) + 1)).length = X.length := List.length_set
  obtain ⟨q1, q2⟩ := ih (i + 1) (X.set a (rd X (a : Int) + 1)) (by omega) (by omega) (by omega) (fun j hj => by
   have := hr j (by omega); rw [rd_set X a j _ (by omega)]
   split <;> omega)
  rw [hl] at q1 q2; rw [e]; refine ⟨q1, ?_⟩; rw [q2, sumF_set X a _ (by omega), if_pos (by omega)]
  omega
theorem sumF_zero (n : Nat) : ∀ d i, sumF (List.replicate n 0) i d = 0
 | 0, _ => rfl
 | d + 1, i => by
  unfold sumF
  rw [sumF_zero n d (i + 1)]
  unfold rd
  rw [Int.toNat_natCast, List.getD_eq_getElem?_getD, List.getElem?_replicate]
  split <;> rfl
theorem rd_zero (n j : Nat) : rd (List.replicate n 0) (j : Int) = 0 := by
 unfold rd
 rw [Int.toNat_natCast, List.getD_eq_getElem?_getD, List.getElem?_replicate]
 split <;> rfl
theorem count_total {A : List S104} {B : List S62} {C : List S39} (h : isShow A B C = true) (k : Nat) (hk : 100 < k) : laws_sum.f k (countR A B C).1 = some (C.length : Int) := by
 have hC := (isShow_true h).2.2.1; have hB := (areArts_true (isShow_true h).2.1).1
 unfold countR
 rw [if_pos h]; obtain ⟨q1, q2⟩ := count_sum h C.length 0 (List.replicate B.length 0) (by omega) (by omega) (by rw [List.length_replicate]) (fun j _ => by rw [rd_zero]; omega); have hl := countF_len B C C.length 0 (List.replicate B.length 0); rw [List.length_replicate] at q1 q2 hl; show laws_sum.f k (countF B C 0 C.length (List.replicate B.length 0)) = some (C.length : Int); rw [sum_s _ (by omega) (fun j hj => by have := q1 j (by omega); omega) k (by omega), hl, q2, sumF_zero, Int.zero_add]
theorem cu_mem {C : List S39} {j : Nat} (h : j < C.length) : cu_at C j ∈ C := by
 unfold cu_at
 rw [List.getD_eq_getElem?_getD, List.getElem?_eq_getElem h]; exact List.getElem_mem _
theorem mem_cu {C : List S39} {c : S39} (h : c ∈ C) : ∃ j, j < C.length ∧ cu_at C j = c := by
 obtain ⟨j, hj, e⟩ := List.mem_iff_getElem.1 h; refine ⟨j, hj, ?_⟩
 unfold cu_at
 rw [List.getD_eq_getElem?_getD, List.getElem?_eq_getElem hj, ← e]; rfl
theorem isShow_of {A : List S104} {B : List S62} {C : List S39} (h1 : isScore A = true) (h2 : areArts B = true) (h3 : C.length ≤ 20) (h4 : ∀ i, i < C.length → cueOk A B (cu_at C i) = true) : isShow A B C = true := by
 unfold isShow
 rw [h1, h2, Bool.true_and, Bool.true_and, Bool.and_eq_true, decide_eq_true_iff, allF_true]; exact ⟨by omega, fun i _ hi => h4 i (by omega)⟩
theorem isShow_erase {A : List S104} {B : List S62} {C : List S39} (h : isShow A B C = true) (n : Nat) : isShow A B (C.eraseIdx n) = true := by
 obtain ⟨h1, h2, h3, h4⟩ := isShow_true h; have hl := List.length_eraseIdx_le C n; refine isShow_of h1 h2 (by omega) (fun i hi => ?_); obtain ⟨j, hj, e⟩ := mem_cu (List.mem_of_mem_eraseIdx (cu_mem hi)); rw [← e]; exact h4 j hj
theorem erase_last (C : List S39) (c : S39) : (C ++ [c]).eraseIdx C.length = C := by
 rw [List.eraseIdx_append_of_length_le (Nat.le_refl _), Nat.sub_self]; show C ++ [] = C; rw [List.append_nil]
theorem cu_last (C : List S39) (c : S39) : cu_at (C ++ [c]) C.length = c := by
 unfold cu_at
 rw [List.getD_eq_getElem?_getD, List.getElem?_append_right (Nat.le_refl _), Nat.sub_self]; rfl
theorem add_draw {c : List Int} (hc : Code c) : ∃ A B C x0 x1 x2 x3, (∀ k, 36893488147419104010 ≤ k → spec_DrawAddCue.f k c = some (A, B, C, x0, x1, x2, x3)) ∧ A.length ≤ 60 ∧ B.length ≤ 60 ∧ SmallArts B ∧ C.length ≤ 60 := by
 obtain ⟨z, e0, h0⟩ := from_ok hc; obtain ⟨A, B, C, a1, s1, e1, h1, hA, hB, hS, hC⟩ := show_draw hc h0; obtain ⟨v, hv, hv2⟩ : ∃ v, wrap64 ((A.length : Int) + 1) = v ∧ v ≤ 4611686018427387904 := ⟨_, rfl, by rw [w64 (by omega)]; omega⟩; obtain ⟨r2, a2, s2, e2, h2, _⟩ := next_ok hc h1 v hv2; obtain ⟨r3, a3, s3, e3, h3, _⟩ := next_ok hc h2 4 (by decide); obtain ⟨r4, a4, s4, e4, h4, _⟩ := next_ok hc h3 12 (by decide)
 have go : ∃ y, ∀ k, 36893488147419104010 ≤ k → spec_DrawAddCue.f k c = some (A, B, C, r2, r3, y, r4) := by
  by_cases g : (B.length : Int) > 0
  ·obtain ⟨r5, a5, s5, e5, h5, _⟩ := next_ok hc h4 6 (by decide)
   by_cases g2 : r5 > 0
   ·obtain ⟨r6, a6, s6, e6, h6, h60, h61⟩ := next_ok hc h5 (B.length : Int) (by omega)
    refine ⟨(rd_T62 B r6).f0, fun k hk => ?_⟩
    unfold spec_DrawAddCue.f
    rw [e0 k (by omega), Option.bind_some]; dsimp only; rw [e1 k (by omega), Option.bind_some]; dsimp only; rw [hv, e2, Option.bind_some]; dsimp only; rw [e3, Option.bind_some]; dsimp only; rw [e4, Option.bind_some]; dsimp only; rw [if_pos g, e5, Option.bind_some]; dsimp only; rw [if_pos g2, e6, Option.bind_some]; dsimp only; rw [if_pos h60, if_pos (by omega)]
   ·refine ⟨(⟨#[112, 101, 111, 110, 121]⟩ : ByteArray), fun k hk => ?_⟩
    unfold spec_DrawAddCue.f
    rw [e0 k (by omega), Option.bind_some]; dsimp only; rw [e1 k (by omega), Option.bind_some]; dsimp only; rw [hv, e2, Option.bind_some]; dsimp only; rw [e3, Option.bind_some]; dsimp only; rw [e4, Option.bind_some]; dsimp only; rw [if_pos g, e5, Option.bind_some]; dsimp only; rw [if_neg g2]
  ·refine ⟨(⟨#[112, 101, 111, 110, 121]⟩ : ByteArray), fun k hk => ?_⟩
   unfold spec_DrawAddCue.f
   rw [e0 k (by omega), Option.bind_some]; dsimp only; rw [e1 k (by omega), Option.bind_some]; dsimp only; rw [hv, e2, Option.bind_some]; dsimp only; rw [e3, Option.bind_some]; dsimp only; rw [e4, Option.bind_some]; dsimp only; rw [if_neg g]
 obtain ⟨y, hy⟩ := go; exact ⟨A, B, C, r2, r3, y, r4, hy, hA, hB, hS, hC⟩
theorem drop_draw {c : List Int} (hc : Code c) : ∃ A B C i, (∀ k, 36893488147419104010 ≤ k → spec_DrawDropCue.f k c = some (A, B, C, i)) ∧ A.length ≤ 60 ∧ B.length ≤ 60 ∧ SmallArts B ∧ C.length ≤ 60 := by
 obtain ⟨z, e0, h0⟩ := from_ok hc; obtain ⟨A, B, C, a1, s1, e1, h1, hA, hB, hS, hC⟩ := show_draw hc h0; obtain ⟨v, hv, hv2⟩ : ∃ v, wrap64 ((C.length : Int) + 1) = v ∧ v ≤ 4611686018427387904 := ⟨_, rfl, by rw [w64 (by omega)]; omega⟩; obtain ⟨r2, a2, s2, e2, h2, _⟩ := next_ok hc h1 v hv2; obtain ⟨r3, a3, s3, e3, h3, _⟩ := next_ok hc h2 24 (by decide); refine ⟨A, B, C, wrap64 (r2 - (wrap64 (Int.tdiv r3 23))), fun k hk => ?_, hA, hB, hS, hC⟩
 unfold spec_DrawDropCue.f
 rw [e0 k (by omega), Option.bind_some]; dsimp only; rw [e1 k (by omega), Option.bind_some]; dsimp only; rw [hv, e2, Option.bind_some]; dsimp only; rw [e3, Option.bind_some]
theorem addR_len {A : List S104} {B : List S62} {C : List S39} (hA : A.length ≤ 60) (hB : B.length ≤ 60) (hC : C.length ≤ 60) (c : S39) : (addR A B C c).1.length ≤ 1000 ∧ (addR A B C c).2.1.length ≤ 1000 ∧ (addR A B C c).2.2.1.length ≤ 1000 := by
 unfold addR
 by_cases h : isShow A B C = true
 ·rw [if_pos h]
  by_cases c1 : (C.length : Int) = 20
  ·rw [if_pos c1]; exact ⟨by simp, by simp, by simp⟩
  ·rw [if_neg c1]
   by_cases d : isShow A B (C ++ [c]) = true
   ·rw [if_pos d]
    refine ⟨by show A.length ≤ _; omega, by show B.length ≤ _; omega, ?_⟩; show (C ++ [c]).length ≤ _; rw [List.length_append, List.length_singleton]; omega
   ·rw [if_neg d]; exact ⟨by simp, by simp, by simp⟩
 ·rw [if_neg h]; exact ⟨by simp, by simp, by simp⟩
theorem dropR_len {A : List S104} {B : List S62} {C : List S39} (hA : A.length ≤ 60) (hB : B.length ≤ 60) (hC : C.length ≤ 60) (i : Int) : (dropR A B C i).1.length ≤ 1000 ∧ (dropR A B C i).2.1.length ≤ 1000 ∧ (dropR A B C i).2.2.1.length ≤ 1000 := by
 unfold dropR
 by_cases h : isShow A B C = true
 ·rw [if_pos h]
  by_cases c : inB i 0 ((C.length : Int) - 1) = true
  ·rw [if_pos c]
   have := List.length_eraseIdx_le C i.toNat; refine ⟨by show A.length ≤ _; omega, by show B.length ≤ _; omega, by show (C.eraseIdx i.toNat).length ≤ _; omega⟩
  ·rw [if_neg c]; exact ⟨by simp, by simp, by simp⟩
 ·rw [if_neg h]; exact ⟨by simp, by simp, by simp⟩
theorem addR_zero {A : List S104} {B : List S62} {C : List S39} {c : S39} (h : (addR A B C c).2.2.2 = 0) : isShow A B (C ++ [c]) = true ∧ addR A B C c = (A, B, C ++ [c], 0) := by
 unfold addR at h ⊢
 by_cases h1 : isShow A B C = true
 ·rw [if_pos h1] at h ⊢
  by_cases h2 : (C.length : Int) = 20
  ·rw [if_pos h2] at h; exact absurd h (by decide)
  ·rw [if_neg h2] at h ⊢
   by_cases h3 : isShow A B (C ++ [c]) = true
   ·rw [if_pos h3]; exact ⟨h3, rfl⟩
   ·rw [if_neg h3] at h; exact absurd h (by decide)
 ·rw [if_neg h1] at h; exact absurd h (by decide)
theorem dropR_zero {A : List S104} {B : List S62} {C : List S39} {i : Int} (h : (dropR A B C i).2.2.2 = 0) : isShow A B C = true ∧ (0 ≤ i ∧ i ≤ (C.length : Int) - 1) ∧ dropR A B C i = (A, B, C.eraseIdx i.toNat, 0) := by
 unfold dropR at h ⊢
 by_cases h1 : isShow A B C = true
 ·rw [if_pos h1] at h ⊢
  by_cases h2 : inB i 0 ((C.length : Int) - 1) = true
  ·rw [if_pos h2]; exact ⟨h1, inB_true.1 h2, rfl⟩
  ·rw [if_neg h2] at h; exact absurd h (by decide)
 ·rw [if_neg h1] at h; exact absurd h (by decide)
theorem pure_FnCueChanges : laws_FnCueChanges.Pure := by
 intro c _ _ hb
 by_cases big : (c.length : Int) > 4096
 ·refine ⟨0, ?_⟩
  unfold laws_FnCueChanges.f laws_big.f
  simp only [Option.bind_some, decide_eq_true big, if_true]
 have hc : Code c := code_of big hb; obtain ⟨A, B, C, x0, x1, x2, x3, d1, hA, hB, hS, hC⟩ := add_draw hc; obtain ⟨A2, B2, C2, i, d2, hA2, hB2, hS2, hC2⟩ := drop_draw hc; have hF : Frame 100 A B C := ⟨by omega, by omega, by omega, by decide, hS⟩; have hF2 : Frame 100 A2 B2 C2 := ⟨by omega, by omega, by omega, by decide, hS2⟩; obtain ⟨K, hK⟩ : ∃ K : Nat, K = 36893488147419104010 + 1000000 := ⟨_, rfl⟩; refine ⟨K + 3, ?_⟩; have f1 := add_ok 100 hF ⟨by omega, by omega, by omega⟩ x0 x1 x2 x3 (K + 3) (by omega); have f2 := drop_ok 100 hF2 ⟨by omega, by omega, by omega⟩ i (K + 3) (by omega); have f3 := count_ok 100 hF (K + 3) (by omega); have l1 := addR_len hA hB hC ⟨x0, x1, x2, x3⟩; have l2 := dropR_len hA2 hB2 hC2 i; have l3 := countR_len (A := A) (B := B) (C := C) (by omega)
 unfold laws_FnCueChanges.f laws_big.f
 rw [Option.bind_some, decide_eq_false big, if_neg (by decide), d1 _ (by omega), Option.bind_some]; dsimp only; rw [f1.2, Option.bind_some, f1.1, Option.bind_some, d2 _ (by omega), Option.bind_some]; dsimp only; rw [f2.2, Option.bind_some, f2.1, Option.bind_some, f3.2, Option.bind_some, f3.1, Option.bind_some, if_pos rfl, show_s _ _ _ l1.1 l1.2.1 l1.2.2 (K + 3) (by omega), Option.bind_some, if_pos rfl, if_pos rfl, show_s _ _ _ l2.1 l2.2.1 l2.2.2 (K + 3) (by omega), Option.bind_some, if_pos rfl, if_pos rfl, like_ints_s _ (by omega) (K + 3) (by omega), Option.bind_some]; clear f1 f2 f3 d1 d2
 have j2 : laws_FnCueChanges.j2 (K + 1) (addR A B C ⟨x0, x1, x2, x3⟩).2.2.2 false A B C x0 x1 x2 x3 (addR A B C ⟨x0, x1, x2, x3⟩).1 (addR A B C ⟨x0, x1, x2, x3⟩).2.1 (addR A B C ⟨x0, x1, x2, x3⟩).2.2.1 (addR A B C ⟨x0, x1, x2, x3⟩).1 (addR A B C ⟨x0, x1, x2, x3⟩).2.1 (addR A B C ⟨x0, x1, x2, x3⟩).2.2.1 = some true := by
  simp only [laws_FnCueChanges.j2]; rw [if_neg (by decide)]
  by_cases g : (addR A B C ⟨x0, x1, x2, x3⟩).2.2.2 = 0
  ·obtain ⟨hs, e⟩ := addR_zero g
   have hl : (C ++ [(⟨x0, x1, x2, x3⟩ : S39)]).length = C.length + 1 := by rw [List.length_append, List.length_singleton]
   have hF3 : Frame 100 A B (C ++ [(⟨x0, x1, x2, x3⟩ : S39)]) := ⟨by omega, by omega, by omega, by decide, hS⟩; have f4 := (drop_ok 100 hF3 ⟨by omega, by omega, by omega⟩ (C.length : Int) K (by omega)).2
   have e4 : dropR A B (C ++ [(⟨x0, x1, x2, x3⟩ : S39)]) (C.length : Int) = (A, B, C, 0) := by
    unfold dropR
    rw [if_pos hs, if_pos (inB_true.2 (by omega)), Int.toNat_natCast, erase_last]
   rw [if_pos g, e]; dsimp only; rw [f4, e4, Option.bind_some]; dsimp only; rw [if_pos rfl, show_s A B C (by omega) (by omega) (by omega) K (by omega), Option.bind_some, if_pos rfl, si_ok hF3 K (by omega), hs, Option.bind_some, if_pos rfl, hl, w64 (by omega), show ((C.length + 1 : Nat) : Int) - 1 = (C.length : Int) by omega, if_pos (by omega), if_pos (by omega), rd_cue, cu_last]; simp only [beq_self_eq_true, Bool.and_self]
  ·rw [if_neg g]
 have j1 : laws_FnCueChanges.j1 (K + 2) (addR A B C ⟨x0, x1, x2, x3⟩).2.2.2 (countR A B C).1 (countR A B C).2 false A B C x0 x1 x2 x3 (addR A B C ⟨x0, x1, x2, x3⟩).1 (addR A B C ⟨x0, x1, x2, x3⟩).2.1 (addR A B C ⟨x0, x1, x2, x3⟩).2.2.1 (addR A B C ⟨x0, x1, x2, x3⟩).1 (addR A B C ⟨x0, x1, x2, x3⟩).2.1 (addR A B C ⟨x0, x1, x2, x3⟩).2.2.1 = some true := by
  simp only [laws_FnCueChanges.j1]; rw [if_neg (by decide)]
  by_cases g : (countR A B C).2 = 0
  ·have h : isShow A B C = true := by
    unfold countR at g
    by_cases h : isShow A B C = true
    ·exact h
    ·rw [if_neg h] at g; exact absurd g (by decide)
   rw [if_pos g, count_total h (K + 1) (by omega), Option.bind_some, show ((C.length : Int) != (C.length : Int)) = false by simp]; exact j2
  ·rw [if_neg g]
   exact j2
 simp only [laws_FnCueChanges.j0]; rw [show (!true) = false by rfl, if_neg (by decide)]
 by_cases g : (dropR A2 B2 C2 i).2.2.2 = 0
 ·obtain ⟨hs, hi, e⟩ := dropR_zero g
  have hF4 : Frame 100 A2 B2 (C2.eraseIdx i.toNat) := ⟨by omega, by omega, by have := List.length_eraseIdx_le C2 i.toNat; omega, by decide, hS2⟩; have hl : (C2.eraseIdx i.toNat).length = C2.length - 1 := List.length_eraseIdx_of_lt (by omega); rw [if_pos g, e]; dsimp only; rw [si_ok hF4 (K + 2) (by omega), isShow_erase hs, Option.bind_some, if_pos rfl, w64 (by omega), show (((C2.eraseIdx i.toNat).length : Int) != (C2.length : Int) - 1) = false by rw [hl, bne_eq_false_iff_eq]; omega]; exact j1
 ·rw [if_neg g]
  exact j1
end Go.Proofs.Ythhijbdekboahaa.F
namespace Go.Proofs.Ythhijbdekboahaa.Pure
theorem FnCueChanges : Go.Proofs.Ythhijbdekboahaa.F.laws_FnCueChanges.Pure := Go.Proofs.Ythhijbdekboahaa.F.pure_FnCueChanges
end Go.Proofs.Ythhijbdekboahaa.Pure
namespace Go.Proofs.Ythhijbdekboahaa.F
end Go.Proofs.Ythhijbdekboahaa.F
