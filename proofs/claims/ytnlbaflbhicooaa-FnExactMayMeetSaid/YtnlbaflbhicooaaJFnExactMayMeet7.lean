import Derived.Test.YtnlbaflbhicooaaJFnExactMayMeet6
import Derived.Below
import Derived.Deep.Draws
import Derived.Deep.AppendLies
import Derived.Maps.AppendAt
import Derived.OwnWalk
import Derived.Laws.BytesArg
import Derived.Laws.MakeOwn
import Derived.Laws.OwnMore
import Derived.Deep.OwnRows
import Derived.Tactics
import Derived.Lib.ConvBytes
import Derived.Laws.Slices
import Derived.WalkKit
import Derived.KernelRfl
import Derived.RowKit3
import Derived.Deep.LoopGhost
import Derived.Deep.QuietTactic
import Derived.BigQuiet
import Derived.WideLaws
import Derived.Deep.DeepCutAuto
import Derived.Deep.CutBlock
import Derived.Deep.RegionHeld3
import Derived.Laws.Rows
import Derived.Lib.AppendStr
import Derived.ArgAppend
import Derived.Laws.IdiomCopy
import Derived.RowKit
import Derived.OrdersHeld
import Derived.Laws.BitsLemmas
import Derived.Laws.StructEq
import Derived.Test.YtnlbaflbhicooaaProg
import Derived.ChangeSlices
import Derived.OpenShut
import Derived.Laws.Cover1
import Derived.Test.YtnlbaflbhicooaaRows
import Derived.Test.YtnlbaflbhicooaaGcFnExactMayMeet
import Derived.ProofKit
import Derived.ShutString
import Derived.ChangeOld
import Derived.SizedLaws
namespace Go.Proofs.Ytnlbaflbhicooaa.F
open Go.RowKit Go.Proofs.YtnlbaflbhicooaaW.PrintWords Go.Proofs.YtnlbaflbhicooaaW.PrintLast Go.Proofs.YtnlbaflbhicooaaW.PrintMore
set_option linter.unusedVariables false
set_option linter.unusedSimpArgs false
def hasBeat (xs : List S108) (bar beat : Int) : Bool := inB bar 0 ((xs.length : Int) - 1) && inB beat 0 (bt_at xs bar.toNat - 1)
theorem hasBeat_true {xs : List S108} {bar beat : Int} (h : hasBeat xs bar beat = true) : ∃ b : Nat, bar = b ∧ b < xs.length ∧ 0 ≤ beat ∧ beat ≤ bt_at xs b - 1 := by
 unfold hasBeat at h
 rw [Bool.and_eq_true, inB_true, inB_true] at h
 exact ⟨bar.toNat, by omega, by omega, h.2⟩
theorem spec_has {xs : List S108} (h : isScore xs = true) (bar beat : Int) : spec_l07Has.f xs bar beat = some (hasBeat xs bar beat) := by
 have hs := isScore_true h
 unfold spec_l07Has.f hasBeat
 rw [w64 (n := (xs.length : Int) - 1) (by omega), In_eq]
 simp only [Option.bind_some]
 cases g : inB bar 0 ((xs.length : Int) - 1) with
 | false => rfl
 | true =>
  rw [inB_true] at g
  obtain ⟨b, rfl⟩ : ∃ n : Nat, bar = n := ⟨bar.toNat, by omega⟩
  have hb := hs.2.2 b (by omega)
  rw [if_pos rfl, if_pos (by omega), if_pos (by omega), rd_bar]
  show ((spec_l01In.f beat 0 (wrap64 (bt_at xs b - 1))).bind fun t => some t) = _
  rw [w64 (by omega), In_eq]; rfl
theorem impl_has {xs : List S108} (h : isScore xs = true) (bar beat : Int) : impl_isBeat.f xs bar beat = some (hasBeat xs bar beat) := by
 have hs := isScore_true h
 unfold impl_isBeat.f hasBeat
 rw [index_eq, w64 (n := (xs.length : Int) - 1) (by omega)]
 simp only [Option.bind_some]
 cases g : inB bar 0 ((xs.length : Int) - 1) with
 | false => rfl
 | true =>
  rw [inB_true] at g
  obtain ⟨b, rfl⟩ : ∃ n : Nat, bar = n := ⟨bar.toNat, by omega⟩
  have hb := hs.2.2 b (by omega)
  rw [if_pos rfl, if_pos (by omega), if_pos (by omega), rd_bar]
  show ((impl_within.f beat 0 (wrap64 (bt_at xs b - 1))).bind fun t => some t) = _
  rw [w64 (by omega), Wi_eq]; rfl
end Go.Proofs.Ytnlbaflbhicooaa.F
namespace Go.Proofs.Ytnlbaflbhicooaa.F
open Go.RowKit Go.Proofs.YtnlbaflbhicooaaW.PrintWords Go.Proofs.YtnlbaflbhicooaaW.PrintLast Go.Proofs.YtnlbaflbhicooaaW.PrintMore
set_option linter.unusedVariables false
set_option linter.unusedSimpArgs false
def cu_at (C : List S43) (i : Nat) : S43 := C.getD i z43
theorem rd_cue (C : List S43) (i : Nat) : rd_T43 C (i : Int) = cu_at C i := by unfold rd_T43 cu_at; rw [Int.toNat_natCast]
def arOf (B : List S92) (c : S43) : S92 := ar_at B (find B c.f2).toNat
def ftime (A : List S108) (B : List S92) (c : S43) : Int := tm A c.f0.toNat + c.f1 * ln_at A c.f0.toNat - (arOf B c).f3
theorem areArts_true {xs : List S92} (h : areArts xs = true) : xs.length ≤ 12 ∧ ∀ i, i < xs.length → art (ar_at xs i) = true := by
 unfold areArts at h
 rw [Bool.and_eq_true, allF_true, decide_eq_true_iff] at h
 refine ⟨by omega, fun i hi => ?_⟩
 have := h.1 i (by omega) (by omega)
 unfold artAt at this
 rw [Bool.and_eq_true] at this
 exact this.1
theorem art_true {a : S92} (h : art a = true) : (0 ≤ a.f1 ∧ a.f1 ≤ 3) ∧ (20 ≤ a.f2 ∧ a.f2 ≤ 300) ∧ (0 ≤ a.f3 ∧ a.f3 ≤ 10000) ∧ (0 ≤ a.f4 ∧ a.f4 ≤ a.f3) ∧ (1 ≤ a.f5 ∧ a.f5 ≤ 50) ∧ (0 ≤ a.f6 ∧ a.f6 ≤ 10000) ∧ (1 ≤ a.f7 ∧ a.f7 ≤ 100000) ∧ 0 ≤ a.f8 ∧ a.f8 ≤ 3 := by
 unfold art at h
 simp only [Bool.and_eq_true, inB_true] at h
 exact h.2
theorem arOf_ok {B : List S92} (hB : areArts B = true) {c : S43} (hc : 0 ≤ find B c.f2) : art (arOf B c) = true ∧ find B c.f2 < (B.length : Int) := by
 rcases find_range B c.f2 with h | h
 ·omega
 ·exact ⟨(areArts_true hB).2 _ (by omega), h.2⟩
theorem time_range {A : List S108} (hA : isScore A = true) {b : Nat} (hb : b < A.length) {e : Int} (he : 0 ≤ e ∧ e ≤ bt_at A b - 1) : 0 ≤ tm A b + e * ln_at A b ∧ tm A b + e * ln_at A b ≤ 2000000 := by
 have hs := isScore_true hA
 have hl := hs.2.2 b hb
 have ht := tm_le hA b (by omega)
 have h1 : 0 ≤ e * ln_at A b := Int.mul_nonneg he.1 (by omega)
 have h2 : e * ln_at A b ≤ 16 * ln_at A b := Int.mul_le_mul_of_nonneg_right (by omega) (by omega)
 omega
theorem ftime_range {A : List S108} (hA : isScore A = true) {B : List S92} (hB : areArts B = true) {c : S43} (hc : 0 ≤ find B c.f2) (hb : hasBeat A c.f0 c.f1 = true) : -10000 ≤ ftime A B c ∧ ftime A B c ≤ 2000000 := by
 obtain ⟨b, e, h1, h2, h3⟩ := hasBeat_true hb
 have ha := art_true (arOf_ok hB hc).1
 have := time_range hA h1 ⟨h2, h3⟩
 unfold ftime
 rw [e, Int.toNat_natCast]
 omega
theorem spec_ftime {A : List S108} (hA : isScore A = true) {B : List S92} (hB : areArts B = true) (C : List S43) {c : S43} (hc : 0 ≤ find B c.f2) (hb : hasBeat A c.f0 c.f1 = true) (k : Nat) (hk : 100 ≤ k) : spec_l08Time.f k A B C c.f0 c.f1 c.f2 c.f3 = some (ftime A B c) := by
 obtain ⟨b, e, h1, h2, h3⟩ := hasBeat_true hb
 have hs := isScore_true hA
 have hl := hs.2.2 b h1
 have hf := arOf_ok hB hc
 have hr := time_range hA h1 ⟨h2, h3⟩
 have ha := art_true hf.1
 have hB12 := (areArts_true hB).1
 have ft : ftime A B c = tm A b + c.f1 * ln_at A b - (arOf B c).f3 := by unfold ftime; rw [e, Int.toNat_natCast]
 unfold spec_l08Time.f
 rw [e, spec_time hA b h1 c.f1 (by omega) k (by omega)]
 simp only [Option.bind_some]
 rw [spec_find B (by omega) c.f2 k (by omega)]
 simp only [Option.bind_some]
 rw [if_pos hc, if_pos hf.2, ft]
 have er : rd_T92 B (find B c.f2) = arOf B c := by
  have := rd_art B (find B c.f2).toNat
  rw [show ((find B c.f2).toNat : Int) = find B c.f2 by omega] at this
  exact this
 rw [er, w64 (by omega)]
theorem impl_ftime {A : List S108} (hA : isScore A = true) {B : List S92} (hB : areArts B = true) (C : List S43) (c : S43) (k : Nat) (hk : 100 ≤ k) : impl_firedAt.f k A B C c.f0 c.f1 c.f2 c.f3 = some (if 0 ≤ find B c.f2 ∧ hasBeat A c.f0 c.f1 = true then mx (-1) (ftime A B c) else -1) := by
 have hs := isScore_true hA
 have hB12 := (areArts_true hB).1
 unfold impl_firedAt.f
 rw [impl_find B (by omega) c.f2 k (by omega)]
 simp only [Option.bind_some]
 by_cases hc : 0 ≤ find B c.f2
 ·rw [if_neg (by omega), impl_has hA]
  simp only [Option.bind_some]
  by_cases hb : hasBeat A c.f0 c.f1 = true
  ·obtain ⟨b, e, h1, h2, h3⟩ := hasBeat_true hb
   have hl := hs.2.2 b h1
   have hf := arOf_ok hB hc
   have hr := time_range hA h1 ⟨h2, h3⟩
   have ha := art_true hf.1
   have ft : ftime A B c = tm A b + c.f1 * ln_at A b - (arOf B c).f3 := by unfold ftime; rw [e, Int.toNat_natCast]
   have er : rd_T92 B (find B c.f2) = arOf B c := by
    have := rd_art B (find B c.f2).toNat
    rw [show ((find B c.f2).toNat : Int) = find B c.f2 by omega] at this
    exact this
   rw [if_pos hb, if_pos (show 0 ≤ find B c.f2 ∧ hasBeat A c.f0 c.f1 = true from ⟨hc, hb⟩), e, impl_time hA b c.f1 (.inl h1) (by omega) k (by omega)]
   simp only [Option.bind_some]
   rw [if_pos hc, if_pos hf.2, er, ft, w64 (by omega)]
  ·rw [if_neg hb, if_neg (show ¬ (0 ≤ find B c.f2 ∧ hasBeat A c.f0 c.f1 = true) from fun x => hb x.2)]
 ·rw [if_pos (by omega), if_neg (show ¬ (0 ≤ find B c.f2 ∧ hasBeat A c.f0 c.f1 = true) from fun x => hc x.1)]
def cueOk (A : List S108) (B : List S92) (c : S43) : Bool := hasBeat A c.f0 c.f1 && (decide (0 ≤ find B c.f2) && (inB c.f3 0 11 && decide (0 ≤ ftime A B c)))
def isShow (A : List S108) (B : List S92) (C : List S43) : Bool := isScore A && (areArts B && (decide ((C.length : Int) ≤ 20) && allF (fun i => cueOk A B (cu_at C i)) 0 C.length))
theorem cueOk_true {A : List S108} {B : List S92} {c : S43} (h : cueOk A B c = true) : hasBeat A c.f0 c.f1 = true ∧ 0 ≤ find B c.f2 ∧ (0 ≤ c.f3 ∧ c.f3 ≤ 11) ∧ 0 ≤ ftime A B c := by
 unfold cueOk at h
 simpa only [Bool.and_eq_true, inB_true, decide_eq_true_iff] using h
theorem isShow_true {A : List S108} {B : List S92} {C : List S43} (h : isShow A B C = true) : isScore A = true ∧ areArts B = true ∧ C.length ≤ 20 ∧ ∀ i, i < C.length → cueOk A B (cu_at C i) = true := by
 unfold isShow at h
 rw [Bool.and_eq_true, Bool.and_eq_true, Bool.and_eq_true, allF_true, decide_eq_true_iff] at h
 exact ⟨h.1, h.2.1, by omega, fun i hi => h.2.2.2 i (by omega) (by omega)⟩
theorem spec_show (n : Nat) (A : List S108) (B : List S92) (C : List S43) (hA : A.length ≤ 1000000) (hB : B.length ≤ 1000000) (hC : C.length ≤ 1000000) (hS : Small n B) (k : Nat) (hk : A.length + B.length + C.length + n + 200 ≤ k) : spec_IsShow.f k A B C = some (isShow A B C) := by
 obtain ⟨k, rfl⟩ : ∃ m, k = m + 1 := ⟨k - 1, by omega⟩
 unfold spec_IsShow.f isShow
 rw [spec_score A (by omega) (k + 1) (by omega)]
 simp only [Option.bind_some]
 cases a : isScore A with
 | false => rfl
 | true =>
  rw [if_pos rfl, spec_arts n B (by omega) hS (k + 1) (by omega)]
  simp only [Option.bind_some]
  cases b : areArts B with
  | false => rfl
  | true =>
   rw [if_pos rfl]
   by_cases c : (C.length : Int) > 20
   ·rw [decide_eq_true c, decide_eq_false (by omega)]; rfl
   ·rw [decide_eq_false c, decide_eq_true (by omega)]
    simp only [spec_IsShow.j0, Bool.false_eq_true, if_false, Bool.true_and]
    have hB12 := (areArts_true b).1
    have loop : ∀ d k i, C.length - i = d → i ≤ C.length → d + 110 ≤ k → spec_IsShow.l0 k (i : Int) A B C = some (allF (fun i => cueOk A B (cu_at C i)) i d) := by
     intro d
     induction d with
     | zero =>
      intro k i hd hi hk
      obtain ⟨k, rfl⟩ : ∃ m, k = m + 1 := ⟨k - 1, by omega⟩
      simp only [spec_IsShow.l0]
      rw [if_neg (by omega)]
      rfl
     | succ d ih =>
      intro k i hd hi hk
      obtain ⟨k, rfl⟩ : ∃ m, k = m + 1 := ⟨k - 1, by omega⟩
      have nx := ih k (i + 1) (by omega) (by omega) (by omega)
      simp only [spec_IsShow.l0]
      rw [if_pos (by omega), if_pos (by omega), rd_cue, spec_has a, spec_find B (by omega) _ k (by omega), In_eq, w64 (n := (i : Int) + 1) (by omega)]
      simp only [Option.bind_some]
      unfold allF cueOk
      cases hb : hasBeat A (cu_at C i).f0 (cu_at C i).f1 with
      | false => rfl
      | true =>
       rw [if_pos rfl, Bool.true_and]
       by_cases hf : 0 ≤ find B (cu_at C i).f2
       ·rw [if_neg (by omega), decide_eq_true hf, Bool.true_and]
        cases hr : inB (cu_at C i).f3 0 11 with
        | false => rfl
        | true =>
         rw [if_pos rfl, Bool.true_and, spec_ftime a b C hf hb k (by omega)]
         simp only [Option.bind_some]
         by_cases ht : ftime A B (cu_at C i) < 0
         ·rw [if_pos ht, decide_eq_false (by omega)]; rfl
         ·rw [if_neg ht, decide_eq_true (by omega), Bool.true_and]
          exact nx
       ·rw [if_pos (by omega), decide_eq_false hf]; rfl
    exact loop C.length k 0 (by omega) (by omega) (by omega)
theorem impl_show (n : Nat) (A : List S108) (B : List S92) (C : List S43) (hA : A.length ≤ 1000000) (hB : B.length ≤ 1000000) (hC : C.length ≤ 1000000) (hS : Small n B) (k : Nat) (hk : A.length + B.length + C.length + n + 200 ≤ k) : impl_IsShow.f k A B C = some (isShow A B C) := by
 obtain ⟨k, rfl⟩ : ∃ m, k = m + 1 := ⟨k - 1, by omega⟩
 unfold impl_IsShow.f isShow
 rw [impl_score A (by omega) (k + 1) (by omega)]
 simp only [Option.bind_some]
 cases a : isScore A with
 | false => rfl
 | true =>
  rw [if_pos rfl, impl_arts n B (by omega) hS (k + 1) (by omega)]
  simp only [Option.bind_some]
  cases b : areArts B with
  | false => rfl
  | true =>
   rw [if_pos rfl]
   by_cases c : (C.length : Int) > 20
   ·rw [decide_eq_true c, decide_eq_false (by omega)]; rfl
   ·rw [decide_eq_false c, decide_eq_true (by omega)]
    simp only [impl_IsShow.j0, Bool.false_eq_true, if_false, Bool.true_and]
    have hB12 := (areArts_true b).1
    have loop : ∀ d k i, C.length - i = d → i ≤ C.length → d + 110 ≤ k → impl_IsShow.l0 k C (C.length : Int) (i : Int) A B C = some (allF (fun i => cueOk A B (cu_at C i)) i d) := by
     intro d
     induction d with
     | zero =>
      intro k i hd hi hk
      obtain ⟨k, rfl⟩ : ∃ m, k = m + 1 := ⟨k - 1, by omega⟩
      simp only [impl_IsShow.l0]
      rw [if_neg (by omega)]
      rfl
     | succ d ih =>
      intro k i hd hi hk
      obtain ⟨k, rfl⟩ : ∃ m, k = m + 1 := ⟨k - 1, by omega⟩
      have nx := ih k (i + 1) (by omega) (by omega) (by omega)
      simp only [impl_IsShow.l0]
      rw [if_pos (by omega), if_pos (by omega), if_pos (by omega), rd_cue, Wi_eq, impl_ftime a b C _ k (by omega), w64 (n := (i : Int) + 1) (by omega)]
      simp only [Option.bind_some]
      unfold allF cueOk
      cases hr : inB (cu_at C i).f3 0 11 with
      | false =>
       rw [if_neg (by decide)]
       simp
      | true =>
       rw [if_pos rfl]
       cases hb : hasBeat A (cu_at C i).f0 (cu_at C i).f1 with
       | false =>
        rw [if_neg (show ¬ (0 ≤ find B (cu_at C i).f2 ∧ false = true) from fun x => absurd x.2 (by decide)), if_pos (by omega)]; rfl
       | true =>
        by_cases hf : 0 ≤ find B (cu_at C i).f2
        ·rw [if_pos (show 0 ≤ find B (cu_at C i).f2 ∧ true = true from ⟨hf, rfl⟩), decide_eq_true hf]
         by_cases ht : ftime A B (cu_at C i) < 0
         ·rw [if_pos (by unfold mx; split <;> omega), decide_eq_false (by omega)]; rfl
         ·rw [if_neg (by unfold mx; split <;> omega), decide_eq_true (by omega)]
          exact nx
        ·rw [if_neg (show ¬ (0 ≤ find B (cu_at C i).f2 ∧ true = true) from fun x => hf x.1), if_pos (by omega), decide_eq_false hf]; rfl
    exact loop C.length k 0 (by omega) (by omega) (by omega)
end Go.Proofs.Ytnlbaflbhicooaa.F
namespace Go.Proofs.Ytnlbaflbhicooaa.F
open Go.RowKit Go.Proofs.YtnlbaflbhicooaaW.PrintWords Go.Proofs.YtnlbaflbhicooaaW.PrintLast Go.Proofs.YtnlbaflbhicooaaW.PrintMore
attribute [local go_sem] max2_int min2_int max_two min_two max_three min_three max_four min_four   -- for this text's walks alone
set_option linter.unusedVariables false
set_option linter.unusedSimpArgs false
end Go.Proofs.Ytnlbaflbhicooaa.F
namespace Go.Proofs.Ytnlbaflbhicooaa.F
open Go.RowKit Go.Proofs.YtnlbaflbhicooaaW.PrintWords Go.Proofs.YtnlbaflbhicooaaW.PrintLast Go.Proofs.YtnlbaflbhicooaaW.PrintMore
attribute [local go_sem] max2_int min2_int max_two min_two max_three min_three max_four min_four   -- for this text's walks alone
set_option linter.unusedVariables false
set_option linter.unusedSimpArgs false
end Go.Proofs.Ytnlbaflbhicooaa.F
namespace Go.Proofs.Ytnlbaflbhicooaa.F
open Go.RowKit Go.Proofs.YtnlbaflbhicooaaW.PrintWords Go.Proofs.YtnlbaflbhicooaaW.PrintLast Go.Proofs.YtnlbaflbhicooaaW.PrintMore
set_option linter.unusedVariables false
set_option linter.unusedSimpArgs false
end Go.Proofs.Ytnlbaflbhicooaa.F
namespace Go.Proofs.Ytnlbaflbhicooaa.F
open Go.RowKit Go.Proofs.YtnlbaflbhicooaaW.PrintWords Go.Proofs.YtnlbaflbhicooaaW.PrintLast Go.Proofs.YtnlbaflbhicooaaW.PrintMore
set_option linter.unusedVariables false
set_option linter.unusedSimpArgs false
def anyF (p : Nat → Bool) : Nat → Nat → Bool
 | _, 0 => false
 | i, d + 1 => p i || anyF p (i + 1) d
theorem anyF_succ (p : Nat → Bool) (i d : Nat) : anyF p i (d + 1) = (p i || anyF p (i + 1) d) := rfl
theorem any_loop {β : Type} {f : Nat → Nat → Option β} {p : Nat → Bool} {y : Option β} {e : Nat → Option β} (n K : Nat) (hs : ∀ k i, K ≤ k → i < n → f (k + 1) i = if p i = true then y else f k (i + 1)) (he : ∀ k, f (k + 1) n = e k) :
  ∀ d k i, n - i = d → i ≤ n → K ≤ k → f (k + d + 1) i = if anyF p i d = true then y else e k := by
 intro d
 induction d with
 | zero =>
  intro k i hd hi hk
  have e0 : i = n := by omega
  subst e0
  rw [show k + 0 + 1 = k + 1 by omega, he]
  unfold anyF
  rw [if_neg (by decide)]
 | succ d ih =>
  intro k i hd hi hk
  rw [show k + (d + 1) + 1 = (k + d + 1) + 1 by omega, hs (k + d + 1) i (by omega) (by omega)]
  unfold anyF
  by_cases c : p i = true
  ·rw [if_pos c, c, Bool.true_or, if_pos rfl]
  ·rw [if_neg c, ih k (i + 1) (by omega) (by omega) hk, Bool.eq_false_iff.mpr c, Bool.false_or]
def Frame (n0 : Nat) (A : List S108) (B : List S92) (C : List S43) : Prop := A.length ≤ 1000000 ∧ B.length ≤ 1000000 ∧ C.length ≤ 1000000 ∧ Small n0 B
theorem ss_ok {n0 : Nat} {A : List S108} {B : List S92} {C : List S43} (h : Frame n0 A B C) (k : Nat) (hk : 4000200 ≤ k) : spec_IsShow.f k A B C = some (isShow A B C) := spec_show n0 A B C h.1 h.2.1 h.2.2.1 h.2.2.2 k (by have := h.1; have := h.2.1; have := h.2.2.1; have := h.2.2.2.1; omega)
theorem si_ok {n0 : Nat} {A : List S108} {B : List S92} {C : List S43} (h : Frame n0 A B C) (k : Nat) (hk : 4000200 ≤ k) : impl_IsShow.f k A B C = some (isShow A B C) := impl_show n0 A B C h.1 h.2.1 h.2.2.1 h.2.2.2 k (by have := h.1; have := h.2.1; have := h.2.2.1; have := h.2.2.2.1; omega)
theorem cu_ok {A : List S108} {B : List S92} {C : List S43} (h : isShow A B C = true) {i : Nat} (hi : i < C.length) : hasBeat A (cu_at C i).f0 (cu_at C i).f1 = true ∧ 0 ≤ find B (cu_at C i).f2 ∧ find B (cu_at C i).f2 < (B.length : Int) ∧ 0 ≤ ftime A B (cu_at C i) ∧ ftime A B (cu_at C i) ≤ 2000000 ∧ art (arOf B (cu_at C i)) = true := by
 obtain ⟨hA, hB, hC, hc⟩ := isShow_true h
 obtain ⟨h1, h2, h3, h4⟩ := cueOk_true (hc i hi)
 have := ftime_range hA hB h2 h1
 have := arOf_ok hB h2
 exact ⟨h1, h2, this.2, h4, by omega, this.1⟩
theorem rd_arOf (B : List S92) (c : S43) (h : 0 ≤ find B c.f2) : rd_T92 B (find B c.f2) = arOf B c := by
 have := rd_art B (find B c.f2).toNat
 rw [show ((find B c.f2).toNat : Int) = find B c.f2 by omega] at this
 exact this
theorem cue_time {A : List S108} {B : List S92} {C : List S43} (h : isShow A B C = true) {i : Nat} (hi : i < C.length) (k : Nat) (hk : 100 ≤ k) : spec_l08Time.f k A B C (cu_at C i).f0 (cu_at C i).f1 (cu_at C i).f2 (cu_at C i).f3 = some (ftime A B (cu_at C i)) ∧ impl_firedAt.f k A B C (cu_at C i).f0 (cu_at C i).f1 (cu_at C i).f2 (cu_at C i).f3 = some (ftime A B (cu_at C i)) := by
 obtain ⟨hA, hB, hC, hc⟩ := isShow_true h
 obtain ⟨h1, h2, h3, h4⟩ := cueOk_true (hc i hi)
 refine ⟨spec_ftime hA hB C h2 h1 k hk, ?_⟩
 rw [impl_ftime hA hB C _ k hk, if_pos (show 0 ≤ find B (cu_at C i).f2 ∧ hasBeat A (cu_at C i).f0 (cu_at C i).f1 = true from ⟨h2, h1⟩)]
 unfold mx
 rw [if_pos (by omega)]
end Go.Proofs.Ytnlbaflbhicooaa.F
namespace Go.Proofs.Ytnlbaflbhicooaa.F
open Go.RowKit Go.Proofs.YtnlbaflbhicooaaW.PrintWords Go.Proofs.YtnlbaflbhicooaaW.PrintLast Go.Proofs.YtnlbaflbhicooaaW.PrintMore
attribute [local go_sem] max2_int min2_int max_two min_two max_three min_three max_four min_four   -- for this text's walks alone
set_option linter.unusedVariables false
set_option linter.unusedSimpArgs false
end Go.Proofs.Ytnlbaflbhicooaa.F
namespace Go.Proofs.Ytnlbaflbhicooaa.F
open Go.RowKit Go.Proofs.YtnlbaflbhicooaaW.PrintWords Go.Proofs.YtnlbaflbhicooaaW.PrintLast Go.Proofs.YtnlbaflbhicooaaW.PrintMore
attribute [local go_sem] max2_int min2_int max_two min_two max_three min_three max_four min_four   -- for this text's walks alone
set_option linter.unusedVariables false
set_option linter.unusedSimpArgs false
end Go.Proofs.Ytnlbaflbhicooaa.F
namespace Go.Proofs.Ytnlbaflbhicooaa.F
open Go.RowKit Go.Proofs.YtnlbaflbhicooaaW.PrintWords Go.Proofs.YtnlbaflbhicooaaW.PrintLast Go.Proofs.YtnlbaflbhicooaaW.PrintMore
set_option linter.unusedVariables false
set_option linter.unusedSimpArgs false
theorem artFor_ok {A : List S108} {B : List S92} {C : List S43} (h : isShow A B C = true) {i : Nat} (hi : i < C.length) (k : Nat) (hk : 100 ≤ k) : impl_articleFor.f k A B C (cu_at C i).f0 (cu_at C i).f1 (cu_at C i).f2 (cu_at C i).f3 = some ((arOf B (cu_at C i)).f0, (arOf B (cu_at C i)).f1, (arOf B (cu_at C i)).f2, (arOf B (cu_at C i)).f3, (arOf B (cu_at C i)).f4, (arOf B (cu_at C i)).f5, (arOf B (cu_at C i)).f6, (arOf B (cu_at C i)).f7, (arOf B (cu_at C i)).f8) := by
 obtain ⟨h1, h2, h3, _⟩ := cu_ok h hi
 have hB := (areArts_true (isShow_true h).2.1).1
 unfold impl_articleFor.f
 rw [impl_find B (by omega) _ k (by omega)]
 simp only [Option.bind_some]
 rw [if_pos h2, if_pos h3, rd_arOf B _ h2]
end Go.Proofs.Ytnlbaflbhicooaa.F
namespace Go.Proofs.Ytnlbaflbhicooaa.F
open Go.RowKit Go.Proofs.YtnlbaflbhicooaaW.PrintWords Go.Proofs.YtnlbaflbhicooaaW.PrintLast Go.Proofs.YtnlbaflbhicooaaW.PrintMore
attribute [local go_sem] max2_int min2_int max_two min_two max_three min_three max_four min_four   -- for this text's walks alone
set_option linter.unusedVariables false
set_option linter.unusedSimpArgs false
end Go.Proofs.Ytnlbaflbhicooaa.F
namespace Go.Proofs.Ytnlbaflbhicooaa.F
open Go.RowKit Go.Proofs.YtnlbaflbhicooaaW.PrintWords Go.Proofs.YtnlbaflbhicooaaW.PrintLast Go.Proofs.YtnlbaflbhicooaaW.PrintMore
attribute [local go_sem] max2_int min2_int max_two min_two max_three min_three max_four min_four   -- for this text's walks alone
set_option linter.unusedVariables false
set_option linter.unusedSimpArgs false
end Go.Proofs.Ytnlbaflbhicooaa.F
namespace Go.Proofs.Ytnlbaflbhicooaa.F
open Go.RowKit Go.Proofs.YtnlbaflbhicooaaW.PrintWords Go.Proofs.YtnlbaflbhicooaaW.PrintLast Go.Proofs.YtnlbaflbhicooaaW.PrintMore
attribute [local go_sem] max2_int min2_int max_two min_two max_three min_three max_four min_four   -- for this text's walks alone
set_option linter.unusedVariables false
set_option linter.unusedSimpArgs false
end Go.Proofs.Ytnlbaflbhicooaa.F
namespace Go.Proofs.Ytnlbaflbhicooaa.F
open Go.RowKit Go.Proofs.YtnlbaflbhicooaaW.PrintWords Go.Proofs.YtnlbaflbhicooaaW.PrintLast Go.Proofs.YtnlbaflbhicooaaW.PrintMore
set_option linter.unusedVariables false
set_option linter.unusedSimpArgs false
theorem shot_range {a : S92} (h : art a = true) {j : Int} (h0 : 0 ≤ j) (h1 : j < a.f5) : 0 ≤ j * a.f6 ∧ j * a.f6 ≤ 490000 := by
 have ha := art_true h
 have h2 : 0 ≤ j * a.f6 := Int.mul_nonneg h0 (by omega)
 have h3 : j * a.f6 ≤ 49 * a.f6 := Int.mul_le_mul_of_nonneg_right (by omega) (by omega)
 omega
end Go.Proofs.Ytnlbaflbhicooaa.F
namespace Go.Proofs.Ytnlbaflbhicooaa.F
open Go.RowKit Go.Proofs.YtnlbaflbhicooaaW.PrintWords Go.Proofs.YtnlbaflbhicooaaW.PrintLast Go.Proofs.YtnlbaflbhicooaaW.PrintMore
set_option linter.unusedVariables false
set_option linter.unusedSimpArgs false
def wlo (A : List S108) (B : List S92) (c : S43) (j : Nat) : Int := ftime A B c + (arOf B c).f3 + (j : Int) * (arOf B c).f6 - (arOf B c).f4
def whi (A : List S108) (B : List S92) (c : S43) (j : Nat) : Int := ftime A B c + (arOf B c).f3 + (j : Int) * (arOf B c).f6 + (arOf B c).f4
def wn (B : List S92) (c : S43) : Nat := (arOf B c).f5.toNat
def cueW2 (A : List S108) (B : List S92) (c : S43) : List (List Int) := (List.range (wn B c)).map (fun j => [wlo A B c j, whi A B c j])
def cueW3 (A : List S108) (B : List S92) (c : S43) (x : Int) : List (List Int) := (List.range (wn B c)).map (fun j => [wlo A B c j, whi A B c j, x])
theorem cueW2_len (A : List S108) (B : List S92) (c : S43) : (cueW2 A B c).length = wn B c := by unfold cueW2; rw [List.length_map, List.length_range]
theorem cueW3_len (A : List S108) (B : List S92) (c : S43) (x : Int) : (cueW3 A B c x).length = wn B c := by unfold cueW3; rw [List.length_map, List.length_range]
theorem rdL_map (f : Nat → List Int) (n j : Nat) (h : j < n) : rd_L9 ((List.range n).map f) (j : Int) = f j := by
 unfold rd_L9
 rw [Int.toNat_natCast, List.getD_eq_getElem?_getD, List.getElem?_map, List.getElem?_range h]; rfl
theorem rdL_cue2 (A : List S108) (B : List S92) (c : S43) {j : Nat} (h : j < wn B c) : rd_L9 (cueW2 A B c) (j : Int) = [wlo A B c j, whi A B c j] := rdL_map _ _ _ h
theorem rdL_cue3 (A : List S108) (B : List S92) (c : S43) (x : Int) {j : Nat} (h : j < wn B c) : rd_L9 (cueW3 A B c x) (j : Int) = [wlo A B c j, whi A B c j, x] := rdL_map _ _ _ h
theorem rd_0 (a : Int) (l : List Int) : rd (a :: l) 0 = a := rfl
theorem rd_1 (a b : Int) (l : List Int) : rd (a :: b :: l) 1 = b := rfl
theorem wn_range {A : List S108} {B : List S92} {C : List S43} (h : isShow A B C = true) {i : Nat} (hi : i < C.length) : 1 ≤ wn B (cu_at C i) ∧ wn B (cu_at C i) ≤ 50 ∧ ((wn B (cu_at C i) : Nat) : Int) = (arOf B (cu_at C i)).f5 := by
 obtain ⟨h1, h2, h3, h4, h5, h6⟩ := cu_ok h hi
 have ha := art_true h6
 unfold wn
 omega
theorem w_range {A : List S108} {B : List S92} {C : List S43} (h : isShow A B C = true) {i : Nat} (hi : i < C.length) {j : Nat} (hj : j < wn B (cu_at C i)) : 0 ≤ wlo A B (cu_at C i) j ∧ wlo A B (cu_at C i) j ≤ whi A B (cu_at C i) j ∧ whi A B (cu_at C i) j ≤ 3000000 ∧ 0 ≤ (j : Int) * (arOf B (cu_at C i)).f6 ∧ (j : Int) * (arOf B (cu_at C i)).f6 ≤ 490000 := by
 obtain ⟨h1, h2, h3, h4, h5, h6⟩ := cu_ok h hi
 have ha := art_true h6
 have hn := wn_range h hi
 have hs := shot_range h6 (j := (j : Int)) (by omega) (by omega)
 unfold wlo whi
 omega
theorem spec_cue {A : List S108} {B : List S92} {C : List S43} (h : isShow A B C = true) {i : Nat} (hi : i < C.length) (k : Nat) (hk : 300 ≤ k) : spec_l09Cue.f k A B C (i : Int) = some (cueW3 A B (cu_at C i) (i : Int)) := by
 obtain ⟨h1, h2, h3, h4, h5, h6⟩ := cu_ok h hi
 have hn := wn_range h hi
 have ha := art_true h6
 have hB := (areArts_true (isShow_true h).2.1).1
 have hC := (isShow_true h).2.2.1
 unfold spec_l09Cue.f
 rw [if_pos (by omega), if_pos (by omega), rd_cue, spec_find B (by omega) _ k (by omega)]
 simp only [Option.bind_some]
 rw [if_pos h2, if_pos h3, rd_arOf B _ h2]
 have st : ∀ d k j, wn B (cu_at C i) - j = d → j ≤ wn B (cu_at C i) → d + 110 ≤ k → spec_l09Cue.l0 k (i : Int) ((List.range j).map (fun j => [wlo A B (cu_at C i) j, whi A B (cu_at C i) j, (i : Int)])) (j : Int) A B C (cu_at C i).f0 (cu_at C i).f1 (cu_at C i).f2 (cu_at C i).f3 (arOf B (cu_at C i)).f0 (arOf B (cu_at C i)).f1 (arOf B (cu_at C i)).f2 (arOf B (cu_at C i)).f3 (arOf B (cu_at C i)).f4 (arOf B (cu_at C i)).f5 (arOf B (cu_at C i)).f6 (arOf B (cu_at C i)).f7 (arOf B (cu_at C i)).f8 = some (cueW3 A B (cu_at C i) (i : Int)) := by
  intro d
  induction d with
  | zero =>
   intro k j hd hj hk
   obtain ⟨k, rfl⟩ : ∃ m, k = m + 1 := ⟨k - 1, by omega⟩
   simp only [spec_l09Cue.l0]
   rw [if_neg (by omega)]
   have e : j = wn B (cu_at C i) := by omega
   subst e
   rfl
  | succ d ih =>
   intro k j hd hj hk
   obtain ⟨k, rfl⟩ : ∃ m, k = m + 1 := ⟨k - 1, by omega⟩
   have r := w_range h hi (show j < wn B (cu_at C i) by omega)
   have nx := ih k (j + 1) (by omega) (by omega) (by omega)
   rw [List.range_succ, List.map_append, List.map_singleton] at nx
   simp only [spec_l09Cue.l0]
   rw [if_pos (by omega), (cue_time h hi k (by omega)).1, w64 (n := (j : Int) + 1) (by omega)]
   simp only [Option.bind_some, spec_l03Window.f]
   have el : wlo A B (cu_at C i) j = ftime A B (cu_at C i) + (arOf B (cu_at C i)).f3 + (j : Int) * (arOf B (cu_at C i)).f6 - (arOf B (cu_at C i)).f4 := rfl
   have eh : whi A B (cu_at C i) j = ftime A B (cu_at C i) + (arOf B (cu_at C i)).f3 + (j : Int) * (arOf B (cu_at C i)).f6 + (arOf B (cu_at C i)).f4 := rfl
   rw [w64 (n := ftime A B (cu_at C i) + (arOf B (cu_at C i)).f3) (by omega), w64 (n := (j : Int) * (arOf B (cu_at C i)).f6) (by omega), w64 (n := ftime A B (cu_at C i) + (arOf B (cu_at C i)).f3 + (j : Int) * (arOf B (cu_at C i)).f6) (by omega), ← el, ← eh, w64 (n := wlo A B (cu_at C i) j) (by omega), w64 (n := whi A B (cu_at C i) j) (by omega), rd_0, rd_1]
   rw [if_pos (by show (0 : Int) < ((2 : Nat) : Int); decide), if_pos (by show (1 : Int) < ((2 : Nat) : Int); decide), if_pos (by rw [List.length_map, List.length_range]; omega)]
   exact nx
 exact st (wn B (cu_at C i)) k 0 (by omega) (by omega) (by omega)
theorem impl_cue {A : List S108} {B : List S92} {C : List S43} (h : isShow A B C = true) {i : Nat} (hi : i < C.length) (k : Nat) (hk : 300 ≤ k) : impl_windowsOfCue.f k A B C (cu_at C i).f0 (cu_at C i).f1 (cu_at C i).f2 (cu_at C i).f3 = some (cueW2 A B (cu_at C i)) := by
 obtain ⟨h1, h2, h3, h4, h5, h6⟩ := cu_ok h hi
 have hn := wn_range h hi
 have ha := art_true h6
 unfold impl_windowsOfCue.f impl_shotWindows.f
 rw [artFor_ok h hi k (by omega)]
 simp only [Option.bind_some]
 rw [(cue_time h hi k (by omega)).2]
 simp only [Option.bind_some]
 have st : ∀ d k j, wn B (cu_at C i) - j = d → j ≤ wn B (cu_at C i) → d + 110 ≤ k → impl_shotWindows.l0 k (ftime A B (cu_at C i)) ((List.range j).map (fun j => [wlo A B (cu_at C i) j, whi A B (cu_at C i) j])) (j : Int) (arOf B (cu_at C i)).f0 (arOf B (cu_at C i)).f1 (arOf B (cu_at C i)).f2 (arOf B (cu_at C i)).f3 (arOf B (cu_at C i)).f4 (arOf B (cu_at C i)).f5 (arOf B (cu_at C i)).f6 (arOf B (cu_at C i)).f7 (arOf B (cu_at C i)).f8 = some (cueW2 A B (cu_at C i)) := by
  intro d
  induction d with
  | zero =>
   intro k j hd hj hk
   obtain ⟨k, rfl⟩ : ∃ m, k = m + 1 := ⟨k - 1, by omega⟩
   simp only [impl_shotWindows.l0]
   rw [if_neg (by omega)]
   have e : j = wn B (cu_at C i) := by omega
   subst e
   rfl
  | succ d ih =>
   intro k j hd hj hk
   obtain ⟨k, rfl⟩ : ∃ m, k = m + 1 := ⟨k - 1, by omega⟩
   have r := w_range h hi (show j < wn B (cu_at C i) by omega)
   have nx := ih k (j + 1) (by omega) (by omega) (by omega)
   rw [List.range_succ, List.map_append, List.map_singleton] at nx
   simp only [impl_shotWindows.l0]
   have el : wlo A B (cu_at C i) j = ftime A B (cu_at C i) + (arOf B (cu_at C i)).f3 + (j : Int) * (arOf B (cu_at C i)).f6 - (arOf B (cu_at C i)).f4 := rfl
   have eh : whi A B (cu_at C i) j = ftime A B (cu_at C i) + (arOf B (cu_at C i)).f3 + (j : Int) * (arOf B (cu_at C i)).f6 + (arOf B (cu_at C i)).f4 := rfl
   rw [if_pos (by omega), if_pos (by rw [List.length_map, List.length_range]; omega), w64 (n := (j : Int) + 1) (by omega), w64 (n := ftime A B (cu_at C i) + (arOf B (cu_at C i)).f3) (by omega), w64 (n := (j : Int) * (arOf B (cu_at C i)).f6) (by omega), w64 (n := ftime A B (cu_at C i) + (arOf B (cu_at C i)).f3 + (j : Int) * (arOf B (cu_at C i)).f6) (by omega), ← el, ← eh, w64 (n := wlo A B (cu_at C i) j) (by omega), w64 (n := whi A B (cu_at C i) j) (by omega)]
   exact nx
 rw [show impl_shotWindows.l0 k (ftime A B (cu_at C i)) ([] : List (List Int)) 0 (arOf B (cu_at C i)).f0 (arOf B (cu_at C i)).f1 (arOf B (cu_at C i)).f2 (arOf B (cu_at C i)).f3 (arOf B (cu_at C i)).f4 (arOf B (cu_at C i)).f5 (arOf B (cu_at C i)).f6 (arOf B (cu_at C i)).f7 (arOf B (cu_at C i)).f8 = some (cueW2 A B (cu_at C i)) from st (wn B (cu_at C i)) k 0 (by omega) (by omega) (by omega)]
 rfl
end Go.Proofs.Ytnlbaflbhicooaa.F
namespace Go.Proofs.Ytnlbaflbhicooaa.F
open Go.RowKit Go.Proofs.YtnlbaflbhicooaaW.PrintWords Go.Proofs.YtnlbaflbhicooaaW.PrintLast Go.Proofs.YtnlbaflbhicooaaW.PrintMore
attribute [local go_sem] max2_int min2_int max_two min_two max_three min_three max_four min_four   -- for this text's walks alone
set_option linter.unusedVariables false
set_option linter.unusedSimpArgs false
end Go.Proofs.Ytnlbaflbhicooaa.F
namespace Go.Proofs.Ytnlbaflbhicooaa.F
open Go.RowKit Go.Proofs.YtnlbaflbhicooaaW.PrintWords Go.Proofs.YtnlbaflbhicooaaW.PrintLast Go.Proofs.YtnlbaflbhicooaaW.PrintMore
attribute [local go_sem] max2_int min2_int max_two min_two max_three min_three max_four min_four   -- for this text's walks alone
set_option linter.unusedVariables false
set_option linter.unusedSimpArgs false
end Go.Proofs.Ytnlbaflbhicooaa.F
namespace Go.Proofs.Ytnlbaflbhicooaa.F
open Go.RowKit Go.Proofs.YtnlbaflbhicooaaW.PrintWords Go.Proofs.YtnlbaflbhicooaaW.PrintLast Go.Proofs.YtnlbaflbhicooaaW.PrintMore
attribute [local go_sem] max2_int min2_int max_two min_two max_three min_three max_four min_four   -- for this text's walks alone
set_option linter.unusedVariables false
set_option linter.unusedSimpArgs false
end Go.Proofs.Ytnlbaflbhicooaa.F
namespace Go.Proofs.Ytnlbaflbhicooaa.F
open Go.RowKit Go.Proofs.YtnlbaflbhicooaaW.PrintWords Go.Proofs.YtnlbaflbhicooaaW.PrintLast Go.Proofs.YtnlbaflbhicooaaW.PrintMore
attribute [local go_sem] max2_int min2_int max_two min_two max_three min_three max_four min_four   -- for this text's walks alone
set_option linter.unusedVariables false
set_option linter.unusedSimpArgs false
end Go.Proofs.Ytnlbaflbhicooaa.F
namespace Go.Proofs.Ytnlbaflbhicooaa.F
open Go.RowKit Go.Proofs.YtnlbaflbhicooaaW.PrintWords Go.Proofs.YtnlbaflbhicooaaW.PrintLast Go.Proofs.YtnlbaflbhicooaaW.PrintMore
set_option linter.unusedVariables false
set_option linter.unusedSimpArgs false
def twoR (A : List S108) (B : List S92) (C : List S43) (a b : Int) : Int := if isShow A B C = true then (if inB a 0 ((C.length : Int) - 1) = true then (if inB b 0 ((C.length : Int) - 1) = true then 0 else 2) else 2) else 1
theorem two_ok (n0 : Nat) {A : List S108} {B : List S92} {C : List S43} (hF : Frame n0 A B C) (a b : Int) (k : Nat) (hk : 4000300 ≤ k) : spec_l09Code.f k A B C a b = some (twoR A B C a b) ∧ impl_twoCues.f k A B C a b = some (twoR A B C a b) := by
 have hC := hF.2.2.1
 unfold spec_l09Code.f impl_twoCues.f twoR
 rw [ss_ok hF k (by omega), si_ok hF k (by omega), index_eq, index_eq, w64 (n := (C.length : Int) - 1) (by omega)]
 simp only [Option.bind_some, In_eq]
 cases h : isShow A B C with
 | false => exact ⟨rfl, rfl⟩
 | true =>
  simp only [if_true]
  cases g : inB a 0 ((C.length : Int) - 1) with
  | false => exact ⟨rfl, rfl⟩
  | true =>
   simp only [if_true]
   cases inB b 0 ((C.length : Int) - 1) <;> exact ⟨rfl, rfl⟩
theorem two_zero {A : List S108} {B : List S92} {C : List S43} {a b : Int} (h : twoR A B C a b = 0) : isShow A B C = true ∧ ∃ p q : Nat, a = p ∧ b = q ∧ p < C.length ∧ q < C.length := by
 unfold twoR at h
 by_cases h1 : isShow A B C = true
 ·rw [if_pos h1] at h
  by_cases h2 : inB a 0 ((C.length : Int) - 1) = true
  ·rw [if_pos h2] at h
   by_cases h3 : inB b 0 ((C.length : Int) - 1) = true
   ·have g2 := inB_true.1 h2
    have g3 := inB_true.1 h3
    exact ⟨h1, a.toNat, b.toNat, by omega, by omega, by omega, by omega⟩
   ·rw [if_neg h3] at h; exact absurd h (by decide)
  ·rw [if_neg h2] at h; exact absurd h (by decide)
 ·rw [if_neg h1] at h; exact absurd h (by decide)
theorem two_of {A : List S108} {B : List S92} {C : List S43} (h : isShow A B C = true) {p q : Nat} (hp : p < C.length) (hq : q < C.length) : twoR A B C (p : Int) (q : Int) = 0 := by
 unfold twoR
 rw [if_pos h, if_pos (inB_true.2 (by omega)), if_pos (inB_true.2 (by omega))]
end Go.Proofs.Ytnlbaflbhicooaa.F
namespace Go.Proofs.Ytnlbaflbhicooaa.F
open Go.RowKit Go.Proofs.YtnlbaflbhicooaaW.PrintWords Go.Proofs.YtnlbaflbhicooaaW.PrintLast Go.Proofs.YtnlbaflbhicooaaW.PrintMore
set_option linter.unusedVariables false
set_option linter.unusedSimpArgs false
def meetP (A : List S108) (B : List S92) (c d : S43) (i j : Nat) : Bool := decide (wlo A B c i ≤ whi A B d j ∧ wlo A B d j ≤ whi A B c i)
def meetB (A : List S108) (B : List S92) (c d : S43) : Bool := anyF (fun i => anyF (meetP A B c d i) 0 (wn B d)) 0 (wn B c)
theorem spec_meet {A : List S108} {B : List S92} {C : List S43} (h : isShow A B C = true) {a b : Nat} (ha : a < C.length) (hb : b < C.length) : ∀ d i, wn B (cu_at C a) - i = d → i ≤ wn B (cu_at C a) → Evt (fun k => spec_MayMeet.l0 k (cueW3 A B (cu_at C a) (a : Int)) (cueW3 A B (cu_at C b) (b : Int)) (i : Int) = some (anyF (fun i => anyF (meetP A B (cu_at C a) (cu_at C b) i) 0 (wn B (cu_at C b))) i d, 0)) := by
 have na2 := (wn_range h ha).2.1
 have nb2 := (wn_range h hb).2.1
 generalize hnA : wn B (cu_at C a) = nA at na2 ⊢
 generalize hnB : wn B (cu_at C b) = nB at nb2 ⊢
 intro d
 induction d with
 | zero =>
  intro i hd hi
  refine Evt.succ (Evt.of fun k => ?_)
  show spec_MayMeet.l0 (k + 1) _ _ (i : Int) = _
  simp only [spec_MayMeet.l0, cueW3_len, hnA, hnB]
  rw [if_neg (by omega)]
  rfl
 | succ d ih =>
  intro i hd hi
  have hi' : i + 1 ≤ nA := by omega
  have hd' : nA - (i + 1) = d := by omega
  obtain ⟨K, hK⟩ := ih (i + 1) hd' hi'
  refine ⟨K + nB + 400, fun k hk => ?_⟩
  obtain ⟨k, rfl⟩ : ∃ m, k = (m + nB + 1) + 1 := ⟨k - nB - 2, by omega⟩
  have hk' : K ≤ k := by omega
  show spec_MayMeet.l0 (k + nB + 1 + 1) _ _ (i : Int) = _
  simp only [spec_MayMeet.l0, cueW3_len, hnA, hnB]
  rw [if_pos (by omega)]
  have z := any_loop (f := fun k j => spec_MayMeet.l1 k (cueW3 A B (cu_at C a) (a : Int)) (cueW3 A B (cu_at C b) (b : Int)) (i : Int) (j : Int)) (p := meetP A B (cu_at C a) (cu_at C b) i) (y := some (true, 0)) (e := fun k => spec_MayMeet.l0 k (cueW3 A B (cu_at C a) (a : Int)) (cueW3 A B (cu_at C b) (b : Int)) ((i + 1 : Nat) : Int)) (nB) 0 (fun k j _ hj => by
    show spec_MayMeet.l1 (k + 1) _ _ (i : Int) (j : Int) = _
    simp only [spec_MayMeet.l1, cueW3_len, hnA, hnB]
    rw [if_pos (by omega), if_pos (by omega), if_pos (by omega), rdL_cue3 _ _ _ _ (show i < wn B (cu_at C a) by rw [hnA]; omega), rdL_cue3 _ _ _ _ (show j < wn B (cu_at C b) by rw [hnB]; exact hj), w64 (n := (j : Int) + 1) (by omega), rd_0, rd_0, rd_1, rd_1]
    rw [if_pos (by show (0 : Int) < ((3 : Nat) : Int); decide), if_pos (by omega), if_pos (by show (1 : Int) < ((3 : Nat) : Int); decide)]
    unfold meetP
    by_cases c1 : wlo A B (cu_at C a) i ≤ whi A B (cu_at C b) j
    ·rw [if_pos c1, if_pos (by show (0 : Int) < ((3 : Nat) : Int); decide), if_pos (by show (1 : Int) < ((3 : Nat) : Int); decide)]
     by_cases c2 : wlo A B (cu_at C b) j ≤ whi A B (cu_at C a) i
     ·rw [if_pos c2, if_pos (decide_eq_true ⟨c1, c2⟩)]
     ·rw [if_neg c2, if_neg (by rw [decide_eq_true_iff]; exact fun x => c2 x.2)]; rfl
    ·rw [if_neg c1, if_neg (by rw [decide_eq_true_iff]; exact fun x => c1 x.1)]; rfl) (fun k => by
    show spec_MayMeet.l1 (k + 1) _ _ (i : Int) ((nB : Nat) : Int) = _
    simp only [spec_MayMeet.l1, cueW3_len, hnA, hnB]
    rw [if_neg (by omega), w64 (n := (i : Int) + 1) (by omega)]
    rfl) (nB) k 0 (by omega) (by omega) (by omega)
  refine Eq.trans z ?_
  show _ = some (anyF (fun i => anyF (meetP A B (cu_at C a) (cu_at C b) i) 0 (nB)) i (d + 1), 0)
  rw [anyF_succ (fun i => anyF (meetP A B (cu_at C a) (cu_at C b) i) 0 (nB)) i d]
  by_cases c : anyF (meetP A B (cu_at C a) (cu_at C b) i) 0 (nB) = true
  ·rw [if_pos c, c, Bool.true_or]
  ·rw [if_neg c, Bool.eq_false_iff.mpr c, Bool.false_or]
   exact hK k hk'
theorem impl_meet {A : List S108} {B : List S92} {C : List S43} (h : isShow A B C = true) {a b : Nat} (ha : a < C.length) (hb : b < C.length) : ∀ d i, wn B (cu_at C a) - i = d → i ≤ wn B (cu_at C a) → Evt (fun k => impl_MayMeet.l0 k (b : Int) (cueW2 A B (cu_at C a)) ((wn B (cu_at C a) : Nat) : Int) (i : Int) A B C = some (anyF (fun i => anyF (meetP A B (cu_at C a) (cu_at C b) i) 0 (wn B (cu_at C b))) i d, 0)) := by
 have na2 := (wn_range h ha).2.1
 have nb2 := (wn_range h hb).2.1
 generalize hnA : wn B (cu_at C a) = nA at na2 ⊢
 generalize hnB : wn B (cu_at C b) = nB at nb2 ⊢
 intro d
 induction d with
 | zero =>
  intro i hd hi
  refine Evt.succ (Evt.of fun k => ?_)
  show impl_MayMeet.l0 (k + 1) _ _ _ (i : Int) _ _ _ = _
  simp only [impl_MayMeet.l0, cueW2_len, hnA, hnB]
  rw [if_neg (by omega)]
  rfl
 | succ d ih =>
  intro i hd hi
  have hi' : i + 1 ≤ nA := by omega
  have hd' : nA - (i + 1) = d := by omega
  obtain ⟨K, hK⟩ := ih (i + 1) hd' hi'
  refine ⟨K + nB + 400, fun k hk => ?_⟩
  obtain ⟨k, rfl⟩ : ∃ m, k = (m + nB + 1) + 1 := ⟨k - nB - 2, by omega⟩
  have hk' : K ≤ k := by omega
  show impl_MayMeet.l0 (k + nB + 1 + 1) _ _ _ (i : Int) _ _ _ = _
  simp only [impl_MayMeet.l0, cueW2_len, hnA, hnB]
  rw [if_pos (by omega), if_pos (by omega), if_pos (by omega), if_pos (by omega), if_pos (by omega), rd_cue, impl_cue h hb _ (by omega)]
  simp only [Option.bind_some]
  rw [cueW2_len, hnB, rdL_cue2 _ _ _ (show i < wn B (cu_at C a) by rw [hnA]; omega)]
  have z := any_loop (f := fun k j => impl_MayMeet.l1 k (b : Int) [wlo A B (cu_at C a) i, whi A B (cu_at C a) i] (cueW2 A B (cu_at C a)) ((nA : Nat) : Int) (i : Int) (cueW2 A B (cu_at C b)) ((nB : Nat) : Int) (j : Int) A B C) (p := meetP A B (cu_at C a) (cu_at C b) i) (y := some (true, 0)) (e := fun k => impl_MayMeet.l0 k (b : Int) (cueW2 A B (cu_at C a)) ((nA : Nat) : Int) ((i + 1 : Nat) : Int) A B C) (nB) 0 (fun k j _ hj => by
    show impl_MayMeet.l1 (k + 1) _ _ _ _ (i : Int) _ _ (j : Int) _ _ _ = _
    simp only [impl_MayMeet.l1, cueW2_len, hnA, hnB]
    rw [if_pos (by omega), if_pos (by omega), if_pos (by omega), rdL_cue2 _ _ _ (show j < wn B (cu_at C b) by rw [hnB]; exact hj), w64 (n := (j : Int) + 1) (by omega), rd_0, rd_0, rd_1, rd_1]
    rw [if_pos (by show (0 : Int) < ((2 : Nat) : Int); decide), if_pos (by show (1 : Int) < ((2 : Nat) : Int); decide)]
    unfold meetP
    by_cases c1 : wlo A B (cu_at C a) i ≤ whi A B (cu_at C b) j
    ·rw [if_pos c1, if_pos (by show (0 : Int) < ((2 : Nat) : Int); decide), if_pos (by show (1 : Int) < ((2 : Nat) : Int); decide)]
     by_cases c2 : wlo A B (cu_at C b) j ≤ whi A B (cu_at C a) i
     ·rw [if_pos c2, if_pos (decide_eq_true ⟨c1, c2⟩)]
     ·rw [if_neg c2, if_neg (by rw [decide_eq_true_iff]; exact fun x => c2 x.2)]; rfl
    ·rw [if_neg c1, if_neg (by rw [decide_eq_true_iff]; exact fun x => c1 x.1)]; rfl) (fun k => by
    show impl_MayMeet.l1 (k + 1) _ _ _ _ (i : Int) _ _ ((nB : Nat) : Int) _ _ _ = _
    simp only [impl_MayMeet.l1, cueW2_len, hnA, hnB]
    rw [if_neg (by omega), w64 (n := (i : Int) + 1) (by omega)]
    rfl) (nB) k 0 (by omega) (by omega) (by omega)
  refine Eq.trans z ?_
  show _ = some (anyF (fun i => anyF (meetP A B (cu_at C a) (cu_at C b) i) 0 (nB)) i (d + 1), 0)
  rw [anyF_succ (fun i => anyF (meetP A B (cu_at C a) (cu_at C b) i) 0 (nB)) i d]
  by_cases c : anyF (meetP A B (cu_at C a) (cu_at C b) i) 0 (nB) = true
  ·rw [if_pos c, c, Bool.true_or]
  ·rw [if_neg c, Bool.eq_false_iff.mpr c, Bool.false_or]
   exact hK k hk'
def meetR (A : List S108) (B : List S92) (C : List S43) (a b : Int) : Bool × Int := if twoR A B C a b = 0 then (meetB A B (cu_at C a.toNat) (cu_at C b.toNat), 0) else (false, twoR A B C a b)
theorem meet_ok (n0 : Nat) {A : List S108} {B : List S92} {C : List S43} (hF : Frame n0 A B C) (a b : Int) : Evt (fun k => spec_MayMeet.f k A B C a b = some (meetR A B C a b)) ∧ Evt (fun k => impl_MayMeet.f k A B C a b = some (meetR A B C a b)) := by
 by_cases c : twoR A B C a b = 0
 ·obtain ⟨h, p, q, rfl, rfl, hp, hq⟩ := two_zero c
  have np := wn_range h hp
  obtain ⟨K1, e1⟩ := spec_meet h hp hq (wn B (cu_at C p)) 0 (by omega) (by omega)
  obtain ⟨K2, e2⟩ := impl_meet h hp hq (wn B (cu_at C p)) 0 (by omega) (by omega)
  refine ⟨⟨4010300 + K1, fun k hk => ?_⟩, ⟨4010300 + K2, fun k hk => ?_⟩⟩
  ·show spec_MayMeet.f k A B C _ _ = _
   unfold spec_MayMeet.f meetR
   rw [(two_ok n0 hF _ _ k (by omega)).1]
   simp only [Option.bind_some]
   rw [if_pos c, if_pos c, spec_cue h hp k (by omega), spec_cue h hq k (by omega)]
   exact e1 k (by omega)
  ·show impl_MayMeet.f k A B C _ _ = _
   unfold impl_MayMeet.f meetR
   rw [(two_ok n0 hF _ _ k (by omega)).2]
   simp only [Option.bind_some]
   rw [if_pos c, if_pos c, if_pos (by omega), if_pos (by omega), rd_cue, impl_cue h hp k (by omega)]
   simp only [Option.bind_some]
   rw [cueW2_len]
   exact e2 k (by omega)
 ·refine ⟨⟨4010300, fun k hk => ?_⟩, ⟨4010300, fun k hk => ?_⟩⟩
  ·show spec_MayMeet.f k A B C _ _ = _
   unfold spec_MayMeet.f meetR
   rw [(two_ok n0 hF _ _ k (by omega)).1]
   simp only [Option.bind_some]
   rw [if_neg c, if_neg c]
  ·show impl_MayMeet.f k A B C _ _ = _
   unfold impl_MayMeet.f meetR
   rw [(two_ok n0 hF _ _ k (by omega)).2]
   simp only [Option.bind_some]
   rw [if_neg c, if_neg c]
end Go.Proofs.Ytnlbaflbhicooaa.F
namespace Go.Proofs.Ytnlbaflbhicooaa.F
open Go.RowKit Go.Proofs.YtnlbaflbhicooaaW.PrintWords Go.Proofs.YtnlbaflbhicooaaW.PrintLast Go.Proofs.YtnlbaflbhicooaaW.PrintMore
set_option linter.unusedVariables false
set_option linter.unusedSimpArgs false
theorem main_FnExactMayMeet (A : List S108) (B : List S92) (C : List S43) (a b : Int) (hA : A.length ≤ 1000000) (hB : B.length ≤ 1000000) (hC : C.length ≤ 1000000) (hS : ∀ x ∈ B, x.f0.size ≤ 1000000) (_ : ∀ x ∈ C, x.f2.size ≤ 1000000) (_ : I64 a) (_ : I64 b) : ∃ q1 q2, Evt (fun k => spec_MayMeet.f k A B C a b = some (q1, q2)) ∧ Evt (fun k => impl_MayMeet.f k A B C a b = some (q1, q2)) :=
 ⟨(meetR A B C a b).1, (meetR A B C a b).2, meet_ok 1000000 ⟨hA, hB, hC, Nat.le_refl _, hS⟩ a b⟩
theorem pure_FnExactMayMeet : Pure_FnExactMayMeet := by
 intro l0_0 l0_1 l0_2 a1 a2 n0_0 p0_0 n0_1 p0_1 n0_2 p0_2 b1 b2
 obtain ⟨s1, zs1, z1⟩ := sz_Show l0_0 l0_1 l0_2 n0_0 n0_1 (fun x hx => (p0_1 x hx).1) n0_2 (fun x hx => (p0_2 x hx).2.2.1)
 rcases z1 with z1 | ⟨z1, z1b, u0, ⟨u1, v1⟩, u2, v2⟩
 ·obtain ⟨k, hk⟩ := zs1.ex
  exact ⟨k, s1, hk, Or.inl z1⟩
 obtain ⟨L0_0, t0_0, ne0_0, tk0_0, ln0_0, le0_0, rm0_0, jn0_0, fa0_0, ta0_0⟩ := to_BarS l0_0 (by omega)
 have eq0_0 := eq_BarS L0_0 (by omega)
 obtain ⟨L0_1, t0_1, ne0_1, tk0_1, ln0_1, le0_1, rm0_1, jn0_1, fa0_1, ta0_1⟩ := to_ArticleS l0_1 (by omega)
 have eq0_1 := eq_ArticleS L0_1 (by omega)
 obtain ⟨L0_2, t0_2, ne0_2, tk0_2, ln0_2, le0_2, rm0_2, jn0_2, fa0_2, ta0_2⟩ := to_CueS l0_2 (by omega)
 have eq0_2 := eq_CueS L0_2 (by omega)
 have fu0 := full_Show fa0_0 fa0_1 fa0_2
 have to0 := bare_Show ta0_0 ta0_1 ta0_2
 obtain ⟨q1, q2, sp, im⟩ := main_FnExactMayMeet (l0_0.map conv_BarS) (l0_1.map conv_ArticleS) (l0_2.map conv_CueS) a1 a2 (by rw [ln0_0]; omega) (by rw [ln0_1]; omega) (by rw [ln0_2]; omega) (fun x hx => by obtain ⟨y, hy, rfl⟩ := List.mem_map.1 hx; exact v1 y hy) (fun x hx => by obtain ⟨y, hy, rfl⟩ := List.mem_map.1 hx; exact v2 y hy) b1 b2
 obtain ⟨k, hzs1, heq0_0, heq0_1, heq0_2, hfu0, hto0, hsp, him⟩ := (zs1.and (eq0_0.and (eq0_1.and (eq0_2.and (fu0.and (to0.and (sp.and im))))))).ex
 exact ⟨k, ⟨s1, hzs1, Or.inr ⟨z1, ⟨L0_0, _, t0_0, L0_1, _, t0_1, L0_2, _, t0_2, q1, q2, { ne0_0 := ne0_0, tk0_0 := tk0_0, ln0_0 := ln0_0, rm0_0 := rm0_0, jn0_0 := jn0_0, eq0_0 := heq0_0, ne0_1 := ne0_1, tk0_1 := tk0_1, ln0_1 := ln0_1, rm0_1 := rm0_1, jn0_1 := jn0_1, eq0_1 := heq0_1, ne0_2 := ne0_2, tk0_2 := tk0_2, ln0_2 := ln0_2, rm0_2 := rm0_2, jn0_2 := jn0_2, eq0_2 := heq0_2, fu0 := hfu0, to0 := hto0, sp := hsp, im := him }⟩⟩⟩⟩
end Go.Proofs.Ytnlbaflbhicooaa.F
namespace Go.Proofs.Ytnlbaflbhicooaa.fnExactMayMeet
open Go.ChangeShapes Go.WideShapes Go.ChangeAt Go.RowKit Go.Proofs.Ytnlbaflbhicooaa.F Go.Proofs.YtnlbaflbhicooaaW.PrintWords
open Go.ChangeMaps (open_string shut_string)
set_option linter.unusedVariables false
theorem own : ownKnob Try.prog.godebug = none := by kernel_rfl
theorem laidOut : laidOutB Try.prog = true := by kernel_rfl
set_option maxRecDepth 100000 in
theorem lifted (os : Os) (started : os.Started) (H : Type) (enc : TypeId × Value → H) :
  ReturnsInHanded {} Try.checked os 9 .any (Rows.fnExactMayMeetSpec.pre6 enc Try.prog Try.f9 Rows.fnExactMayMeetRow.domain false) (Rows.fnExactMayMeetSpec.post enc Try.prog Try.f9 false true false false) := by
 refine returnsInHanded_of_change_sized (C := Try.checked) own started Zj Try.func9
  (ChangeSpec.witness6 (enc := enc) (C := Try.checked) false ⟨#[], #[.agg #[.slice none 0 0, .slice none 0 0, .slice none 0 0], .int .i64 0, .int .i64 0], []⟩ 8 Zj Zj Zj Zj) ?_
 intro W base args ds gs before hval0 hW hcnd hsz0 _
 have hval : ∀ (j : Nat) t v, Try.f9.params[j]? = some t → args[j]? = some v → Value.okWide Try.prog W .any base t v := hval0
 have hW' := hW
 obtain ⟨p, q, hA0, hV, rfl, hfz, hnd⟩ := hW
 have hA : DataW.TrodAll enc Try.prog W 0 (fun _ => true) true Try.f9.params.toList args.toList ds p := hA0
 rw [Try.params9] at hA hval
 obtain ⟨v0, vs0, d0, ds0, p0, q0, hargs, rfl, rfl, h0, r0⟩ := trodAll_cons hA
 obtain ⟨v1, vs1, d1, ds1, p1, q1, rfl, rfl, rfl, h1, r1⟩ := trodAll_cons r0
 obtain ⟨v2, vs2, d2, ds2, p2, q2, rfl, rfl, rfl, h2, r2⟩ := trodAll_cons r1
 obtain ⟨rfl, rfl, rfl⟩ := trodAll_nil r2
 obtain rfl : args = #[v0, v1, v2] := by cases args; simp_all
 obtain ⟨rfl, rfl⟩ := trodVars_none hV
 have k0 := h0
 have lt0 : ∀ x ∈ p0, x.block < W.heap.size := by obtain ⟨m, hm⟩ := k0; exact DataW.trod_lt m _ _ _ hm
 obtain ⟨cs0, rfl, _⟩ := okWide_struct Try.underlying26 (hval 0 26 v0 rfl rfl)
 obtain ⟨A0_0, c0_0, l0_0, A0_1, c0_1, l0_1, A0_2, c0_2, l0_2, rfl, ⟨lc0_0, lm0_0, hC0_0, hP0_0⟩, ⟨lc0_1, lm0_1, hC0_1, hP0_1⟩, ⟨lc0_2, lm0_2, hC0_2, hP0_2⟩⟩ : ∃ (A0_0 : Option Addr) (c0_0 : Nat) (l0_0 : List S110) (A0_1 : Option Addr) (c0_1 : Nat) (l0_1 : List S105) (A0_2 : Option Addr) (c0_2 : Nat) (l0_2 : List S40), cs0 = #[.slice A0_0 l0_0.length c0_0, .slice A0_1 l0_1.length c0_1, .slice A0_2 l0_2.length c0_2] ∧ (l0_0.length ≤ c0_0 ∧ c0_0 ≤ maxLen ∧ Kd.C k110 W A0_0 l0_0.length l0_0 ∧ ∀ x ∈ l0_0, Pr110 x) ∧ (l0_1.length ≤ c0_1 ∧ c0_1 ≤ maxLen ∧ Kd.C k105 W A0_1 l0_1.length l0_1 ∧ ∀ x ∈ l0_1, Pr105 x) ∧ (l0_2.length ≤ c0_2 ∧ c0_2 ≤ maxLen ∧ Kd.C k40 W A0_2 l0_2.length l0_2 ∧ ∀ x ∈ l0_2, Pr40 x) := by
  obtain ⟨fuel, hf⟩ := h0
  obtain ⟨z0_0, y0_0, x0_0, z0_1, y0_1, x0_1, z0_2, y0_2, x0_2, hcs, hp⟩ := open_V26 hf
  simp only [Value.cells] at hcs
  exact ⟨z0_0, y0_0, x0_0, z0_1, y0_1, x0_1, z0_2, y0_2, x0_2, by rw [← hcs], hp⟩
 obtain ⟨a1, rfl, rfl, rfl, w1⟩ := open_int Try.underlying2 (hval 1 2 v1 rfl rfl) h1
 obtain ⟨a2, rfl, rfl, rfl, w2⟩ := open_int Try.underlying2 (hval 2 2 v2 rfl rfl) h2
 obtain ⟨k, hk⟩ := pure_FnExactMayMeet l0_0 l0_1 l0_2 a1 a2 (by omega) hP0_0 (by omega) hP0_1 (by omega) hP0_2 (I64_of w1) (I64_of w2)
 refine (law_FnExactMayMeet k A0_0 c0_0 l0_0 A0_1 c0_1 l0_1 A0_2 c0_2 l0_2 a1 a2 W hC0_0 lc0_0 hC0_1 lc0_1 hC0_2 lc0_2 hk).mono fun e W' ⟨he, bel⟩ => ?_
 subst he
 exact ⟨_, rfl, _, _, _, [], _, [], hW', trodAll_mk1 (shut_bool Try.underlying4 _), (trodAll_cons_mk (Below.trod laidOut Zj (of_decide_eq_true Zj) k0 bel lt0) (trodAll_cons_mk (shut_int Try.underlying2 w1) (trodAll_cons_mk (shut_int Try.underlying2 w2) trodAll_mk0))), rfl, bel.frame _, fun h => by cases h⟩
theorem over : Rows.fnExactMayMeetRow.holds Try.pinned (OpenSpec.ofChange Rows.fnExactMayMeetSpec) :=
 OpenClaim.holds_of_wide 9 Try.f9 rfl rfl rfl rfl rfl rfl rfl ⟨rfl, rfl, rfl, rfl, rfl⟩ rfl rfl rfl rfl rfl Zj Try.func9 GcFnExactMayMeet.closed
  (of_decide_eq_true Zj) (by unfold Func.isWrapper; first | (rw [if_pos (by decide +kernel)]; kernel_rfl) | (rw [if_neg (by decide +kernel)]; exact ⟨rfl, rfl⟩))
  (fun os started H enc _ => lifted os started H enc)
theorem proved : Rows.FnExactMayMeetSaid := over
end Go.Proofs.Ytnlbaflbhicooaa.fnExactMayMeet
namespace Go.Proofs.Ytnlbaflbhicooaa
theorem fnExactMayMeet_holds : Rows.FnExactMayMeetSaid := fnExactMayMeet.proved
#print axioms fnExactMayMeet_holds
end Go.Proofs.Ytnlbaflbhicooaa
