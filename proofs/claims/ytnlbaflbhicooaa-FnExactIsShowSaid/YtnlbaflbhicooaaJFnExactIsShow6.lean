import Derived.Test.YtnlbaflbhicooaaJFnExactIsShow5
import Derived.Below
import Derived.Deep.Draws
import Derived.Deep.AppendLies
import Derived.Maps.AppendAt
import Derived.OwnWalk
import Derived.Laws.BytesArg
import Derived.Laws.MakeOwn
import Derived.Laws.OwnMore
import Derived.Deep.OwnRows
import Derived.Tactics
import Derived.Lib.ConvBytes
import Derived.Laws.Slices
import Derived.WalkKit
import Derived.KernelRfl
import Derived.RowKit3
import Derived.Deep.LoopGhost
import Derived.Deep.QuietTactic
import Derived.BigQuiet
import Derived.WideLaws
import Derived.Deep.DeepCutAuto
import Derived.Deep.CutBlock
import Derived.Deep.RegionHeld3
import Derived.Laws.Rows
import Derived.Lib.AppendStr
import Derived.ArgAppend
import Derived.Laws.IdiomCopy
import Derived.RowKit
import Derived.OrdersHeld
import Derived.Laws.BitsLemmas
import Derived.Laws.StructEq
import Derived.Test.YtnlbaflbhicooaaProg
import Derived.ChangeSlices
import Derived.OpenShut
import Derived.Laws.Cover1
import Derived.Test.YtnlbaflbhicooaaRows
import Derived.Test.YtnlbaflbhicooaaGcFnExactIsShow
import Derived.ProofKit
import Derived.ShutString
import Derived.ChangeOld
import Derived.SizedLaws
namespace Go.Proofs.Ytnlbaflbhicooaa.F
open Go.RowKit Go.Proofs.YtnlbaflbhicooaaW.PrintWords Go.Proofs.YtnlbaflbhicooaaW.PrintLast Go.Proofs.YtnlbaflbhicooaaW.PrintMore
set_option linter.unusedVariables false
set_option linter.unusedSimpArgs false
def cu_at (C : List S43) (i : Nat) : S43 := C.getD i z43
theorem rd_cue (C : List S43) (i : Nat) : rd_T43 C (i : Int) = cu_at C i := by unfold rd_T43 cu_at; rw [Int.toNat_natCast]
def arOf (B : List S92) (c : S43) : S92 := ar_at B (find B c.f2).toNat
def ftime (A : List S108) (B : List S92) (c : S43) : Int := tm A c.f0.toNat + c.f1 * ln_at A c.f0.toNat - (arOf B c).f3
theorem areArts_true {xs : List S92} (h : areArts xs = true) : xs.length ≤ 12 ∧ ∀ i, i < xs.length → art (ar_at xs i) = true := by
 unfold areArts at h
 rw [Bool.and_eq_true, allF_true, decide_eq_true_iff] at h
 refine ⟨by omega, fun i hi => ?_⟩
 have := h.1 i (by omega) (by omega)
 unfold artAt at this
 rw [Bool.and_eq_true] at this
 exact this.1
theorem art_true {a : S92} (h : art a = true) : (0 ≤ a.f1 ∧ a.f1 ≤ 3) ∧ (20 ≤ a.f2 ∧ a.f2 ≤ 300) ∧ (0 ≤ a.f3 ∧ a.f3 ≤ 10000) ∧ (0 ≤ a.f4 ∧ a.f4 ≤ a.f3) ∧ (1 ≤ a.f5 ∧ a.f5 ≤ 50) ∧ (0 ≤ a.f6 ∧ a.f6 ≤ 10000) ∧ (1 ≤ a.f7 ∧ a.f7 ≤ 100000) ∧ 0 ≤ a.f8 ∧ a.f8 ≤ 3 := by
 unfold art at h
 simp only [Bool.and_eq_true, inB_true] at h
 exact h.2
theorem arOf_ok {B : List S92} (hB : areArts B = true) {c : S43} (hc : 0 ≤ find B c.f2) : art (arOf B c) = true ∧ find B c.f2 < (B.length : Int) := by
 rcases find_range B c.f2 with h | h
 ·omega
 ·exact ⟨(areArts_true hB).2 _ (by omega), h.2⟩
theorem time_range {A : List S108} (hA : isScore A = true) {b : Nat} (hb : b < A.length) {e : Int} (he : 0 ≤ e ∧ e ≤ bt_at A b - 1) : 0 ≤ tm A b + e * ln_at A b ∧ tm A b + e * ln_at A b ≤ 2000000 := by
 have hs := isScore_true hA
 have hl := hs.2.2 b hb
 have ht := tm_le hA b (by omega)
 have h1 : 0 ≤ e * ln_at A b := Int.mul_nonneg he.1 (by omega)
 have h2 : e * ln_at A b ≤ 16 * ln_at A b := Int.mul_le_mul_of_nonneg_right (by omega) (by omega)
 omega
theorem spec_ftime {A : List S108} (hA : isScore A = true) {B : List S92} (hB : areArts B = true) (C : List S43) {c : S43} (hc : 0 ≤ find B c.f2) (hb : hasBeat A c.f0 c.f1 = true) (k : Nat) (hk : 100 ≤ k) : spec_l08Time.f k A B C c.f0 c.f1 c.f2 c.f3 = some (ftime A B c) := by
 obtain ⟨b, e, h1, h2, h3⟩ := hasBeat_true hb
 have hs := isScore_true hA
 have hl := hs.2.2 b h1
 have hf := arOf_ok hB hc
 have hr := time_range hA h1 ⟨h2, h3⟩
 have ha := art_true hf.1
 have hB12 := (areArts_true hB).1
 have ft : ftime A B c = tm A b + c.f1 * ln_at A b - (arOf B c).f3 := by unfold ftime; rw [e, Int.toNat_natCast]
 unfold spec_l08Time.f
 rw [e, spec_time hA b h1 c.f1 (by omega) k (by omega)]
 simp only [Option.bind_some]
 rw [spec_find B (by omega) c.f2 k (by omega)]
 simp only [Option.bind_some]
 rw [if_pos hc, if_pos hf.2, ft]
 have er : rd_T92 B (find B c.f2) = arOf B c := by
  have := rd_art B (find B c.f2).toNat
  rw [show ((find B c.f2).toNat : Int) = find B c.f2 by omega] at this
  exact this
 rw [er, w64 (by omega)]
theorem impl_ftime {A : List S108} (hA : isScore A = true) {B : List S92} (hB : areArts B = true) (C : List S43) (c : S43) (k : Nat) (hk : 100 ≤ k) : impl_firedAt.f k A B C c.f0 c.f1 c.f2 c.f3 = some (if 0 ≤ find B c.f2 ∧ hasBeat A c.f0 c.f1 = true then mx (-1) (ftime A B c) else -1) := by
 have hs := isScore_true hA
 have hB12 := (areArts_true hB).1
 unfold impl_firedAt.f
 rw [impl_find B (by omega) c.f2 k (by omega)]
 simp only [Option.bind_some]
 by_cases hc : 0 ≤ find B c.f2
 ·rw [if_neg (by omega), impl_has hA]
  simp only [Option.bind_some]
  by_cases hb : hasBeat A c.f0 c.f1 = true
  ·obtain ⟨b, e, h1, h2, h3⟩ := hasBeat_true hb
   have hl := hs.2.2 b h1
   have hf := arOf_ok hB hc
   have hr := time_range hA h1 ⟨h2, h3⟩
   have ha := art_true hf.1
   have ft : ftime A B c = tm A b + c.f1 * ln_at A b - (arOf B c).f3 := by unfold ftime; rw [e, Int.toNat_natCast]
   have er : rd_T92 B (find B c.f2) = arOf B c := by
    have := rd_art B (find B c.f2).toNat
    rw [show ((find B c.f2).toNat : Int) = find B c.f2 by omega] at this
    exact this
   rw [if_pos hb, if_pos (show 0 ≤ find B c.f2 ∧ hasBeat A c.f0 c.f1 = true from ⟨hc, hb⟩), e, impl_time hA b c.f1 (.inl h1) (by omega) k (by omega)]
   simp only [Option.bind_some]
   rw [if_pos hc, if_pos hf.2, er, ft, w64 (by omega)]
  ·rw [if_neg hb, if_neg (show ¬ (0 ≤ find B c.f2 ∧ hasBeat A c.f0 c.f1 = true) from fun x => hb x.2)]
 ·rw [if_pos (by omega), if_neg (show ¬ (0 ≤ find B c.f2 ∧ hasBeat A c.f0 c.f1 = true) from fun x => hc x.1)]
def cueOk (A : List S108) (B : List S92) (c : S43) : Bool := hasBeat A c.f0 c.f1 && (decide (0 ≤ find B c.f2) && (inB c.f3 0 11 && decide (0 ≤ ftime A B c)))
def isShow (A : List S108) (B : List S92) (C : List S43) : Bool := isScore A && (areArts B && (decide ((C.length : Int) ≤ 20) && allF (fun i => cueOk A B (cu_at C i)) 0 C.length))
theorem spec_show (n : Nat) (A : List S108) (B : List S92) (C : List S43) (hA : A.length ≤ 1000000) (hB : B.length ≤ 1000000) (hC : C.length ≤ 1000000) (hS : Small n B) (k : Nat) (hk : A.length + B.length + C.length + n + 200 ≤ k) : spec_IsShow.f k A B C = some (isShow A B C) := by
 obtain ⟨k, rfl⟩ : ∃ m, k = m + 1 := ⟨k - 1, by omega⟩
 unfold spec_IsShow.f isShow
 rw [spec_score A (by omega) (k + 1) (by omega)]
 simp only [Option.bind_some]
 cases a : isScore A with
 | false => rfl
 | true =>
  rw [if_pos rfl, spec_arts n B (by omega) hS (k + 1) (by omega)]
  simp only [Option.bind_some]
  cases b : areArts B with
  | false => rfl
  | true =>
   rw [if_pos rfl]
   by_cases c : (C.length : Int) > 20
   ·rw [decide_eq_true c, decide_eq_false (by omega)]; rfl
   ·rw [decide_eq_false c, decide_eq_true (by omega)]
    simp only [spec_IsShow.j0, Bool.false_eq_true, if_false, Bool.true_and]
    have hB12 := (areArts_true b).1
    have loop : ∀ d k i, C.length - i = d → i ≤ C.length → d + 110 ≤ k → spec_IsShow.l0 k (i : Int) A B C = some (allF (fun i => cueOk A B (cu_at C i)) i d) := by
     intro d
     induction d with
     | zero =>
      intro k i hd hi hk
      obtain ⟨k, rfl⟩ : ∃ m, k = m + 1 := ⟨k - 1, by omega⟩
      simp only [spec_IsShow.l0]
      rw [if_neg (by omega)]
      rfl
     | succ d ih =>
      intro k i hd hi hk
      obtain ⟨k, rfl⟩ : ∃ m, k = m + 1 := ⟨k - 1, by omega⟩
      have nx := ih k (i + 1) (by omega) (by omega) (by omega)
      simp only [spec_IsShow.l0]
      rw [if_pos (by omega), if_pos (by omega), rd_cue, spec_has a, spec_find B (by omega) _ k (by omega), In_eq, w64 (n := (i : Int) + 1) (by omega)]
      simp only [Option.bind_some]
      unfold allF cueOk
      cases hb : hasBeat A (cu_at C i).f0 (cu_at C i).f1 with
      | false => rfl
      | true =>
       rw [if_pos rfl, Bool.true_and]
       by_cases hf : 0 ≤ find B (cu_at C i).f2
       ·rw [if_neg (by omega), decide_eq_true hf, Bool.true_and]
        cases hr : inB (cu_at C i).f3 0 11 with
        | false => rfl
        | true =>
         rw [if_pos rfl, Bool.true_and, spec_ftime a b C hf hb k (by omega)]
         simp only [Option.bind_some]
         by_cases ht : ftime A B (cu_at C i) < 0
         ·rw [if_pos ht, decide_eq_false (by omega)]; rfl
         ·rw [if_neg ht, decide_eq_true (by omega), Bool.true_and]
          exact nx
       ·rw [if_pos (by omega), decide_eq_false hf]; rfl
    exact loop C.length k 0 (by omega) (by omega) (by omega)
theorem impl_show (n : Nat) (A : List S108) (B : List S92) (C : List S43) (hA : A.length ≤ 1000000) (hB : B.length ≤ 1000000) (hC : C.length ≤ 1000000) (hS : Small n B) (k : Nat) (hk : A.length + B.length + C.length + n + 200 ≤ k) : impl_IsShow.f k A B C = some (isShow A B C) := by
 obtain ⟨k, rfl⟩ : ∃ m, k = m + 1 := ⟨k - 1, by omega⟩
 unfold impl_IsShow.f isShow
 rw [impl_score A (by omega) (k + 1) (by omega)]
 simp only [Option.bind_some]
 cases a : isScore A with
 | false => rfl
 | true =>
  rw [if_pos rfl, impl_arts n B (by omega) hS (k + 1) (by omega)]
  simp only [Option.bind_some]
  cases b : areArts B with
  | false => rfl
  | true =>
   rw [if_pos rfl]
   by_cases c : (C.length : Int) > 20
   ·rw [decide_eq_true c, decide_eq_false (by omega)]; rfl
   ·rw [decide_eq_false c, decide_eq_true (by omega)]
    simp only [impl_IsShow.j0, Bool.false_eq_true, if_false, Bool.true_and]
    have hB12 := (areArts_true b).1
    have loop : ∀ d k i, C.length - i = d → i ≤ C.length → d + 110 ≤ k → impl_IsShow.l0 k C (C.length : Int) (i : Int) A B C = some (allF (fun i => cueOk A B (cu_at C i)) i d) := by
     intro d
     induction d with
     | zero =>
      intro k i hd hi hk
      obtain ⟨k, rfl⟩ : ∃ m, k = m + 1 := ⟨k - 1, by omega⟩
      simp only [impl_IsShow.l0]
      rw [if_neg (by omega)]
      rfl
     | succ d ih =>
      intro k i hd hi hk
      obtain ⟨k, rfl⟩ : ∃ m, k = m + 1 := ⟨k - 1, by omega⟩
      have nx := ih k (i + 1) (by omega) (by omega) (by omega)
      simp only [impl_IsShow.l0]
      rw [if_pos (by omega), if_pos (by omega), if_pos (by omega), rd_cue, Wi_eq, impl_ftime a b C _ k (by omega), w64 (n := (i : Int) + 1) (by omega)]
      simp only [Option.bind_some]
      unfold allF cueOk
      cases hr : inB (cu_at C i).f3 0 11 with
      | false =>
       rw [if_neg (by decide)]
       simp
      | true =>
       rw [if_pos rfl]
       cases hb : hasBeat A (cu_at C i).f0 (cu_at C i).f1 with
       | false =>
        rw [if_neg (show ¬ (0 ≤ find B (cu_at C i).f2 ∧ false = true) from fun x => absurd x.2 (by decide)), if_pos (by omega)]; rfl
       | true =>
        by_cases hf : 0 ≤ find B (cu_at C i).f2
        ·rw [if_pos (show 0 ≤ find B (cu_at C i).f2 ∧ true = true from ⟨hf, rfl⟩), decide_eq_true hf]
         by_cases ht : ftime A B (cu_at C i) < 0
         ·rw [if_pos (by unfold mx; split <;> omega), decide_eq_false (by omega)]; rfl
         ·rw [if_neg (by unfold mx; split <;> omega), decide_eq_true (by omega)]
          exact nx
        ·rw [if_neg (show ¬ (0 ≤ find B (cu_at C i).f2 ∧ true = true) from fun x => hf x.1), if_pos (by omega), decide_eq_false hf]; rfl
    exact loop C.length k 0 (by omega) (by omega) (by omega)
end Go.Proofs.Ytnlbaflbhicooaa.F
namespace Go.Proofs.Ytnlbaflbhicooaa.F
open Go.RowKit Go.Proofs.YtnlbaflbhicooaaW.PrintWords Go.Proofs.YtnlbaflbhicooaaW.PrintLast Go.Proofs.YtnlbaflbhicooaaW.PrintMore
set_option linter.unusedVariables false
set_option linter.unusedSimpArgs false
theorem main_FnExactIsShow (A : List S108) (B : List S92) (C : List S43) (hA : A.length ≤ 1000000) (hB : B.length ≤ 1000000) (hC : C.length ≤ 1000000) (hS : ∀ x ∈ B, x.f0.size ≤ 1000000) (_ : ∀ x ∈ C, x.f2.size ≤ 1000000) : ∃ q1, Evt (fun k => spec_IsShow.f k A B C = some q1) ∧ Evt (fun k => impl_IsShow.f k A B C = some q1) :=
 ⟨isShow A B C, ⟨A.length + B.length + C.length + 1000000 + 200, fun k hk => spec_show 1000000 A B C hA hB hC ⟨Nat.le_refl _, hS⟩ k hk⟩, ⟨A.length + B.length + C.length + 1000000 + 200, fun k hk => impl_show 1000000 A B C hA hB hC ⟨Nat.le_refl _, hS⟩ k hk⟩⟩
theorem pure_FnExactIsShow : Pure_FnExactIsShow := by
 intro l0_0 l0_1 l0_2 n0_0 p0_0 n0_1 p0_1 n0_2 p0_2
 obtain ⟨s1, zs1, z1⟩ := sz_Show l0_0 l0_1 l0_2 n0_0 n0_1 (fun x hx => (p0_1 x hx).1) n0_2 (fun x hx => (p0_2 x hx).2.2.1)
 rcases z1 with z1 | ⟨z1, z1b, u0, ⟨u1, v1⟩, u2, v2⟩
 ·obtain ⟨k, hk⟩ := zs1.ex
  exact ⟨k, s1, hk, Or.inl z1⟩
 obtain ⟨L0_0, t0_0, ne0_0, tk0_0, ln0_0, le0_0, rm0_0, jn0_0, fa0_0, ta0_0⟩ := to_BarS l0_0 (by omega)
 have eq0_0 := eq_BarS L0_0 (by omega)
 obtain ⟨L0_1, t0_1, ne0_1, tk0_1, ln0_1, le0_1, rm0_1, jn0_1, fa0_1, ta0_1⟩ := to_ArticleS l0_1 (by omega)
 have eq0_1 := eq_ArticleS L0_1 (by omega)
 obtain ⟨L0_2, t0_2, ne0_2, tk0_2, ln0_2, le0_2, rm0_2, jn0_2, fa0_2, ta0_2⟩ := to_CueS l0_2 (by omega)
 have eq0_2 := eq_CueS L0_2 (by omega)
 have fu0 := full_Show fa0_0 fa0_1 fa0_2
 have to0 := bare_Show ta0_0 ta0_1 ta0_2
 obtain ⟨q1, sp, im⟩ := main_FnExactIsShow (l0_0.map conv_BarS) (l0_1.map conv_ArticleS) (l0_2.map conv_CueS) (by rw [ln0_0]; omega) (by rw [ln0_1]; omega) (by rw [ln0_2]; omega) (fun x hx => by obtain ⟨y, hy, rfl⟩ := List.mem_map.1 hx; exact v1 y hy) (fun x hx => by obtain ⟨y, hy, rfl⟩ := List.mem_map.1 hx; exact v2 y hy)
 obtain ⟨k, hzs1, heq0_0, heq0_1, heq0_2, hfu0, hto0, hsp, him⟩ := (zs1.and (eq0_0.and (eq0_1.and (eq0_2.and (fu0.and (to0.and (sp.and im))))))).ex
 exact ⟨k, ⟨s1, hzs1, Or.inr ⟨z1, ⟨L0_0, _, t0_0, L0_1, _, t0_1, L0_2, _, t0_2, q1, { ne0_0 := ne0_0, tk0_0 := tk0_0, ln0_0 := ln0_0, rm0_0 := rm0_0, jn0_0 := jn0_0, eq0_0 := heq0_0, ne0_1 := ne0_1, tk0_1 := tk0_1, ln0_1 := ln0_1, rm0_1 := rm0_1, jn0_1 := jn0_1, eq0_1 := heq0_1, ne0_2 := ne0_2, tk0_2 := tk0_2, ln0_2 := ln0_2, rm0_2 := rm0_2, jn0_2 := jn0_2, eq0_2 := heq0_2, fu0 := hfu0, to0 := hto0, sp := hsp, im := him }⟩⟩⟩⟩
end Go.Proofs.Ytnlbaflbhicooaa.F
namespace Go.Proofs.Ytnlbaflbhicooaa.fnExactIsShow
open Go.ChangeShapes Go.WideShapes Go.ChangeAt Go.RowKit Go.Proofs.Ytnlbaflbhicooaa.F Go.Proofs.YtnlbaflbhicooaaW.PrintWords
open Go.ChangeMaps (open_string shut_string)
set_option linter.unusedVariables false
theorem own : ownKnob Try.prog.godebug = none := by kernel_rfl
theorem laidOut : laidOutB Try.prog = true := by kernel_rfl
set_option maxRecDepth 100000 in
theorem lifted (os : Os) (started : os.Started) (H : Type) (enc : TypeId × Value → H) :
  ReturnsInHanded {} Try.checked os 6 .any (Rows.fnExactIsShowSpec.pre6 enc Try.prog Try.f6 Rows.fnExactIsShowRow.domain false) (Rows.fnExactIsShowSpec.post enc Try.prog Try.f6 false true false false) := by
 refine returnsInHanded_of_change_sized (C := Try.checked) own started Zj Try.func6
  (ChangeSpec.witness6 (enc := enc) (C := Try.checked) false ⟨#[], #[.agg #[.slice none 0 0, .slice none 0 0, .slice none 0 0]], []⟩ 8 Zj Zj Zj Zj) ?_
 intro W base args ds gs before hval0 hW hcnd hsz0 _
 have hval : ∀ (j : Nat) t v, Try.f6.params[j]? = some t → args[j]? = some v → Value.okWide Try.prog W .any base t v := hval0
 have hW' := hW
 obtain ⟨p, q, hA0, hV, rfl, hfz, hnd⟩ := hW
 have hA : DataW.TrodAll enc Try.prog W 0 (fun _ => true) true Try.f6.params.toList args.toList ds p := hA0
 rw [Try.params6] at hA hval
 obtain ⟨v0, vs0, d0, ds0, p0, q0, hargs, rfl, rfl, h0, r0⟩ := trodAll_cons hA
 obtain ⟨rfl, rfl, rfl⟩ := trodAll_nil r0
 obtain rfl : args = #[v0] := by cases args; simp_all
 obtain ⟨rfl, rfl⟩ := trodVars_none hV
 have k0 := h0
 have lt0 : ∀ x ∈ p0, x.block < W.heap.size := by obtain ⟨m, hm⟩ := k0; exact DataW.trod_lt m _ _ _ hm
 obtain ⟨cs0, rfl, _⟩ := okWide_struct Try.underlying26 (hval 0 26 v0 rfl rfl)
 obtain ⟨A0_0, c0_0, l0_0, A0_1, c0_1, l0_1, A0_2, c0_2, l0_2, rfl, ⟨lc0_0, lm0_0, hC0_0, hP0_0⟩, ⟨lc0_1, lm0_1, hC0_1, hP0_1⟩, ⟨lc0_2, lm0_2, hC0_2, hP0_2⟩⟩ : ∃ (A0_0 : Option Addr) (c0_0 : Nat) (l0_0 : List S110) (A0_1 : Option Addr) (c0_1 : Nat) (l0_1 : List S105) (A0_2 : Option Addr) (c0_2 : Nat) (l0_2 : List S40), cs0 = #[.slice A0_0 l0_0.length c0_0, .slice A0_1 l0_1.length c0_1, .slice A0_2 l0_2.length c0_2] ∧ (l0_0.length ≤ c0_0 ∧ c0_0 ≤ maxLen ∧ Kd.C k110 W A0_0 l0_0.length l0_0 ∧ ∀ x ∈ l0_0, Pr110 x) ∧ (l0_1.length ≤ c0_1 ∧ c0_1 ≤ maxLen ∧ Kd.C k105 W A0_1 l0_1.length l0_1 ∧ ∀ x ∈ l0_1, Pr105 x) ∧ (l0_2.length ≤ c0_2 ∧ c0_2 ≤ maxLen ∧ Kd.C k40 W A0_2 l0_2.length l0_2 ∧ ∀ x ∈ l0_2, Pr40 x) := by
  obtain ⟨fuel, hf⟩ := h0
  obtain ⟨z0_0, y0_0, x0_0, z0_1, y0_1, x0_1, z0_2, y0_2, x0_2, hcs, hp⟩ := open_V26 hf
  simp only [Value.cells] at hcs
  exact ⟨z0_0, y0_0, x0_0, z0_1, y0_1, x0_1, z0_2, y0_2, x0_2, by rw [← hcs], hp⟩
 obtain ⟨k, hk⟩ := pure_FnExactIsShow l0_0 l0_1 l0_2 (by omega) hP0_0 (by omega) hP0_1 (by omega) hP0_2
 refine (law_FnExactIsShow k A0_0 c0_0 l0_0 A0_1 c0_1 l0_1 A0_2 c0_2 l0_2 W hC0_0 lc0_0 hC0_1 lc0_1 hC0_2 lc0_2 hk).mono fun e W' ⟨he, bel⟩ => ?_
 subst he
 exact ⟨_, rfl, _, _, _, [], _, [], hW', trodAll_mk1 (shut_bool Try.underlying4 _), (trodAll_cons_mk (Below.trod laidOut Zj (of_decide_eq_true Zj) k0 bel lt0) trodAll_mk0), rfl, bel.frame _, fun h => by cases h⟩
theorem over : Rows.fnExactIsShowRow.holds Try.pinned (OpenSpec.ofChange Rows.fnExactIsShowSpec) :=
 OpenClaim.holds_of_wide 6 Try.f6 rfl rfl rfl rfl rfl rfl rfl ⟨rfl, rfl, rfl, rfl, rfl⟩ rfl rfl rfl rfl rfl Zj Try.func6 GcFnExactIsShow.closed
  (of_decide_eq_true Zj) (by unfold Func.isWrapper; first | (rw [if_pos (by decide +kernel)]; kernel_rfl) | (rw [if_neg (by decide +kernel)]; exact ⟨rfl, rfl⟩))
  (fun os started H enc _ => lifted os started H enc)
theorem proved : Rows.FnExactIsShowSaid := over
end Go.Proofs.Ytnlbaflbhicooaa.fnExactIsShow
namespace Go.Proofs.Ytnlbaflbhicooaa
theorem fnExactIsShow_holds : Rows.FnExactIsShowSaid := fnExactIsShow.proved
#print axioms fnExactIsShow_holds
end Go.Proofs.Ytnlbaflbhicooaa
