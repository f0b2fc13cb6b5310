import Derived.Test.YtnlbaflbhicooaaJFnExactFiredAt6
import Derived.Below
import Derived.Deep.Draws
import Derived.Deep.AppendLies
import Derived.Maps.AppendAt
import Derived.OwnWalk
import Derived.Laws.BytesArg
import Derived.Laws.MakeOwn
import Derived.Laws.OwnMore
import Derived.Deep.OwnRows
import Derived.Tactics
import Derived.Lib.ConvBytes
import Derived.Laws.Slices
import Derived.WalkKit
import Derived.KernelRfl
import Derived.RowKit3
import Derived.Deep.LoopGhost
import Derived.Deep.QuietTactic
import Derived.BigQuiet
import Derived.WideLaws
import Derived.Deep.DeepCutAuto
import Derived.Deep.CutBlock
import Derived.Deep.RegionHeld3
import Derived.Laws.Rows
import Derived.Lib.AppendStr
import Derived.ArgAppend
import Derived.Laws.IdiomCopy
import Derived.RowKit
import Derived.OrdersHeld
import Derived.Laws.BitsLemmas
import Derived.Laws.StructEq
import Derived.Test.YtnlbaflbhicooaaProg
import Derived.ChangeSlices
import Derived.OpenShut
import Derived.Laws.Cover1
import Derived.Test.YtnlbaflbhicooaaRows
import Derived.Test.YtnlbaflbhicooaaGcFnExactFiredAt
import Derived.ProofKit
import Derived.ShutString
import Derived.ChangeOld
import Derived.SizedLaws
namespace Go.Proofs.Ytnlbaflbhicooaa.F
open Go.RowKit Go.Proofs.YtnlbaflbhicooaaW.PrintWords Go.Proofs.YtnlbaflbhicooaaW.PrintLast Go.Proofs.YtnlbaflbhicooaaW.PrintMore
set_option linter.unusedVariables false
set_option linter.unusedSimpArgs false
def fts (A : List S108) (B : List S92) (C : List S43) : List Int := C.map (ftime A B)
theorem fts_len (A : List S108) (B : List S92) (C : List S43) : (fts A B C).length = C.length := by unfold fts; rw [List.length_map]
theorem cu_get {C : List S43} {i : Nat} (hi : i < C.length) : cu_at C i = C[i] := by
 unfold cu_at
 rw [List.getD_eq_getElem?_getD, List.getElem?_eq_getElem hi]; rfl
theorem times_go {A : List S108} {B : List S92} {C : List S43} (h : isShow A B C = true) : ∀ d k i, C.length - i = d → i ≤ C.length → d + 110 ≤ k → spec_l08Times.l0 k ((C.take i).map (ftime A B)) (i : Int) A B C = some (fts A B C) ∧ impl_fireTimes.l0 k ((C.take i).map (ftime A B)) C (C.length : Int) (i : Int) A B C = some (fts A B C) := by
 obtain ⟨hA, hB, hC, hc⟩ := isShow_true h
 intro d
 induction d with
 | zero =>
  intro k i hd hi hk
  obtain ⟨k, rfl⟩ : ∃ m, k = m + 1 := ⟨k - 1, by omega⟩
  simp only [spec_l08Times.l0, impl_fireTimes.l0]
  rw [if_neg (by omega), if_neg (by omega), List.take_of_length_le (by omega)]
  exact ⟨rfl, rfl⟩
 | succ d ih =>
  intro k i hd hi hk
  obtain ⟨k, rfl⟩ : ∃ m, k = m + 1 := ⟨k - 1, by omega⟩
  obtain ⟨a, b⟩ := ih k (i + 1) (by omega) (by omega) (by omega)
  obtain ⟨h1, h2, h3, h4⟩ := cueOk_true (hc i (by omega))
  rw [List.take_succ_eq_append_getElem (show i < C.length by omega), List.map_append, ← cu_get (show i < C.length by omega)] at a b
  have hl : ((C.take i).map (ftime A B)).length < 17592186044416 := by rw [List.length_map, List.length_take]; omega
  have e : mx (-1) (ftime A B (cu_at C i)) = ftime A B (cu_at C i) := by unfold mx; rw [if_pos (by omega)]
  have g1 : (i : Int) < (C.length : Int) := by omega
  have g2 : 0 ≤ (i : Int) := by omega
  simp only [spec_l08Times.l0, impl_fireTimes.l0, if_pos g1, if_pos g2, rd_cue, spec_ftime hA hB C h2 h1 k (by omega), impl_ftime hA hB C (cu_at C i) k (by omega), Option.bind_some, if_pos hl]
  rw [if_pos (show 0 ≤ find B (cu_at C i).f2 ∧ hasBeat A (cu_at C i).f0 (cu_at C i).f1 = true from ⟨h2, h1⟩), e, w64 (n := (i : Int) + 1) (by omega)]
  exact ⟨a, b⟩
theorem times_ok {A : List S108} {B : List S92} {C : List S43} (h : isShow A B C = true) (k : Nat) (hk : 200 ≤ k) : spec_l08Times.f k A B C = some (fts A B C) ∧ impl_fireTimes.f k A B C = some (fts A B C) := by
 have hC := (isShow_true h).2.2.1
 exact times_go h C.length k 0 (by omega) (by omega) (by omega)
end Go.Proofs.Ytnlbaflbhicooaa.F
namespace Go.Proofs.Ytnlbaflbhicooaa.F
open Go.RowKit Go.Proofs.YtnlbaflbhicooaaW.PrintWords Go.Proofs.YtnlbaflbhicooaaW.PrintLast Go.Proofs.YtnlbaflbhicooaaW.PrintMore
set_option linter.unusedVariables false
set_option linter.unusedSimpArgs false
def idxF (p : Nat → Bool) : Nat → Nat → List Int
 | _, 0 => []
 | i, d + 1 => (if p i = true then [(i : Int)] else []) ++ idxF p (i + 1) d
theorem idxF_len (p : Nat → Bool) : ∀ d i, (idxF p i d).length ≤ d
 | 0, _ => Nat.le_refl _
 | d + 1, i => by
  have := idxF_len p d (i + 1)
  unfold idxF
  rw [List.length_append]
  split
  ·rw [List.length_singleton]; omega
  ·rw [List.length_nil]; omega
theorem idx_loop {β : Type} {f : Nat → List Int → Nat → Option β} {p : Nat → Bool} {e : List Int → Option β} (n K : Nat) (hs : ∀ k X i, K ≤ k → i < n → X.length ≤ i → f (k + 1) X i = if p i = true then f k (X ++ [(i : Int)]) (i + 1) else f k X (i + 1)) (he : ∀ k X, f (k + 1) X n = e X) :
  ∀ d k i X, n - i = d → i ≤ n → X.length ≤ i → d + K < k → f k X i = e (X ++ idxF p i d) := by
 intro d
 induction d with
 | zero =>
  intro k i X hd hi hX hk
  obtain ⟨k, rfl⟩ : ∃ m, k = m + 1 := ⟨k - 1, by omega⟩
  have e0 : i = n := by omega
  subst e0
  rw [he]
  unfold idxF
  rw [List.append_nil]
 | succ d ih =>
  intro k i X hd hi hX hk
  obtain ⟨k, rfl⟩ : ∃ m, k = m + 1 := ⟨k - 1, by omega⟩
  rw [hs k X i (by omega) (by omega) hX]
  unfold idxF
  by_cases c : p i = true
  ·rw [if_pos c, if_pos c, ih k (i + 1) _ (by omega) (by omega) (by rw [List.length_append, List.length_singleton]; omega) (by omega), List.append_assoc]
  ·rw [if_neg c, if_neg c, ih k (i + 1) _ (by omega) (by omega) (by omega) (by omega), List.nil_append]
def Frame (n0 : Nat) (A : List S108) (B : List S92) (C : List S43) : Prop := A.length ≤ 1000000 ∧ B.length ≤ 1000000 ∧ C.length ≤ 1000000 ∧ Small n0 B
theorem ss_ok {n0 : Nat} {A : List S108} {B : List S92} {C : List S43} (h : Frame n0 A B C) (k : Nat) (hk : 4000200 ≤ k) : spec_IsShow.f k A B C = some (isShow A B C) := spec_show n0 A B C h.1 h.2.1 h.2.2.1 h.2.2.2 k (by have := h.1; have := h.2.1; have := h.2.2.1; have := h.2.2.2.1; omega)
theorem si_ok {n0 : Nat} {A : List S108} {B : List S92} {C : List S43} (h : Frame n0 A B C) (k : Nat) (hk : 4000200 ≤ k) : impl_IsShow.f k A B C = some (isShow A B C) := impl_show n0 A B C h.1 h.2.1 h.2.2.1 h.2.2.2 k (by have := h.1; have := h.2.1; have := h.2.2.1; have := h.2.2.2.1; omega)
end Go.Proofs.Ytnlbaflbhicooaa.F
namespace Go.Proofs.Ytnlbaflbhicooaa.F
open Go.RowKit Go.Proofs.YtnlbaflbhicooaaW.PrintWords Go.Proofs.YtnlbaflbhicooaaW.PrintLast Go.Proofs.YtnlbaflbhicooaaW.PrintMore
set_option linter.unusedVariables false
set_option linter.unusedSimpArgs false
theorem Ti_impl (a : Int) : impl_isTime.f a = some (inB a 0 10000000) := by
 unfold impl_isTime.f
 simp only [Wi_eq, Option.bind_some]
theorem Ti_spec (a : Int) : spec_l01IsTime.f a = some (inB a 0 10000000) := by
 unfold spec_l01IsTime.f
 simp only [In_eq, Option.bind_some]
end Go.Proofs.Ytnlbaflbhicooaa.F
namespace Go.Proofs.Ytnlbaflbhicooaa.F
open Go.RowKit Go.Proofs.YtnlbaflbhicooaaW.PrintWords Go.Proofs.YtnlbaflbhicooaaW.PrintLast Go.Proofs.YtnlbaflbhicooaaW.PrintMore
set_option linter.unusedVariables false
set_option linter.unusedSimpArgs false
def firedP (T : List Int) (t : Int) (i : Nat) : Bool := decide (rd T (i : Int) = t)
def firedR (A : List S108) (B : List S92) (C : List S43) (t : Int) : List Int × Int := if isShow A B C = true then (if inB t 0 10000000 = true then (idxF (firedP (fts A B C) t) 0 C.length, 0) else ([], 2)) else ([], 1)
theorem fired_ok (n0 : Nat) {A : List S108} {B : List S92} {C : List S43} (hF : Frame n0 A B C) (t : Int) (k : Nat) (hk : 4000300 ≤ k) : spec_FiredAt.f k A B C t = some (firedR A B C t) ∧ impl_FiredAt.f k A B C t = some (firedR A B C t) := by
 unfold spec_FiredAt.f impl_FiredAt.f firedR
 rw [ss_ok hF k (by omega), si_ok hF k (by omega)]
 simp only [Option.bind_some, Ti_spec, Ti_impl]
 cases h : isShow A B C with
 | false => exact ⟨rfl, rfl⟩
 | true =>
  simp only [if_true]
  cases g : inB t 0 10000000 with
  | false => exact ⟨rfl, rfl⟩
  | true =>
   simp only [if_true]
   have gt := inB_true.1 g
   have hC := (isShow_true h).2.2.1
   have hl := fts_len A B C
   rw [(times_ok h k (by omega)).1, (times_ok h k (by omega)).2, w64 (n := t + 1) (by omega), ← hl]
   simp only [Option.bind_some]
   generalize fts A B C = T at hl ⊢
   constructor
   ·have e : spec_l08Between.f k T t (t + 1) = some ([] ++ idxF (firedP T t) 0 T.length) := by
     refine idx_loop (f := fun k X i => spec_l08Between.l0 k T t (t + 1) X (i : Int)) (p := firedP T t) (e := fun X => some X) T.length 1 (fun k X i hk hi hX => ?_) (fun k X => ?_) T.length k 0 [] (by omega) (by omega) (by simp) (by omega)
     ·show spec_l08Between.l0 (k + 1) T t (t + 1) X (i : Int) = _
      simp only [spec_l08Between.l0]
      rw [if_pos (by omega), if_pos (by omega), w64 (n := (i : Int) + 1) (by omega), if_pos (show X.length < 17592186044416 by omega)]
      unfold firedP
      by_cases c : rd T (i : Int) = t
      ·rw [if_pos (show rd T (i : Int) ≥ t by omega), if_pos (show rd T (i : Int) < t + 1 by omega), if_pos (decide_eq_true c)]; rfl
      ·rw [if_neg (show ¬ decide (rd T (i : Int) = t) = true by rw [decide_eq_false c]; decide)]
       by_cases c2 : rd T (i : Int) ≥ t
       ·rw [if_pos c2, if_neg (by omega)]; rfl
       ·rw [if_neg c2]; rfl
     ·show spec_l08Between.l0 (k + 1) T t (t + 1) X (T.length : Int) = _
      simp only [spec_l08Between.l0]
      rw [if_neg (by omega)]
    rw [e]; rfl
   ·refine idx_loop (f := fun k X i => impl_FiredAt.l0 k t X T (T.length : Int) (i : Int)) (p := firedP T t) (e := fun X => some (X, 0)) T.length 1 (fun k X i hk hi hX => ?_) (fun k X => ?_) T.length k 0 [] (by omega) (by omega) (by simp) (by omega)
    ·show impl_FiredAt.l0 (k + 1) t X T (T.length : Int) (i : Int) = _
     simp only [impl_FiredAt.l0]
     rw [if_pos (by omega), if_pos (by omega), if_pos (by omega), w64 (n := (i : Int) + 1) (by omega), if_pos (show X.length < 17592186044416 by omega)]
     unfold firedP
     by_cases c : rd T (i : Int) = t
     ·rw [if_pos c, if_pos (decide_eq_true c)]; rfl
     ·rw [if_neg c, if_neg (by rw [decide_eq_false c]; decide)]; rfl
    ·show impl_FiredAt.l0 (k + 1) t X T (T.length : Int) (T.length : Int) = _
     simp only [impl_FiredAt.l0]
     rw [if_neg (by omega)]
theorem firedR_len {A : List S108} {B : List S92} {C : List S43} {t : Int} (hC : C.length ≤ 1000000) : (firedR A B C t).1.length ≤ 3000000 := by
 unfold firedR
 split
 ·split
  ·have := idxF_len (firedP (fts A B C) t) C.length 0
   show (idxF (firedP (fts A B C) t) 0 C.length).length ≤ _
   omega
  ·simp
 ·simp
end Go.Proofs.Ytnlbaflbhicooaa.F
namespace Go.Proofs.Ytnlbaflbhicooaa.F
open Go.RowKit Go.Proofs.YtnlbaflbhicooaaW.PrintWords Go.Proofs.YtnlbaflbhicooaaW.PrintLast Go.Proofs.YtnlbaflbhicooaaW.PrintMore
set_option linter.unusedVariables false
set_option linter.unusedSimpArgs false
theorem main_FnExactFiredAt (A : List S108) (B : List S92) (C : List S43) (s : Int) (hA : A.length ≤ 1000000) (hB : B.length ≤ 1000000) (hC : C.length ≤ 1000000) (hS : ∀ x ∈ B, x.f0.size ≤ 1000000) (_ : ∀ x ∈ C, x.f2.size ≤ 1000000) (_ : I64 s) : ∃ q1 q2, q1.length ≤ 3000000 ∧ Evt (fun k => spec_FiredAt.f k A B C s = some (q1, q2)) ∧ Evt (fun k => impl_FiredAt.f k A B C s = some (q1, q2)) :=
 ⟨(firedR A B C s).1, (firedR A B C s).2, firedR_len hC, ⟨4000300, fun k hk => (fired_ok 1000000 ⟨hA, hB, hC, Nat.le_refl _, hS⟩ s k hk).1⟩, ⟨4000300, fun k hk => (fired_ok 1000000 ⟨hA, hB, hC, Nat.le_refl _, hS⟩ s k hk).2⟩⟩
theorem pure_FnExactFiredAt : Pure_FnExactFiredAt := by
 intro l0_0 l0_1 l0_2 a1 n0_0 p0_0 n0_1 p0_1 n0_2 p0_2 b1
 obtain ⟨s1, zs1, z1⟩ := sz_Show l0_0 l0_1 l0_2 n0_0 n0_1 (fun x hx => (p0_1 x hx).1) n0_2 (fun x hx => (p0_2 x hx).2.2.1)
 rcases z1 with z1 | ⟨z1, z1b, u0, ⟨u1, v1⟩, u2, v2⟩
 ·obtain ⟨k, hk⟩ := zs1.ex
  exact ⟨k, s1, hk, Or.inl z1⟩
 obtain ⟨L0_0, t0_0, ne0_0, tk0_0, ln0_0, le0_0, rm0_0, jn0_0, fa0_0, ta0_0⟩ := to_BarS l0_0 (by omega)
 have eq0_0 := eq_BarS L0_0 (by omega)
 obtain ⟨L0_1, t0_1, ne0_1, tk0_1, ln0_1, le0_1, rm0_1, jn0_1, fa0_1, ta0_1⟩ := to_ArticleS l0_1 (by omega)
 have eq0_1 := eq_ArticleS L0_1 (by omega)
 obtain ⟨L0_2, t0_2, ne0_2, tk0_2, ln0_2, le0_2, rm0_2, jn0_2, fa0_2, ta0_2⟩ := to_CueS l0_2 (by omega)
 have eq0_2 := eq_CueS L0_2 (by omega)
 have fu0 := full_Show fa0_0 fa0_1 fa0_2
 have to0 := bare_Show ta0_0 ta0_1 ta0_2
 obtain ⟨q1, q2, ql, sp, im⟩ := main_FnExactFiredAt (l0_0.map conv_BarS) (l0_1.map conv_ArticleS) (l0_2.map conv_CueS) a1 (by rw [ln0_0]; omega) (by rw [ln0_1]; omega) (by rw [ln0_2]; omega) (fun x hx => by obtain ⟨y, hy, rfl⟩ := List.mem_map.1 hx; exact v1 y hy) (fun x hx => by obtain ⟨y, hy, rfl⟩ := List.mem_map.1 hx; exact v2 y hy) b1
 have er := eq_Int64S q1 (by omega)
 have mk1 := mark_Show (l0_0.map conv_BarS) (l0_1.map conv_ArticleS) (l0_2.map conv_CueS) (101) (by omega) (by omega) (by omega) (by omega) (by omega)
 have mg := mark_Int64S q1 101 (by omega) (by omega) (by omega)
 have hd := held_Int64S q1.length 101 (by omega) (by omega) (by omega)
 obtain ⟨k, hzs1, heq0_0, heq0_1, heq0_2, hfu0, hto0, hsp, him, her, hmk1, hmg, hhd⟩ := (zs1.and (eq0_0.and (eq0_1.and (eq0_2.and (fu0.and (to0.and (sp.and (im.and (er.and (mk1.and (mg.and hd))))))))))).ex
 exact ⟨k, ⟨s1, hzs1, Or.inr ⟨z1, ⟨L0_0, _, t0_0, L0_1, _, t0_1, L0_2, _, t0_2, q1, q2, _, _, _, _, _, _, { ne0_0 := ne0_0, tk0_0 := tk0_0, ln0_0 := ln0_0, rm0_0 := rm0_0, jn0_0 := jn0_0, eq0_0 := heq0_0, ne0_1 := ne0_1, tk0_1 := tk0_1, ln0_1 := ln0_1, rm0_1 := rm0_1, jn0_1 := jn0_1, eq0_1 := heq0_1, ne0_2 := ne0_2, tk0_2 := tk0_2, ln0_2 := ln0_2, rm0_2 := rm0_2, jn0_2 := jn0_2, eq0_2 := heq0_2, fu0 := hfu0, to0 := hto0, sp := hsp, im := him, er := her, mk1 := hmk1, mk10 := (by omega), mg := hmg, mg0 := (by omega), hd := hhd, hl := seq_Int64S_len _ _ }⟩⟩⟩⟩
end Go.Proofs.Ytnlbaflbhicooaa.F
namespace Go.Proofs.Ytnlbaflbhicooaa.fnExactFiredAt
open Go.ChangeShapes Go.WideShapes Go.ChangeAt Go.RowKit Go.Proofs.Ytnlbaflbhicooaa.F Go.Proofs.YtnlbaflbhicooaaW.PrintWords
open Go.ChangeMaps (open_string shut_string)
set_option linter.unusedVariables false
theorem own : ownKnob Try.prog.godebug = none := by kernel_rfl
theorem laidOut : laidOutB Try.prog = true := by kernel_rfl
set_option maxRecDepth 100000 in
theorem lifted (os : Os) (started : os.Started) (H : Type) (enc : TypeId × Value → H) :
  ReturnsInHanded {} Try.checked os 16 .any (Rows.fnExactFiredAtSpec.pre6 enc Try.prog Try.f16 Rows.fnExactFiredAtRow.domain false) (Rows.fnExactFiredAtSpec.post enc Try.prog Try.f16 false true false false) := by
 refine returnsInHanded_of_change_sized (C := Try.checked) own started Zj Try.func16
  (ChangeSpec.witness6 (enc := enc) (C := Try.checked) false ⟨#[], #[.agg #[.slice none 0 0, .slice none 0 0, .slice none 0 0], .int .i64 0], []⟩ 8 Zj Zj Zj Zj) ?_
 intro W base args ds gs before hval0 hW hcnd hsz0 _
 have hval : ∀ (j : Nat) t v, Try.f16.params[j]? = some t → args[j]? = some v → Value.okWide Try.prog W .any base t v := hval0
 have hW' := hW
 obtain ⟨p, q, hA0, hV, rfl, hfz, hnd⟩ := hW
 have hA : DataW.TrodAll enc Try.prog W 0 (fun _ => true) true Try.f16.params.toList args.toList ds p := hA0
 rw [Try.params16] at hA hval
 obtain ⟨v0, vs0, d0, ds0, p0, q0, hargs, rfl, rfl, h0, r0⟩ := trodAll_cons hA
 obtain ⟨v1, vs1, d1, ds1, p1, q1, rfl, rfl, rfl, h1, r1⟩ := trodAll_cons r0
 obtain ⟨rfl, rfl, rfl⟩ := trodAll_nil r1
 obtain rfl : args = #[v0, v1] := by cases args; simp_all
 obtain ⟨rfl, rfl⟩ := trodVars_none hV
 have k0 := h0
 have lt0 : ∀ x ∈ p0, x.block < W.heap.size := by obtain ⟨m, hm⟩ := k0; exact DataW.trod_lt m _ _ _ hm
 obtain ⟨cs0, rfl, _⟩ := okWide_struct Try.underlying26 (hval 0 26 v0 rfl rfl)
 obtain ⟨A0_0, c0_0, l0_0, A0_1, c0_1, l0_1, A0_2, c0_2, l0_2, rfl, ⟨lc0_0, lm0_0, hC0_0, hP0_0⟩, ⟨lc0_1, lm0_1, hC0_1, hP0_1⟩, ⟨lc0_2, lm0_2, hC0_2, hP0_2⟩⟩ : ∃ (A0_0 : Option Addr) (c0_0 : Nat) (l0_0 : List S110) (A0_1 : Option Addr) (c0_1 : Nat) (l0_1 : List S105) (A0_2 : Option Addr) (c0_2 : Nat) (l0_2 : List S40), cs0 = #[.slice A0_0 l0_0.length c0_0, .slice A0_1 l0_1.length c0_1, .slice A0_2 l0_2.length c0_2] ∧ (l0_0.length ≤ c0_0 ∧ c0_0 ≤ maxLen ∧ Kd.C k110 W A0_0 l0_0.length l0_0 ∧ ∀ x ∈ l0_0, Pr110 x) ∧ (l0_1.length ≤ c0_1 ∧ c0_1 ≤ maxLen ∧ Kd.C k105 W A0_1 l0_1.length l0_1 ∧ ∀ x ∈ l0_1, Pr105 x) ∧ (l0_2.length ≤ c0_2 ∧ c0_2 ≤ maxLen ∧ Kd.C k40 W A0_2 l0_2.length l0_2 ∧ ∀ x ∈ l0_2, Pr40 x) := by
  obtain ⟨fuel, hf⟩ := h0
  obtain ⟨z0_0, y0_0, x0_0, z0_1, y0_1, x0_1, z0_2, y0_2, x0_2, hcs, hp⟩ := open_V26 hf
  simp only [Value.cells] at hcs
  exact ⟨z0_0, y0_0, x0_0, z0_1, y0_1, x0_1, z0_2, y0_2, x0_2, by rw [← hcs], hp⟩
 obtain ⟨a1, rfl, rfl, rfl, w1⟩ := open_int Try.underlying2 (hval 1 2 v1 rfl rfl) h1
 obtain ⟨k, hk⟩ := pure_FnExactFiredAt l0_0 l0_1 l0_2 a1 (by omega) hP0_0 (by omega) hP0_1 (by omega) hP0_2 (I64_of w1)
 refine (law_FnExactFiredAt k A0_0 c0_0 l0_0 A0_1 c0_1 l0_1 A0_2 c0_2 l0_2 a1 W hC0_0 lc0_0 hC0_1 lc0_1 hC0_2 lc0_2 hk).mono fun e W' ⟨he, bel⟩ => ?_
 subst he
 exact ⟨_, rfl, _, _, _, [], _, [], hW', trodAll_mk1 (shut_bool Try.underlying4 _), (trodAll_cons_mk (Below.trod laidOut Zj (of_decide_eq_true Zj) k0 bel lt0) (trodAll_cons_mk (shut_int Try.underlying2 w1) trodAll_mk0)), rfl, bel.frame _, fun h => by cases h⟩
theorem over : Rows.fnExactFiredAtRow.holds Try.pinned (OpenSpec.ofChange Rows.fnExactFiredAtSpec) :=
 OpenClaim.holds_of_wide 16 Try.f16 rfl rfl rfl rfl rfl rfl rfl ⟨rfl, rfl, rfl, rfl, rfl⟩ rfl rfl rfl rfl rfl Zj Try.func16 GcFnExactFiredAt.closed
  (of_decide_eq_true Zj) (by unfold Func.isWrapper; first | (rw [if_pos (by decide +kernel)]; kernel_rfl) | (rw [if_neg (by decide +kernel)]; exact ⟨rfl, rfl⟩))
  (fun os started H enc _ => lifted os started H enc)
theorem proved : Rows.FnExactFiredAtSaid := over
end Go.Proofs.Ytnlbaflbhicooaa.fnExactFiredAt
namespace Go.Proofs.Ytnlbaflbhicooaa
theorem fnExactFiredAt_holds : Rows.FnExactFiredAtSaid := fnExactFiredAt.proved
#print axioms fnExactFiredAt_holds
end Go.Proofs.Ytnlbaflbhicooaa
