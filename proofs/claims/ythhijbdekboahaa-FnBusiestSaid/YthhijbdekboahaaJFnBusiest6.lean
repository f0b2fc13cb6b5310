import Derived.Test.YthhijbdekboahaaJFnBusiest5
import Derived.Below
import Derived.Deep.Draws
import Derived.Deep.AppendLies
import Derived.Maps.AppendAt
import Derived.OwnWalk
import Derived.Laws.BytesArg
import Derived.Laws.MakeOwn
import Derived.Laws.OwnMore
import Derived.Tactics
import Derived.Lib.ConvBytes
import Derived.Laws.Slices
import Derived.WalkKit
import Derived.KernelRfl
import Derived.RowKit3
import Derived.Deep.LoopGhost
import Derived.Deep.QuietTactic
import Derived.BigQuiet
import Derived.WideLaws
import Derived.Deep.DeepCutAuto
import Derived.Deep.CutBlock
import Derived.Deep.RegionHeld3
import Derived.Lib.AppendStr
import Derived.ArgAppend
import Derived.Laws.IdiomCopy
import Derived.RowKit
import Derived.OrdersHeld
import Derived.Laws.BitsLemmas
import Derived.Laws.StructEq
import Derived.Test.YthhijbdekboahaaProg
import Derived.Laws.Cover1
namespace Go.Proofs.Ythhijbdekboahaa.F
open Go.RowKit Go.Proofs.YthhijbdekboahaaW.PrintWords Go.Proofs.YthhijbdekboahaaW.PrintLast Go.Proofs.YthhijbdekboahaaW.PrintMore
set_option linter.unusedVariables false
set_option linter.unusedSimpArgs false
theorem has_int_s (X : List Int) (hX : X.length ≤ 4000000) (a : Int) (k : Nat) (hk : X.length < k) : laws_hasInt.f k X a = some (decide (a ∈ X)) := by
 have loop : ∀ d i k, X.length - i = d → i ≤ X.length → d < k → laws_hasInt.l0 k X a (i : Int) = some (decide (a ∈ X.drop i)) := by
  intro d
  induction d with
  | zero =>
   intro i k hd hi hk; obtain ⟨k, rfl⟩ : ∃ m, k = m + 1 := ⟨k - 1, by omega⟩; simp only [laws_hasInt.l0]; rw [if_neg (by omega), List.drop_eq_nil_of_le (by omega)]
   rfl
  | succ d ih =>
   intro i k hd hi hk; obtain ⟨k, rfl⟩ : ∃ m, k = m + 1 := ⟨k - 1, by omega⟩
   have hlt : i < X.length := by omega
   have e : X.drop i = rd X (i : Int) :: X.drop (i + 1) := by
    rw [List.drop_eq_getElem_cons hlt]
    unfold rd
    rw [Int.toNat_natCast, List.getD_eq_getElem?_getD, List.getElem?_eq_getElem hlt]
    rfl
   simp only [laws_hasInt.l0]; rw [if_pos (by omega), if_pos (by omega), w64 (n := (i : Int) + 1) (by omega), e]
   by_cases c : rd X (i : Int) = a
   ·rw [if_pos c, decide_eq_true (List.mem_cons.2 (.inl c.symm))]
   ·rw [if_neg c]
    refine (ih (i + 1) k (by omega) (by omega) (by omega)).trans ?_
    congr 1
    rw [Bool.eq_iff_iff, decide_eq_true_iff, decide_eq_true_iff, List.mem_cons]; exact ⟨fun x => .inr x, fun x => x.elim (fun y => absurd y.symm c) id⟩
 unfold laws_hasInt.f
 exact loop X.length 0 k (by omega) (by omega) hk
theorem like_ints_s (X : List Int) (hX : X.length ≤ 4000000) (k : Nat) (hk : X.length < k) : laws_likeInts.f k X X = some true := by
 have loop : ∀ d i k, X.length - i = d → i ≤ X.length → d < k → laws_likeInts.l0 k X X (i : Int) = some true := by
  intro d
  induction d with
  | zero =>
   intro i k hd hi hk; obtain ⟨k, rfl⟩ : ∃ m, k = m + 1 := ⟨k - 1, by omega⟩; simp only [laws_likeInts.l0]; rw [if_neg (by omega)]
  | succ d ih =>
   intro i k hd hi hk; obtain ⟨k, rfl⟩ : ∃ m, k = m + 1 := ⟨k - 1, by omega⟩; simp only [laws_likeInts.l0]; rw [if_pos (by omega), if_pos (by omega), if_pos (by omega), if_pos trivial, w64 (by omega)]; exact ih (i + 1) k (by omega) (by omega) (by omega)
 unfold laws_likeInts.f
 rw [if_pos rfl]; exact loop X.length 0 k (by omega) (by omega) hk
theorem rds_eq (E : List Int) (v : Nat) (x : Int) (h : v < E.length) : rd (E.set v x) (v : Int) = x := by
 unfold rd
 rw [Int.toNat_natCast, getD_set _ _ _ _ h]
theorem rds_ne (E : List Int) (v u : Nat) (x : Int) (h : u ≠ v) : rd (E.set v x) (u : Int) = rd E (u : Int) := by
 unfold rd
 rw [Int.toNat_natCast, List.getD_eq_getElem?_getD, List.getD_eq_getElem?_getD, List.getElem?_set_ne (by omega)]
def Same (T S : List Int) : Prop := S.length = T.length ∧ (∀ i : Nat, i < T.length → ∃ j : Nat, j < T.length ∧ rd S (j : Int) = rd T (i : Int)) ∧ ∀ j : Nat, j < T.length → ∃ i : Nat, i < T.length ∧ rd T (i : Int) = rd S (j : Int)
theorem swap_rd (S : List Int) (j : Nat) (h0 : 0 < j) (hj : j < S.length) (p : Nat) : rd ((S.set j (rd S ((j - 1 : Nat) : Int))).set (j - 1) (rd S (j : Int))) (p : Int) = if p = j then rd S ((j - 1 : Nat) : Int) else if p = j - 1 then rd S (j : Int) else rd S (p : Int) := by
 by_cases c : p = j
 ·subst c
  rw [if_pos rfl, rds_ne _ _ _ _ (by omega), rds_eq _ _ _ hj]
 ·rw [if_neg c]
  by_cases c2 : p = j - 1
  ·rw [if_pos c2, c2, rds_eq _ _ _ (by rw [List.length_set]; omega)]
  ·rw [if_neg c2, rds_ne _ _ _ _ c2, rds_ne _ _ _ _ c]
theorem same_swap {T S : List Int} (h : Same T S) (j : Nat) (h0 : 0 < j) (hj : j < T.length) : Same T ((S.set j (rd S ((j - 1 : Nat) : Int))).set (j - 1) (rd S (j : Int))) := by
 obtain ⟨hl, h1, h2⟩ := h; have sw := swap_rd S j h0 (by omega); refine ⟨by rw [List.length_set, List.length_set]; exact hl, fun i hi => ?_, fun p hp => ?_⟩
 ·obtain ⟨q, q1, q2⟩ := h1 i hi
  by_cases c : q = j
  ·refine ⟨j - 1, by omega, ?_⟩
   rw [sw, if_neg (by omega), if_pos rfl, ← q2, c]
  ·by_cases c2 : q = j - 1
   ·refine ⟨j, hj, ?_⟩
    rw [sw, if_pos rfl, ← q2, c2]
   ·refine ⟨q, q1, ?_⟩
    rw [sw, if_neg c, if_neg c2, q2]
 ·rw [sw]
  by_cases c : p = j
  ·rw [if_pos c]; exact h2 (j - 1) (by omega)
  ·rw [if_neg c]
   by_cases c2 : p = j - 1
   ·rw [if_pos c2]; exact h2 j hj
   ·rw [if_neg c2]; exact h2 p hp
def Ord (S : List Int) (n : Nat) : Prop := ∀ p q : Nat, p < q → q < n → rd S (p : Int) ≤ rd S (q : Int)
def OrdBut (S : List Int) (i j : Nat) : Prop := (∀ p q : Nat, p < q → q ≤ i → p ≠ j → q ≠ j → rd S (p : Int) ≤ rd S (q : Int)) ∧ ∀ q : Nat, j < q → q ≤ i → rd S (j : Int) ≤ rd S (q : Int)
theorem sort_l1 {T : List Int} (hT : T.length ≤ 1000) (i : Nat) (hi : i < T.length) : ∀ (j : Nat) (S : List Int), j ≤ i → Same T S → OrdBut S i j → ∃ S', Same T S' ∧ Ord S' (i + 1) ∧ ∃ c, c ≤ j + 1 ∧ ∀ k, impl_sorted.l1 (k + c) S (j : Int) (T.length : Int) (i : Int) = impl_sorted.l0 k S' (T.length : Int) ((i + 1 : Nat) : Int) := by
 intro j
 induction j with
 | zero =>
  intro S hj hs ho; refine ⟨S, hs, fun p q h1 h2 => ?_, 1, by omega, fun k => ?_⟩
  ·by_cases c : p = 0
   ·subst c; exact ho.2 q h1 (by omega)
   ·exact ho.1 p q h1 (by omega) c (by omega)
  ·simp only [impl_sorted.l1]
   rw [if_neg (by omega), w64 (by omega)]
   rfl
 | succ j ih =>
  intro S hj hs ho; have hl := hs.1
  by_cases c : rd S (j : Int) > rd S ((j + 1 : Nat) : Int)
  ·have sw := swap_rd S (j + 1) (by omega) (by omega)
   rw [Nat.add_sub_cancel] at sw; have hs' := same_swap hs (j + 1) (by omega) (by omega); rw [Nat.add_sub_cancel] at hs'
   obtain ⟨S', s1, s2, n, n1, n2⟩ := ih _ (by omega) hs' ⟨fun p q h1 h2 h3 h4 => by
    rw [sw, sw]
    by_cases cq : q = j + 1
    ·rw [if_neg (show ¬ p = j + 1 by omega), if_neg h3, if_pos cq]
     exact ho.1 p j (by omega) (by omega) (by omega) (by omega)
    ·rw [if_neg cq, if_neg h4]
     by_cases cp : p = j + 1
     ·rw [if_pos cp]
      exact ho.1 j q (by omega) h2 (by omega) cq
     ·rw [if_neg cp, if_neg h3]
      exact ho.1 p q h1 h2 cp cq, fun q h1 h2 => by
    rw [sw, sw]; rw [if_neg (show ¬ j = j + 1 by omega), if_pos rfl]
    by_cases cq : q = j + 1
    ·rw [if_pos cq]; omega
    ·rw [if_neg cq, if_neg (by omega)]
     exact ho.2 q (by omega) h2⟩
   refine ⟨S', s1, s2, n + 1, by omega, fun k => ?_⟩; rw [← n2 k, show k + (n + 1) = (k + n) + 1 by omega]; simp only [impl_sorted.l1]; rw [if_pos (by omega), w64 (n := ((j + 1 : Nat) : Int) - 1) (by omega), show ((j + 1 : Nat) : Int) - 1 = (j : Int) by omega, if_pos (by omega), if_pos (by omega), if_pos (by omega), if_pos (by omega), if_pos c, Int.toNat_natCast, Int.toNat_natCast]
  ·refine ⟨S, hs, fun p q h1 h2 => ?_, 1, by omega, fun k => ?_⟩
   ·by_cases cq : q = j + 1
    ·subst cq
     by_cases cp : p = j
     ·subst cp; omega
     ·have := ho.1 p j (by omega) (by omega) (by omega) (by omega)
      omega
    ·by_cases cp : p = j + 1
     ·subst cp; exact ho.2 q h1 (by omega)
     ·exact ho.1 p q h1 (by omega) cp cq
   ·simp only [impl_sorted.l1]
    rw [if_pos (by omega), w64 (n := ((j + 1 : Nat) : Int) - 1) (by omega), show ((j + 1 : Nat) : Int) - 1 = (j : Int) by omega, if_pos (by omega), if_pos (by omega), if_pos (by omega), if_pos (by omega), if_neg c, w64 (by omega)]
    rfl
theorem sort_l0 {T : List Int} (hT : T.length ≤ 1000) : ∀ (d i : Nat) (S : List Int), T.length - i = d → i ≤ T.length → Same T S → Ord S i → ∃ S', Same T S' ∧ Ord S' T.length ∧ ∃ K, ∀ k, K ≤ k → impl_sorted.l0 k S (T.length : Int) (i : Int) = some S' := by
 intro d
 induction d with
 | zero =>
  intro i S hd hi hs ho
  have e : i = T.length := by omega
  subst e; refine ⟨S, hs, ho, 1, fun k hk => ?_⟩; obtain ⟨k, rfl⟩ : ∃ m, k = m + 1 := ⟨k - 1, by omega⟩; simp only [impl_sorted.l0]; rw [if_neg (by omega)]
 | succ d ih =>
  intro i S hd hi hs ho; obtain ⟨S1, a, b, c, _, e⟩ := sort_l1 hT i (by omega) i S (Nat.le_refl _) hs ⟨fun p q h1 h2 h3 h4 => ho p q h1 (by omega), fun q h1 h2 => absurd h1 (by omega)⟩; obtain ⟨S', s1, s2, K, s3⟩ := ih (i + 1) S1 (by omega) (by omega) a b; refine ⟨S', s1, s2, K + c + 1, fun k hk => ?_⟩; obtain ⟨k, rfl⟩ : ∃ m, k = m + 1 := ⟨k - 1, by omega⟩; simp only [impl_sorted.l0]; rw [if_pos (by omega)]; obtain ⟨k', rfl⟩ : ∃ m, k = m + c := ⟨k - c, by omega⟩; rw [e k']; exact s3 k' (by omega)
theorem sorted_ok {T : List Int} (hT : T.length ≤ 1000) : ∃ S, Same T S ∧ Ord S T.length ∧ Evt (fun k => impl_sorted.f k T = some S) := by
 obtain ⟨S, a, b, K, e⟩ := sort_l0 hT T.length 0 T (by omega) (by omega) ⟨rfl, fun i hi => ⟨i, hi, rfl⟩, fun j hj => ⟨j, hj, rfl⟩⟩ (fun p q h1 h2 => absurd h2 (by omega)); refine ⟨S, a, b, K, fun k hk => ?_⟩; show impl_sorted.f k T = _
 unfold impl_sorted.f impl_copyList.f
 simp only [Option.bind_some, List.nil_append, List.length_nil]; rw [if_pos (by omega)]; exact e k hk
def BestP (C : Int → Int) (S : List Int) (i : Nat) (t n : Int) : Prop := (i = 0 ∧ n = 0 ∧ t = 0) ∨ (1 ≤ n ∧ (∃ j : Nat, j < i ∧ rd S (j : Int) = t ∧ n = C t) ∧ ∀ j : Nat, j < i → C (rd S (j : Int)) ≤ n ∧ (C (rd S (j : Int)) = n → t ≤ rd S (j : Int)))
theorem best_new {C : Int → Int} {S : List Int} {i : Nat} {t n : Int} (h : BestP C S i t n) (hp : 1 ≤ C (rd S (i : Int))) (hn : C (rd S (i : Int)) > n ∨ (C (rd S (i : Int)) = n ∧ rd S (i : Int) < t)) : BestP C S (i + 1) (rd S (i : Int)) (C (rd S (i : Int))) := by
 refine .inr ⟨hp, ⟨i, by omega, rfl, rfl⟩, fun j hj => ?_⟩
 by_cases e : j = i
 ·subst e; exact ⟨Int.le_refl _, fun _ => Int.le_refl _⟩
 ·rcases h with ⟨h1, h2, h3⟩ | ⟨h1, h2, h3⟩
  ·omega
  ·have := h3 j (by omega)
   refine ⟨by omega, fun x => ?_⟩
   rcases hn with y | ⟨y1, y2⟩
   ·omega
   ·have := this.2 (by omega); omega
theorem best_old {C : Int → Int} {S : List Int} {i : Nat} {t n : Int} (h : BestP C S i t n) (hp : 1 ≤ C (rd S (i : Int))) (hn : ¬ C (rd S (i : Int)) > n) (ht : C (rd S (i : Int)) = n → t ≤ rd S (i : Int)) : BestP C S (i + 1) t n := by
 rcases h with ⟨h1, h2, h3⟩ | ⟨h1, ⟨j0, j1, j2⟩, h3⟩
 ·omega
 ·refine .inr ⟨h1, ⟨j0, by omega, j2⟩, fun j hj => ?_⟩
  by_cases e : j = i
  ·subst e; exact ⟨by omega, ht⟩
  ·exact h3 j (by omega)
def cntF (T : List Int) (a b : Int) : Nat → Nat → Int
 | _, 0 => 0
 | i, d + 1 => (if a ≤ rd T (i : Int) ∧ rd T (i : Int) < b then 1 else 0) + cntF T a b (i + 1) d
theorem cntF_le (T : List Int) (a b : Int) : ∀ (d i : Nat), 0 ≤ cntF T a b i d ∧ cntF T a b i d ≤ (d : Int)
 | 0, _ => by unfold cntF; omega
 | d + 1, i => by
  have := cntF_le T a b d (i + 1)
  unfold cntF
  split <;> omega
theorem cntF_pos (T : List Int) (a b : Int) : ∀ (d i j : Nat), i ≤ j → j < i + d → a ≤ rd T (j : Int) → rd T (j : Int) < b → 1 ≤ cntF T a b i d
 | 0, i, j, h1, h2, _, _ => absurd h2 (by omega)
 | d + 1, i, j, h1, h2, h3, h4 => by
  unfold cntF
  have z := cntF_le T a b d (i + 1)
  by_cases c : j = i
  ·subst c
   rw [if_pos ⟨h3, h4⟩]; omega
  ·have := cntF_pos T a b d (i + 1) j (by omega) (by omega) h3 h4
   split <;> omega
def cnt (T : List Int) (s a : Int) : Int := cntF T a (a + s) 0 T.length
theorem between_go (T : List Int) (hT : T.length ≤ 1000) (a b : Int) : ∀ d i k (X : List Int), T.length - i = d → i ≤ T.length → X.length ≤ i → d < k → ∃ Y, spec_l08Between.l0 k T a b X (i : Int) = some Y ∧ (Y.length : Int) = X.length + cntF T a b i d := by
 intro d
 induction d with
 | zero =>
  intro i k X hd hi hX hk; obtain ⟨k, rfl⟩ : ∃ m, k = m + 1 := ⟨k - 1, by omega⟩; refine ⟨X, ?_, by unfold cntF; omega⟩; simp only [spec_l08Between.l0]; rw [if_neg (by omega)]
 | succ d ih =>
  intro i k X hd hi hX hk; obtain ⟨k, rfl⟩ : ∃ m, k = m + 1 := ⟨k - 1, by omega⟩
  by_cases c : a ≤ rd T (i : Int) ∧ rd T (i : Int) < b
  ·obtain ⟨Y, e1, e2⟩ := ih (i + 1) k (X ++ [(i : Int)]) (by omega) (by omega) Zcr (by omega)
   refine ⟨Y, ?_, ?_⟩
   ·simp only [spec_l08Between.l0]
    rw [if_pos (by omega), if_pos (by omega), if_pos c.1, if_pos c.2, if_pos (by omega), w64 (n := (i : Int) + 1) (by omega)]; exact e1
   ·rw [List.length_append, List.length_singleton] at e2
    unfold cntF
    rw [if_pos c]; omega
  ·obtain ⟨Y, e1, e2⟩ := ih (i + 1) k X (by omega) (by omega) (by omega) (by omega)
   refine ⟨Y, ?_, by unfold cntF; rw [if_neg c]; omega⟩; simp only [spec_l08Between.l0]; rw [if_pos (by omega), if_pos (by omega), w64 (n := (i : Int) + 1) (by omega)]
   by_cases c1 : rd T (i : Int) ≥ a
   ·rw [if_pos c1, if_neg (fun x => c ⟨c1, x⟩)]; exact e1
   ·rw [if_neg c1]; exact e1
theorem busy_in (s : Int) (T : List Int) (hT : T.length ≤ 1000) (best most t : Int) (S : List Int) (si : Nat) (hs : si ≤ 1000) (SL : Int) (hb : -100000000 ≤ t + s ∧ t + s ≤ 100000000) : ∀ d i (n : Int), T.length - i = d → i ≤ T.length → (0 ≤ n ∧ n ≤ i) → ∀ k, impl_BusiestTime.l1 (k + (d + 1)) s T best most t n S SL (si : Int) T (T.length : Int) (i : Int) = if n + cntF T t (t + s) i d > most then impl_BusiestTime.l0 k s T t (n + cntF T t (t + s) i d) S SL ((si + 1 : Nat) : Int) else impl_BusiestTime.l0 k s T best most S SL ((si + 1 : Nat) : Int) := by
 intro d
 induction d with
 | zero =>
  intro i n hd hi hn k; simp only [impl_BusiestTime.l1]; rw [if_neg (by omega), w64 (n := (si : Int) + 1) (by omega)]
  unfold cntF
  rw [Int.add_zero]
  rfl
 | succ d ih =>
  intro i n hd hi hn k; have nx := fun m hm => ih (i + 1) m (by omega) (by omega) hm k; rw [show k + (d + 1 + 1) = (k + (d + 1)) + 1 by omega]; obtain ⟨K, hK⟩ : ∃ K, K = k + (d + 1) := ⟨_, rfl⟩; rw [← hK] at nx; rw [← hK]; simp only [impl_BusiestTime.l1]; rw [if_pos (by omega), if_pos (by omega), if_pos (by omega), w64 (n := t + s) (by omega), w64 (n := n + 1) (by omega), w64 (n := (i : Int) + 1) (by omega)]
  unfold cntF
  by_cases c : t ≤ rd T (i : Int) ∧ rd T (i : Int) < t + s
  ·have z := nx (n + 1) (by omega)
   rw [if_pos (show rd T (i : Int) ≥ t from c.1), if_pos c.2, if_pos c, show n + (1 + cntF T t (t + s) (i + 1) d) = n + 1 + cntF T t (t + s) (i + 1) d by omega]; exact z
  ·have z := nx n (by omega)
   rw [if_neg c, show n + (0 + cntF T t (t + s) (i + 1) d) = n + cntF T t (t + s) (i + 1) d by omega]
   by_cases c1 : rd T (i : Int) ≥ t
   ·rw [if_pos c1, if_neg (fun x => c ⟨c1, x⟩)]; exact z
   ·rw [if_neg c1]; exact z
theorem best_unique {C : Int → Int} {T S : List Int} (hS : Same T S) (h0 : 0 < T.length) {t n t' n' : Int} (h : BestP C T T.length t n) (h' : BestP C S T.length t' n') : t' = t ∧ n' = n := by
 obtain ⟨hl, s1, s2⟩ := hS
 rcases h with ⟨a, _, _⟩ | ⟨a, ⟨i, i1, i2, i3⟩, b⟩
 ·omega
 rcases h' with ⟨a', _, _⟩ | ⟨a', ⟨j, j1, j2, j3⟩, b'⟩
 ·omega
 obtain ⟨p, p1, p2⟩ := s2 j j1; obtain ⟨q, q1, q2⟩ := s1 i i1; have e1 := b p p1; have e2 := b' q q1; rw [p2, j2, ← j3] at e1; rw [q2, i2, ← i3] at e2
 have : n' = n := by omega
 exact ⟨by have := e1.2 (by omega); have := e2.2 (by omega); omega, this⟩
theorem spec_busy (s : Int) (hs : 1 ≤ s ∧ s ≤ 10000000) (T : List Int) (hT : T.length ≤ 1000) (hr : ∀ j : Nat, j < T.length → 0 ≤ rd T (j : Int) ∧ rd T (j : Int) ≤ 2000000) : ∀ d i (t n : Int), T.length - i = d → i ≤ T.length → BestP (cnt T s) T i t n → ∃ t' n', BestP (cnt T s) T T.length t' n' ∧ ∀ k, d + T.length + 2 ≤ k → spec_BusiestTime.l0 k s T t n (i : Int) = some (t', n', 0) := by
 intro d
 induction d with
 | zero =>
  intro i t n hd hi hb
  have e : i = T.length := by omega
  subst e; refine ⟨t, n, hb, fun k hk => ?_⟩; obtain ⟨k, rfl⟩ : ∃ m, k = m + 1 := ⟨k - 1, by omega⟩; simp only [spec_BusiestTime.l0]; rw [if_neg (by omega)]
 | succ d ih =>
  intro i t n hd hi hb; have r := hr i (by omega); have hp : 1 ≤ cnt T s (rd T (i : Int)) := cntF_pos T _ _ T.length 0 i (by omega) (by omega) (Int.le_refl _) (by omega)
  have bt : ∀ k, T.length < k → ∃ Y : List Int, spec_l08Between.f k T (rd T (i : Int)) (rd T (i : Int) + s) = some Y ∧ (Y.length : Int) = cnt T s (rd T (i : Int)) := fun k hk => by
   obtain ⟨Y, e1, e2⟩ := between_go T hT (rd T (i : Int)) (rd T (i : Int) + s) T.length 0 k [] (by omega) (by omega) (by simp) hk; refine ⟨Y, e1, by rw [e2]; show ((0 : Nat) : Int) + _ = _; unfold cnt; omega⟩
  by_cases c1 : cnt T s (rd T (i : Int)) > n
  ·obtain ⟨t', n', b', e⟩ := ih (i + 1) (rd T (i : Int)) (cnt T s (rd T (i : Int))) (by omega) (by omega) (best_new hb hp (.inl c1))
   refine ⟨t', n', b', fun k hk => ?_⟩; obtain ⟨k, rfl⟩ : ∃ m, k = m + 1 := ⟨k - 1, by omega⟩; obtain ⟨Y, y1, y2⟩ := bt k (by omega); simp only [spec_BusiestTime.l0]; rw [if_pos (by omega), if_pos (by omega), w64 (n := rd T (i : Int) + s) (by omega), y1]; simp only [Option.bind_some]; rw [y2, if_pos c1, w64 (n := (i : Int) + 1) (by omega)]; exact e k (by omega)
  ·by_cases c2 : cnt T s (rd T (i : Int)) = n ∧ rd T (i : Int) < t
   ·obtain ⟨t', n', b', e⟩ := ih (i + 1) (rd T (i : Int)) (cnt T s (rd T (i : Int))) (by omega) (by omega) (best_new hb hp (.inr c2))
    refine ⟨t', n', b', fun k hk => ?_⟩; obtain ⟨k, rfl⟩ : ∃ m, k = m + 1 := ⟨k - 1, by omega⟩; obtain ⟨Y, y1, y2⟩ := bt k (by omega); simp only [spec_BusiestTime.l0]; rw [if_pos (by omega), if_pos (by omega), w64 (n := rd T (i : Int) + s) (by omega), y1]; simp only [Option.bind_some]; rw [y2, if_neg c1, if_pos c2.1, if_pos c2.2, w64 (n := (i : Int) + 1) (by omega)]; exact e k (by omega)
   ·obtain ⟨t', n', b', e⟩ := ih (i + 1) t n (by omega) (by omega) (best_old hb hp c1 (fun x => by
     by_cases z : rd T (i : Int) < t
     ·exact absurd ⟨x, z⟩ c2
     ·omega))
    refine ⟨t', n', b', fun k hk => ?_⟩; obtain ⟨k, rfl⟩ : ∃ m, k = m + 1 := ⟨k - 1, by omega⟩; obtain ⟨Y, y1, y2⟩ := bt k (by omega); simp only [spec_BusiestTime.l0]; rw [if_pos (by omega), if_pos (by omega), w64 (n := rd T (i : Int) + s) (by omega), y1]; simp only [Option.bind_some]; rw [y2, if_neg c1, w64 (n := (i : Int) + 1) (by omega)]
    by_cases z : cnt T s (rd T (i : Int)) = n
    ·rw [if_pos z, if_neg (fun x => c2 ⟨z, x⟩)]; exact e k (by omega)
    ·rw [if_neg z]; exact e k (by omega)
theorem impl_busy (s : Int) (hs : 1 ≤ s ∧ s ≤ 10000000) (T S : List Int) (hT : T.length ≤ 1000) (hr : ∀ j : Nat, j < T.length → 0 ≤ rd T (j : Int) ∧ rd T (j : Int) ≤ 2000000) (hS : Same T S) (ho : Ord S T.length) : ∀ d i (t n : Int), T.length - i = d → i ≤ T.length → BestP (cnt T s) S i t n → ∃ t' n', BestP (cnt T s) S T.length t' n' ∧ ∃ K, ∀ k, K ≤ k → impl_BusiestTime.l0 k s T t n S (S.length : Int) (i : Int) = if n' = 0 then some (0, 0, 4) else some (t', n', 0) := by
 have hl := hS.1; intro d
 induction d with
 | zero =>
  intro i t n hd hi hb
  have e : i = T.length := by omega
  subst e; refine ⟨t, n, hb, 1, fun k hk => ?_⟩; obtain ⟨k, rfl⟩ : ∃ m, k = m + 1 := ⟨k - 1, by omega⟩; simp only [impl_BusiestTime.l0]; rw [if_neg (by omega)]
 | succ d ih =>
  intro i t n hd hi hb; obtain ⟨p, p1, p2⟩ := hS.2.2 i (by omega); have r := hr p p1
  have hp : 1 ≤ cnt T s (rd S (i : Int)) := by
   rw [← p2]; exact cntF_pos T _ _ T.length 0 p (by omega) (by omega) (Int.le_refl _) (by omega)
  have st := busy_in s T hT t n (rd S (i : Int)) S i (by omega) (S.length : Int) (by omega) T.length 0 0 (by omega) (by omega) (by omega)
  have hz : (0 : Int) + cntF T (rd S (i : Int)) (rd S (i : Int) + s) 0 T.length = cnt T s (rd S (i : Int)) := by unfold cnt; omega
  rw [hz] at st
  have step : ∀ k, impl_BusiestTime.l0 (k + (T.length + 1) + 1) s T t n S (S.length : Int) (i : Int) = if cnt T s (rd S (i : Int)) > n then impl_BusiestTime.l0 k s T (rd S (i : Int)) (cnt T s (rd S (i : Int))) S (S.length : Int) ((i + 1 : Nat) : Int) else impl_BusiestTime.l0 k s T t n S (S.length : Int) ((i + 1 : Nat) : Int) := fun k => by
   simp only [impl_BusiestTime.l0]; rw [if_pos (by omega), if_pos (by omega), if_pos (by omega)]; exact st k
  by_cases c : cnt T s (rd S (i : Int)) > n
  ·obtain ⟨t', n', b', K, e⟩ := ih (i + 1) (rd S (i : Int)) (cnt T s (rd S (i : Int))) (by omega) (by omega) (best_new hb hp (.inl c))
   refine ⟨t', n', b', K + T.length + 2, fun k hk => ?_⟩; obtain ⟨k, rfl⟩ : ∃ m, k = m + (T.length + 1) + 1 := ⟨k - (T.length + 1) - 1, by omega⟩; rw [step, if_pos c]; exact e k (by omega)
  ·obtain ⟨t', n', b', K, e⟩ := ih (i + 1) t n (by omega) (by omega) (best_old hb hp c (fun x => by
    rcases hb with ⟨h1, h2, h3⟩ | ⟨h1, ⟨j, j1, j2, _⟩, _⟩
    ·omega
    ·rw [← j2]; exact ho j i j1 (by omega)))
   refine ⟨t', n', b', K + T.length + 2, fun k hk => ?_⟩; obtain ⟨k, rfl⟩ : ∃ m, k = m + (T.length + 1) + 1 := ⟨k - (T.length + 1) - 1, by omega⟩; rw [step, if_neg c]; exact e k (by omega)
theorem busiest_ex (n0 : Nat) (A : List S104) (B : List S62) (C : List S39) (hA : A.length ≤ 1000000) (hB : B.length ≤ 1000000) (hC : C.length ≤ 1000000) (hS : Small n0 B) (s : Int) : ∃ q1 q2 q3, Evt (fun k => spec_BusiestTime.f k A B C s = some (q1, q2, q3)) ∧ Evt (fun k => impl_BusiestTime.f k A B C s = some (q1, q2, q3)) ∧ (q3 = 0 → isShow A B C = true ∧ (1 ≤ s ∧ s ≤ 10000000) ∧ 0 < C.length ∧ BestP (cnt (fts A B C) s) (fts A B C) C.length q1 q2) := by
 obtain ⟨M, hM⟩ : ∃ M, M = A.length + B.length + C.length + n0 + 300 := ⟨_, rfl⟩; have ss := fun k hk => spec_show n0 A B C (by omega) (by omega) (by omega) hS k hk; have si := fun k hk => impl_show n0 A B C (by omega) (by omega) (by omega) hS k hk
 cases h : isShow A B C with
 | false =>
  refine ⟨0, 0, 1, ⟨M, fun k hk => ?_⟩, ⟨M, fun k hk => ?_⟩, fun x => absurd x (by decide)⟩
  ·show spec_BusiestTime.f k A B C s = _
   obtain ⟨k, rfl⟩ : ∃ m, k = m + 1 := ⟨k - 1, by omega⟩
   unfold spec_BusiestTime.f
   rw [ss (k + 1) (by omega), h]; rfl
  ·show impl_BusiestTime.f k A B C s = _
   unfold impl_BusiestTime.f
   rw [si k (by omega), h]; rfl
 | true =>
  have hC20 := (isShow_true h).2.2.1
  cases g : inB s 1 10000000 with
  | false =>
   refine ⟨0, 0, 2, ⟨M, fun k hk => ?_⟩, ⟨M, fun k hk => ?_⟩, fun x => absurd x (by decide)⟩
   ·show spec_BusiestTime.f k A B C s = _
    obtain ⟨k, rfl⟩ : ∃ m, k = m + 1 := ⟨k - 1, by omega⟩
    unfold spec_BusiestTime.f
    rw [ss (k + 1) (by omega), h, In_eq, g]; rfl
   ·show impl_BusiestTime.f k A B C s = _
    unfold impl_BusiestTime.f
    rw [si k (by omega), h, Wi_eq, g]; rfl
  | true =>
   have gs := inB_true.1 g; have hl := fts_len A B C; have hr : ∀ j : Nat, j < (fts A B C).length → 0 ≤ rd (fts A B C) (j : Int) ∧ rd (fts A B C) (j : Int) ≤ 2000000 := fun j hj => fts_range h (by omega); obtain ⟨S, s1, s2, K, s3⟩ := sorted_ok (T := fts A B C) (by omega); obtain ⟨t', n', b', K', e'⟩ := impl_busy s gs (fts A B C) S (by omega) hr s1 s2 (fts A B C).length 0 0 0 (by omega) (by omega) (.inl ⟨rfl, rfl, rfl⟩)
   have im : ∀ k, M + K + K' ≤ k → impl_BusiestTime.f k A B C s = if n' = 0 then some (0, 0, 4) else some (t', n', 0) := fun k hk => by
    unfold impl_BusiestTime.f
    rw [si k (by omega), h, Wi_eq, g]; simp only [Option.bind_some, if_true]; rw [(times_ok h k (by omega)).2]; simp only [Option.bind_some]; rw [show impl_sorted.f k (fts A B C) = some S from s3 k (by omega)]; exact e' k (by omega)
   by_cases c0 : C.length = 0
   ·have n0' : n' = 0 := by
     rcases b' with ⟨_, x, _⟩ | ⟨_, ⟨j, j1, _⟩, _⟩
     ·exact x
     ·omega
    refine ⟨0, 0, 4, ⟨M, fun k hk => ?_⟩, ⟨M + K + K', fun k hk => ?_⟩, fun x => absurd x (by decide)⟩
    ·show spec_BusiestTime.f k A B C s = _
     obtain ⟨k, rfl⟩ : ∃ m, k = m + 1 := ⟨k - 1, by omega⟩
     unfold spec_BusiestTime.f
     rw [ss (k + 1) (by omega), h, In_eq, g]; simp only [Option.bind_some, if_true]; rw [if_pos (by omega)]; rfl
    ·show impl_BusiestTime.f k A B C s = _
     rw [im k hk, if_pos n0']
   ·obtain ⟨t, n, b, e⟩ := spec_busy s gs (fts A B C) (by omega) hr (fts A B C).length 0 0 0 (by omega) (by omega) (.inl ⟨rfl, rfl, rfl⟩)
    obtain ⟨u1, u2⟩ := best_unique s1 (by omega) b b'
    have n1 : ¬ n = 0 := by
     rcases b with ⟨x, _, _⟩ | ⟨x, _⟩ <;> omega
    refine ⟨t, n, 0, ⟨M + 300, fun k hk => ?_⟩, ⟨M + K + K', fun k hk => ?_⟩, fun _ => ⟨rfl, gs, by omega, by rw [← hl]; exact b⟩⟩
    ·show spec_BusiestTime.f k A B C s = _
     obtain ⟨k, rfl⟩ : ∃ m, k = m + 1 := ⟨k - 1, by omega⟩
     unfold spec_BusiestTime.f
     rw [ss (k + 1) (by omega), h, In_eq, g]; simp only [Option.bind_some, if_true]; rw [if_neg (by omega)]; simp only [spec_BusiestTime.j0, if_true]; rw [(times_ok h k (by omega)).1]; exact e k (by omega)
    ·show impl_BusiestTime.f k A B C s = _
     rw [im k hk, u2, u1, if_neg n1]
theorem busy_l1 {T : List Int} (hT : T.length ≤ 1000) (hr : ∀ j : Nat, j < T.length → 0 ≤ rd T (j : Int) ∧ rd T (j : Int) ≤ 2000000) {s t n : Int} (hs : 1 ≤ s ∧ s ≤ 10000000) {i : Nat} (hi : i < T.length) (hle : cnt T s (rd T (i : Int)) ≤ n) (hlt : cnt T s (rd T (i : Int)) = n → t ≤ rd T (i : Int)) (heq : rd T (i : Int) = t → cnt T s (rd T (i : Int)) = n) {K : Nat}
  (hn : ∀ k, K ≤ k → laws_FnBusiest.l0 k s t n T ((i + 1 : Nat) : Int) = some true) : ∀ d (j : Nat) x, T.length - j = d → j ≤ T.length → 0 ≤ x → x ≤ (j : Int) → x + cntF T (rd T (i : Int)) (rd T (i : Int) + s) j d = cnt T s (rd T (i : Int)) → ∀ k, K + d + 1 ≤ k → laws_FnBusiest.l1 k s t n T (i : Int) x (j : Int) = some true := by
 have hri := hr i hi
 have hw : ∀ _ : Unit, wrap64 ((i : Int) + 1) = ((i + 1 : Nat) : Int) := fun _ => by rw [w64 (by omega)]; omega
 intro d
 induction d with
 | zero =>
  intro j x hd hj hx hx2 he k hk; obtain ⟨k, rfl⟩ : ∃ m, k = m + 1 := ⟨k - 1, by omega⟩
  unfold cntF at he
  simp only [laws_FnBusiest.l1]; rw [if_neg (by omega), if_neg (by omega)]
  by_cases g : x = n
  ·rw [if_pos g, if_pos (by omega), if_pos (by omega), if_neg (by have := hlt (by omega); omega), hw ()]
   split
   ·exact hn k (by omega)
   ·exact hn k (by omega)
  ·rw [if_neg g, if_pos (by omega), if_pos (by omega), if_neg (fun y => g (by have := heq y; omega)), hw ()]
   exact hn k (by omega)
 | succ d ih =>
  intro j x hd hj hx hx2 he k hk; obtain ⟨k, rfl⟩ : ∃ m, k = m + 1 := ⟨k - 1, by omega⟩
  have hwj : ∀ _ : Unit, wrap64 ((j : Int) + 1) = ((j + 1 : Nat) : Int) := fun _ => by rw [w64 (by omega)]; omega
  unfold cntF at he
  simp only [laws_FnBusiest.l1]; rw [if_pos (by omega), if_pos (by omega), if_pos (by omega), if_pos (by omega), w64 (n := rd T (i : Int) + s) (by omega), hwj ()]
  by_cases g : rd T (j : Int) ≥ rd T (i : Int)
  ·rw [if_pos g]
   by_cases g2 : rd T (j : Int) < rd T (i : Int) + s
   ·rw [if_pos g2, w64 (by omega)]
    rw [if_pos ⟨g, g2⟩] at he; exact ih (j + 1) (x + 1) (by omega) (by omega) (by omega) (by omega) (by omega) k (by omega)
   ·rw [if_neg g2]
    rw [if_neg (fun y => g2 y.2)] at he; exact ih (j + 1) x (by omega) (by omega) (by omega) (by omega) (by omega) k (by omega)
  ·rw [if_neg g]
   rw [if_neg (fun y => g y.1)] at he; exact ih (j + 1) x (by omega) (by omega) (by omega) (by omega) (by omega) k (by omega)
theorem busy_l0 {T : List Int} (hT : T.length ≤ 1000) (hr : ∀ j : Nat, j < T.length → 0 ≤ rd T (j : Int) ∧ rd T (j : Int) ≤ 2000000) {s t n : Int} (hs : 1 ≤ s ∧ s ≤ 10000000) (h1 : 1 ≤ n) (hA : ∀ i : Nat, i < T.length → cnt T s (rd T (i : Int)) ≤ n ∧ (cnt T s (rd T (i : Int)) = n → t ≤ rd T (i : Int)) ∧ (rd T (i : Int) = t → cnt T s (rd T (i : Int)) = n)) :
  ∀ d (i : Nat), T.length - i = d → i ≤ T.length → ∀ k, d * (T.length + 3) + 2 ≤ k → laws_FnBusiest.l0 k s t n T (i : Int) = some true := by
 intro d
 induction d with
 | zero =>
  intro i hd hi k hk; obtain ⟨k, rfl⟩ : ∃ m, k = m + 1 := ⟨k - 1, by omega⟩; simp only [laws_FnBusiest.l0]; rw [if_neg (by omega), decide_eq_true (show n > 0 by omega)]
 | succ d ih =>
  intro i hd hi k hk; have hm : (d + 1) * (T.length + 3) = d * (T.length + 3) + (T.length + 3) := Nat.succ_mul _ _; obtain ⟨k, rfl⟩ : ∃ m, k = m + 1 := ⟨k - 1, by omega⟩; have ha := hA i (by omega); simp only [laws_FnBusiest.l0]; rw [if_pos (by omega)]; exact busy_l1 hT hr hs (by omega) ha.1 ha.2.1 ha.2.2 (K := d * (T.length + 3) + 2) (fun k hk => ih (i + 1) (by omega) (by omega) k hk) T.length 0 0 (by omega) (by omega) (by omega) (by omega) (by unfold cnt; omega) k (by omega)
theorem pure_FnBusiest : laws_FnBusiest.Pure := by
 intro c _ _ hb
 by_cases big : (c.length : Int) > 4096
 ·refine ⟨0, ?_⟩
  unfold laws_FnBusiest.f laws_big.f
  simp only [Option.bind_some, decide_eq_true big, if_true]
 have hc : Code c := code_of big hb; obtain ⟨z, e0, h0⟩ := from_ok hc; obtain ⟨A, B, C, a1, s1, e1, h1, hA, hB, hS, hC⟩ := show_draw hc h0
 obtain ⟨span, d1⟩ : ∃ span, ∀ k, 36893488147419104010 ≤ k → spec_DrawBusiestTime.f k c = some (A, B, C, span) := by
  obtain ⟨r2, a2, s2, e2, h2, _⟩ := next_ok hc h1 3000 (by decide); obtain ⟨r3, a3, s3, e3, h3, _⟩ := pick_ok hc h2 [1, 500, wrap64 (1000 + r2), 0, 10000000, 10000001] (by simp) (by simp); refine ⟨r3, fun k hk => ?_⟩
  unfold spec_DrawBusiestTime.f
  rw [e0 k (by omega), Option.bind_some]; dsimp only; rw [e1 k (by omega), Option.bind_some]; dsimp only; rw [e2, Option.bind_some]; dsimp only; rw [e3, Option.bind_some]
 obtain ⟨t, n, code, ⟨k1, f1⟩, ⟨k2, f2⟩, hq⟩ := busiest_ex 100 A B C (by omega) (by omega) (by omega) ⟨by decide, hS⟩ span; refine ⟨k1 + k2 + 36893488147419104010 + 1000000, ?_⟩
 unfold laws_FnBusiest.f laws_big.f
 rw [Option.bind_some, decide_eq_false big, if_neg (by decide), d1 _ (by omega), Option.bind_some]; dsimp only; rw [f2 _ (by omega), Option.bind_some]; dsimp only; rw [f1 _ (by omega), Option.bind_some]; dsimp only; rw [if_pos rfl, if_pos rfl, show (n != n) = false by simp]; obtain ⟨K, hK⟩ : ∃ K, k1 + k2 + 36893488147419104010 + 1000000 = K + 3 := ⟨k1 + k2 + 36893488147419104010 + 999997, by omega⟩; rw [hK]; simp only [laws_FnBusiest.j0]; rw [if_neg (by decide)]
 by_cases g : code = 0
 ·rw [if_pos g]
  obtain ⟨hsh, hs, h0C, hB1⟩ := hq g; have hl := fts_len A B C; have hC20 := (isShow_true hsh).2.2.1; have hF : Frame 100 A B C := ⟨by omega, by omega, by omega, by decide, hS⟩
  have i1 : impl_FireTimes.f (K + 2) A B C = some (fts A B C, 0) := by
   unfold impl_FireTimes.f
   rw [si_ok hF (K + 2) (by omega), hsh]; simp only [Option.bind_some]; rw [(times_ok hsh (K + 2) (by omega)).2]; rfl
  have i2 : spec_FireTimes.f (K + 2) A B C = some (fts A B C, 0) := by
   unfold spec_FireTimes.f
   rw [ss_ok hF (K + 2) (by omega), hsh]; simp only [Option.bind_some]; rw [(times_ok hsh (K + 2) (by omega)).1]; rfl
  rw [i1, Option.bind_some]; dsimp only; rw [i2, Option.bind_some]; dsimp only; rw [if_pos rfl, like_ints_s _ (by omega) (K + 2) (by omega), Option.bind_some]; simp only [laws_FnBusiest.j1]; rw [if_neg (by decide), if_pos trivial]
  rcases hB1 with hB1 | ⟨hn1, ⟨j, hj, hjt, hjn⟩, hall⟩
  ·omega
  ·have hmem : t ∈ fts A B C := by
    rw [← hjt]; unfold rd; rw [Int.toNat_natCast]; rw [List.getD_eq_getElem?_getD, List.getElem?_eq_getElem (show j < (fts A B C).length by omega)]; exact List.getElem_mem _
   rw [has_int_s _ (by omega) t (K + 1) (by omega), Option.bind_some, decide_eq_true hmem]; simp only [laws_FnBusiest.j2]; rw [if_neg (by decide)]; have hmul : (fts A B C).length * ((fts A B C).length + 3) ≤ 20 * 23 := Nat.mul_le_mul (by omega) (by omega); have hfin := busy_l0 (T := fts A B C) (by omega) (fun j hj => fts_range hsh (by omega)) hs hn1 (fun i hi => ⟨(hall i (by omega)).1, (hall i (by omega)).2, fun y => (congrArg (cnt (fts A B C) span) y).trans hjn.symm⟩) (fts A B C).length 0 (by omega) (by omega) K (by omega); exact hfin
 ·rw [if_neg g]
end Go.Proofs.Ythhijbdekboahaa.F
namespace Go.Proofs.Ythhijbdekboahaa.Pure
theorem FnBusiest : Go.Proofs.Ythhijbdekboahaa.F.laws_FnBusiest.Pure := Go.Proofs.Ythhijbdekboahaa.F.pure_FnBusiest
end Go.Proofs.Ythhijbdekboahaa.Pure
namespace Go.Proofs.Ythhijbdekboahaa.F
end Go.Proofs.Ythhijbdekboahaa.F
