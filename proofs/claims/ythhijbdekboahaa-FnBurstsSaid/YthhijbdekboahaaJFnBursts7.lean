import Derived.Test.YthhijbdekboahaaJFnBursts6
import Derived.Below
import Derived.Deep.Draws
import Derived.Deep.AppendLies
import Derived.Maps.AppendAt
import Derived.OwnWalk
import Derived.Laws.BytesArg
import Derived.Laws.MakeOwn
import Derived.Laws.OwnMore
import Derived.Tactics
import Derived.Lib.ConvBytes
import Derived.Laws.Slices
import Derived.WalkKit
import Derived.KernelRfl
import Derived.RowKit3
import Derived.Deep.LoopGhost
import Derived.Deep.QuietTactic
import Derived.BigQuiet
import Derived.WideLaws
import Derived.Deep.DeepCutAuto
import Derived.Deep.CutBlock
import Derived.Deep.RegionHeld3
import Derived.Lib.AppendStr
import Derived.ArgAppend
import Derived.Laws.IdiomCopy
import Derived.RowKit
import Derived.OrdersHeld
import Derived.Laws.BitsLemmas
import Derived.Laws.StructEq
import Derived.Test.YthhijbdekboahaaProg
import Derived.Laws.Cover1
namespace Go.Proofs.Ythhijbdekboahaa.F
open Go.RowKit Go.Proofs.YthhijbdekboahaaW.PrintWords Go.Proofs.YthhijbdekboahaaW.PrintLast Go.Proofs.YthhijbdekboahaaW.PrintMore
set_option linter.unusedVariables false
set_option linter.unusedSimpArgs false
def inW (t : Int) (w : List Int) : Bool := inB t (rd w 0) (rd w 1)
def cntW (W : List (List Int)) (t : Int) : Nat → Nat → Int
 | _, 0 => 0
 | i, d + 1 => (if inW t (rd_L6 W (i : Int)) = true then 1 else 0) + cntW W t (i + 1) d
theorem cntW_le (W : List (List Int)) (t : Int) : ∀ (d i : Nat), 0 ≤ cntW W t i d ∧ cntW W t i d ≤ (d : Int)
 | 0, _ => by unfold cntW; omega
 | d + 1, i => by
  have := cntW_le W t d (i + 1)
  unfold cntW
  split <;> omega
theorem cntW_pos (W : List (List Int)) (t : Int) : ∀ (d i j : Nat), i ≤ j → j < i + d → inW t (rd_L6 W (j : Int)) = true → 1 ≤ cntW W t i d
 | 0, i, j, h1, h2, _ => absurd h2 (by omega)
 | d + 1, i, j, h1, h2, h3 => by
  unfold cntW
  have z := cntW_le W t d (i + 1)
  by_cases c : j = i
  ·subst c
   rw [if_pos h3]; omega
  ·have := cntW_pos W t d (i + 1) j (by omega) (by omega) h3
   split <;> omega
def starts (W : List (List Int)) : List Int := W.map (fun w => rd w 0)
theorem rdL_get {W : List (List Int)} {i : Nat} (h : i < W.length) : rd_L6 W (i : Int) = W[i] := by
 unfold rd_L6
 rw [Int.toNat_natCast, List.getD_eq_getElem?_getD, List.getElem?_eq_getElem h]; rfl
theorem rd_starts (W : List (List Int)) (i : Nat) (h : i < W.length) : rd (starts W) (i : Int) = rd (rd_L6 W (i : Int)) 0 := by
 rw [rdL_get h]; show (starts W).getD ((i : Int)).toNat 0 = _
 unfold starts
 rw [Int.toNat_natCast, List.getD_eq_getElem?_getD, List.getElem?_map, List.getElem?_eq_getElem h]; rfl
def AreW (W : List (List Int)) : Prop := W.length ≤ 1000 ∧ ∀ i, i < W.length → 2 ≤ (rd_L6 W (i : Int)).length ∧ rd (rd_L6 W (i : Int)) 0 ≤ rd (rd_L6 W (i : Int)) 1
theorem rdL_mem {W : List (List Int)} {i : Nat} (h : i < W.length) : rd_L6 W (i : Int) ∈ W := by
 unfold rd_L6
 rw [Int.toNat_natCast, List.getD_eq_getElem?_getD, List.getElem?_eq_getElem h]; exact List.getElem_mem h
theorem allW_are {A : List S104} {B : List S62} {C : List S39} (h : isShow A B C = true) : AreW (allW A B C C.length) := by
 have hC := (isShow_true h).2.2.1; refine ⟨by have := allW_len h C.length (Nat.le_refl _); omega, fun i hi => ?_⟩; obtain ⟨a, j, h1, h2, e⟩ := (allW_mem _ _).1 (rdL_mem hi); rw [e, rd_0, rd_1]; exact ⟨by show 2 ≤ 3; omega, (w_range h h1 h2).2.1⟩
theorem inW_own {W : List (List Int)} (h : AreW W) {i : Nat} (hi : i < W.length) : inW (rd (rd_L6 W (i : Int)) 0) (rd_L6 W (i : Int)) = true := by
 unfold inW
 rw [inB_true]; exact ⟨Int.le_refl _, (h.2 i hi).2⟩
def CW (W : List (List Int)) (t : Int) : Int := cntW W t 0 W.length
theorem spec_cnt {W : List (List Int)} (h : AreW W) (t : Int) : ∀ d i (n : Int), W.length - i = d → i ≤ W.length → (0 ≤ n ∧ n ≤ i) → ∀ k, d < k → spec_l09Count.l0 k W t n (i : Int) = some (n + cntW W t i d) := by
 have hl := h.1; intro d
 induction d with
 | zero =>
  intro i n hd hi hn k hk; obtain ⟨k, rfl⟩ : ∃ m, k = m + 1 := ⟨k - 1, by omega⟩; simp only [spec_l09Count.l0]; rw [if_neg (by omega)]
  unfold cntW
  rw [Int.add_zero]
 | succ d ih =>
  intro i n hd hi hn k hk; obtain ⟨k, rfl⟩ : ∃ m, k = m + 1 := ⟨k - 1, by omega⟩; have hw := h.2 i (by omega); simp only [spec_l09Count.l0]; rw [if_pos (by omega), if_pos (by omega), if_pos (by omega), if_pos (by omega), In_eq, w64 (n := n + 1) (by omega), w64 (n := (i : Int) + 1) (by omega)]; simp only [Option.bind_some]
  unfold cntW inW
  by_cases c : inB t (rd (rd_L6 W (i : Int)) 0) (rd (rd_L6 W (i : Int)) 1) = true
  ·rw [if_pos c, if_pos c]
   have nx := ih (i + 1) (n + 1) (by omega) (by omega) (by omega) k (by omega); rw [show n + (1 + cntW W t (i + 1) d) = n + 1 + cntW W t (i + 1) d by omega]; exact nx
  ·rw [if_neg c, if_neg c]
   have nx := ih (i + 1) n (by omega) (by omega) (by omega) k (by omega); rw [Int.zero_add]; exact nx
theorem impl_cnt {W : List (List Int)} (h : AreW W) (b m t : Int) (si : Nat) (hsi : si < 2000) : ∀ d i (n : Int), W.length - i = d → i ≤ W.length → (0 ≤ n ∧ n ≤ i) → ∀ k, impl_MostAtOnce.l1 (k + (d + 1)) W b m t n W (W.length : Int) (si : Int) W (W.length : Int) (i : Int) = (if n + cntW W t i d > m then impl_MostAtOnce.l0 k W t (n + cntW W t i d) W (W.length : Int) ((si + 1 : Nat) : Int) else (if n + cntW W t i d = m then (if t < b then impl_MostAtOnce.l0 k W t (n + cntW W t i d) W (W.length : Int) ((si + 1 : Nat) : Int) else impl_MostAtOnce.l0 k W b m W (W.length : Int) ((si + 1 : Nat) : Int)) else impl_MostAtOnce.l0 k W b m W (W.length : Int) ((si + 1 : Nat) : Int))) := by
 have hl := h.1; intro d
 induction d with
 | zero =>
  intro i n hd hi hn k; simp only [impl_MostAtOnce.l1]; rw [if_neg (by omega), w64 (n := (si : Int) + 1) (by omega)]
  unfold cntW
  rw [Int.add_zero]
  rfl
 | succ d ih =>
  intro i n hd hi hn k; have hw := h.2 i (by omega); have nx0 := fun m hm => ih (i + 1) m (by omega) (by omega) hm k; rw [show k + (d + 1 + 1) = (k + (d + 1)) + 1 by omega]; obtain ⟨Q, hQ⟩ : ∃ Q, Q = k + (d + 1) := ⟨_, rfl⟩; rw [← hQ] at nx0; rw [← hQ]; simp only [impl_MostAtOnce.l1]; rw [if_pos (by omega), if_pos (by omega), if_pos (by omega), if_pos (by omega), if_pos (by omega), Wi_eq, w64 (n := n + 1) (by omega), w64 (n := (i : Int) + 1) (by omega)]; simp only [Option.bind_some]; have e : cntW W t i (d + 1) = (if inW t (rd_L6 W (i : Int)) = true then 1 else 0) + cntW W t (i + 1) d := rfl; rw [e]
  unfold inW
  by_cases c : inB t (rd (rd_L6 W (i : Int)) 0) (rd (rd_L6 W (i : Int)) 1) = true
  ·rw [if_pos c, if_pos c]
   have nx := nx0 (n + 1) (by omega); rw [show n + (1 + cntW W t (i + 1) d) = n + 1 + cntW W t (i + 1) d by omega]; exact nx
  ·rw [if_neg c, if_neg c]
   have nx := nx0 n (by omega); rw [Int.zero_add]; exact nx
theorem most_go {W : List (List Int)} (h : AreW W) : ∀ d i (b m : Int), W.length - i = d → i ≤ W.length → BestP (CW W) (starts W) i b m → ∃ b' m', BestP (CW W) (starts W) W.length b' m' ∧ Evt (fun k => spec_MostAtOnce.l0 k W b m (i : Int) = some (b', m', 0)) ∧ Evt (fun k => impl_MostAtOnce.l0 k W b m W (W.length : Int) (i : Int) = some (b', m', 0)) := by
 have hl := h.1; intro d
 induction d with
 | zero =>
  intro i b m hd hi hb
  have e : i = W.length := by omega
  subst e; refine ⟨b, m, hb, Evt.succ (Evt.of fun k => ?_), Evt.succ (Evt.of fun k => ?_)⟩
  ·show spec_MostAtOnce.l0 (k + 1) W b m (W.length : Int) = _
   simp only [spec_MostAtOnce.l0]; rw [if_neg (by omega)]
  ·show impl_MostAtOnce.l0 (k + 1) W b m W (W.length : Int) (W.length : Int) = _
   simp only [impl_MostAtOnce.l0]; rw [if_neg (by omega)]
 | succ d ih =>
  intro i b m hd hi hb
  have hi' : i < W.length := by omega
  have hw := h.2 i hi'; have rs := rd_starts W i hi'
  have hp : 1 ≤ CW W (rd (starts W) (i : Int)) := by
   rw [rs]; exact cntW_pos W _ W.length 0 i (by omega) (by omega) (inW_own h hi')
  obtain ⟨t, ht⟩ : ∃ t, t = rd (starts W) (i : Int) := ⟨_, rfl⟩; obtain ⟨n, hn⟩ : ∃ n, n = CW W t := ⟨_, rfl⟩
  have hz : (0 : Int) + cntW W t 0 W.length = n := by rw [hn]; unfold CW; omega
  have sp : ∀ k, W.length < k → spec_MostAtOnce.l0 (k + 1) W b m (i : Int) = (if n > m then spec_MostAtOnce.l0 k W t n ((i + 1 : Nat) : Int) else (if n = m then (if t < b then spec_MostAtOnce.l0 k W t n ((i + 1 : Nat) : Int) else spec_MostAtOnce.l0 k W b m ((i + 1 : Nat) : Int)) else spec_MostAtOnce.l0 k W b m ((i + 1 : Nat) : Int))) := fun k hk => by
   simp only [spec_MostAtOnce.l0]; rw [if_pos (by omega), if_pos (by omega), if_pos (by omega), ← rs, ← ht, show spec_l09Count.f k W t = some n from (spec_cnt h t W.length 0 0 (by omega) (by omega) (by omega) k hk).trans (by rw [hz]), w64 (n := (i : Int) + 1) (by omega)]
   rfl
  have im : ∀ k, impl_MostAtOnce.l0 (k + (W.length + 1) + 1) W b m W (W.length : Int) (i : Int) = (if n > m then impl_MostAtOnce.l0 k W t n W (W.length : Int) ((i + 1 : Nat) : Int) else (if n = m then (if t < b then impl_MostAtOnce.l0 k W t n W (W.length : Int) ((i + 1 : Nat) : Int) else impl_MostAtOnce.l0 k W b m W (W.length : Int) ((i + 1 : Nat) : Int)) else impl_MostAtOnce.l0 k W b m W (W.length : Int) ((i + 1 : Nat) : Int))) := fun k => by
   simp only [impl_MostAtOnce.l0]; rw [if_pos (by omega), if_pos (by omega), if_pos (by omega), if_pos (by omega), ← rs, ← ht]; have z := impl_cnt h b m t i (by omega) W.length 0 0 (by omega) (by omega) (by omega) k; rw [hz] at z; exact z
  have go : ∀ t0 n0, (∀ k, W.length < k → spec_MostAtOnce.l0 (k + 1) W b m (i : Int) = spec_MostAtOnce.l0 k W t0 n0 ((i + 1 : Nat) : Int)) → (∀ k, impl_MostAtOnce.l0 (k + (W.length + 1) + 1) W b m W (W.length : Int) (i : Int) = impl_MostAtOnce.l0 k W t0 n0 W (W.length : Int) ((i + 1 : Nat) : Int)) → BestP (CW W) (starts W) (i + 1) t0 n0 → ∃ b' m', BestP (CW W) (starts W) W.length b' m' ∧ Evt (fun k => spec_MostAtOnce.l0 k W b m (i : Int) = some (b', m', 0)) ∧ Evt (fun k => impl_MostAtOnce.l0 k W b m W (W.length : Int) (i : Int) = some (b', m', 0)) := fun t0 n0 h1 h2 h3 => by
   obtain ⟨b', m', g1, ⟨K1, g2⟩, ⟨K2, g3⟩⟩ := ih (i + 1) t0 n0 (by omega) (by omega) h3; refine ⟨b', m', g1, ⟨K1 + W.length + 2, fun k hk => ?_⟩, ⟨K2 + W.length + 2, fun k hk => ?_⟩⟩
   ·obtain ⟨k, rfl⟩ : ∃ m, k = m + 1 := ⟨k - 1, by omega⟩
    exact (h1 k (by omega)).trans (g2 k (by omega))
   ·obtain ⟨k, rfl⟩ : ∃ m, k = m + (W.length + 1) + 1 := ⟨k - (W.length + 1) - 1, by omega⟩
    exact (h2 k).trans (g3 k (by omega))
  by_cases c1 : n > m
  ·exact go t n (fun k hk => (sp k hk).trans (if_pos c1)) (fun k => (im k).trans (if_pos c1)) (by
    have z := best_new hb hp (.inl (by rw [← ht, ← hn]; exact c1)); rw [← ht, ← hn] at z; exact z)
  ·by_cases c2 : n = m ∧ t < b
   ·exact go t n (fun k hk => by rw [sp k hk, if_neg c1, if_pos c2.1, if_pos c2.2]) (fun k => by rw [im k, if_neg c1, if_pos c2.1, if_pos c2.2]) (by
     have z := best_new hb hp (.inr (by rw [← ht, ← hn]; exact c2)); rw [← ht, ← hn] at z; exact z)
   ·exact go b m (fun k hk => by
     rw [sp k hk, if_neg c1]
     by_cases z : n = m
     ·rw [if_pos z, if_neg (fun x => c2 ⟨z, x⟩)]
     ·rw [if_neg z]) (fun k => by
     rw [im k, if_neg c1]
     by_cases z : n = m
     ·rw [if_pos z, if_neg (fun x => c2 ⟨z, x⟩)]
     ·rw [if_neg z]) (best_old hb hp (by rw [← ht, ← hn]; exact c1) (fun x => by
     rw [← ht, ← hn] at x; rw [← ht]
     by_cases z : t < b
     ·exact absurd ⟨x, z⟩ c2
     ·omega))
theorem most_ok (n0 : Nat) {A : List S104} {B : List S62} {C : List S39} (hF : Frame n0 A B C) : ∃ q1 q2 q3, Evt (fun k => spec_MostAtOnce.f k A B C = some (q1, q2, q3)) ∧ Evt (fun k => impl_MostAtOnce.f k A B C = some (q1, q2, q3)) ∧ (isShow A B C = false → q3 = 1) ∧ (isShow A B C = true → q3 = 0 ∧ BestP (CW (allW A B C C.length)) (starts (allW A B C C.length)) (allW A B C C.length).length q1 q2) := by
 cases h : isShow A B C with
 | false =>
  refine ⟨0, 0, 1, ⟨36893488147419103528, fun k hk => ?_⟩, ⟨36893488147419103528, fun k hk => ?_⟩, fun _ => rfl, fun x => absurd x (by decide)⟩
  ·show spec_MostAtOnce.f k A B C = _
   unfold spec_MostAtOnce.f
   rw [ss_ok hF k (by omega), h]; rfl
  ·show impl_MostAtOnce.f k A B C = _
   unfold impl_MostAtOnce.f
   rw [si_ok hF k (by omega), h]; rfl
 | true =>
  obtain ⟨b, m, g1, ⟨K1, g2⟩, ⟨K2, g3⟩⟩ := most_go (allW_are h) (allW A B C C.length).length 0 0 0 (by omega) (by omega) (.inl ⟨rfl, rfl, rfl⟩); obtain ⟨K, hK⟩ := impl_all h; refine ⟨b, m, 0, ⟨36893488147419103528 + K1, fun k hk => ?_⟩, ⟨36893488147419103528 + K2 + K, fun k hk => ?_⟩, fun x => absurd x (by decide), fun _ => ⟨rfl, g1⟩⟩
  ·show spec_MostAtOnce.f k A B C = _
   unfold spec_MostAtOnce.f
   rw [ss_ok hF k (by omega), h]; simp only [Option.bind_some, if_true]; rw [spec_all h k (by omega)]; exact g2 k (by omega)
  ·show impl_MostAtOnce.f k A B C = _
   unfold impl_MostAtOnce.f
   rw [si_ok hF k (by omega), h]; simp only [Option.bind_some, if_true]; rw [show impl_windowsOf.f k A B C = _ from hK k (by omega)]; exact g3 k (by omega)
theorem cntW_mono (W : List (List Int)) (x s : Int) : ∀ (d i : Nat), (∀ j, i ≤ j → j < i + d → inW x (rd_L6 W (j : Int)) = true → inW s (rd_L6 W (j : Int)) = true) → cntW W x i d ≤ cntW W s i d
 | 0, _, _ => Int.le_refl _
 | d + 1, i, h => by
  have := cntW_mono W x s d (i + 1) (fun j h1 h2 => h j (by omega) (by omega)); have h0 := h i (Nat.le_refl _) (by omega)
  unfold cntW
  by_cases c : inW x (rd_L6 W (i : Int)) = true
  ·rw [if_pos c, if_pos (h0 c)]; omega
  ·rw [if_neg c]; split <;> omega
theorem inW_iff {t : Int} {w : List Int} : inW t w = true ↔ rd w 0 ≤ t ∧ t ≤ rd w 1 := by unfold inW; exact inB_true
theorem last_in (W : List (List Int)) (x : Int) : ∀ n, n ≤ W.length → (∀ i, i < n → ¬ inW x (rd_L6 W (i : Int)) = true) ∨ ∃ j, j < n ∧ inW x (rd_L6 W (j : Int)) = true ∧ ∀ i, i < n → inW x (rd_L6 W (i : Int)) = true → rd (rd_L6 W (i : Int)) 0 ≤ rd (rd_L6 W (j : Int)) 0
 | 0, _ => .inl (fun i h => absurd h (by omega))
 | n + 1, hn => by
  by_cases c : inW x (rd_L6 W (n : Int)) = true
  ·rcases last_in W x n (by omega) with h | ⟨j, h1, h2, h3⟩
   ·refine .inr ⟨n, by omega, c, fun i hi hx => ?_⟩
    by_cases e : i = n
    ·subst e; exact Int.le_refl _
    ·exact absurd hx (h i (by omega))
   ·by_cases g : rd (rd_L6 W (j : Int)) 0 ≤ rd (rd_L6 W (n : Int)) 0
    ·refine .inr ⟨n, by omega, c, fun i hi hx => ?_⟩
     by_cases e : i = n
     ·subst e; exact Int.le_refl _
     ·have := h3 i (by omega) hx; omega
    ·refine .inr ⟨j, by omega, h2, fun i hi hx => ?_⟩
     by_cases e : i = n
     ·subst e; omega
     ·exact h3 i (by omega) hx
  ·rcases last_in W x n (by omega) with h | ⟨j, h1, h2, h3⟩
   ·refine .inl (fun i hi => ?_)
    by_cases e : i = n
    ·subst e; exact c
    ·exact h i (by omega)
   ·refine .inr ⟨j, by omega, h2, fun i hi hx => ?_⟩
    by_cases e : i = n
    ·subst e; exact absurd hx c
    ·exact h3 i (by omega) hx
theorem most_any {W : List (List Int)} {t n : Int} (h : BestP (CW W) (starts W) W.length t n) (hw : 0 < W.length) (x : Int) : CW W x ≤ n ∧ (CW W x < n ∨ t ≤ x) := by
 unfold BestP at h
 rcases h with ⟨h, _⟩ | ⟨h1, h2, h3⟩
 ·omega
 rcases last_in W x W.length (Nat.le_refl _) with g | ⟨j, g1, g2, g3⟩
 ·have : ∀ d i, i + d ≤ W.length → cntW W x i d = 0 := by
   intro d
   induction d with
   | zero => intro i _; rfl
   | succ d ih => intro i hi; unfold cntW; rw [if_neg (g i (by omega)), ih (i + 1) (by omega)]; rfl
  have := this W.length 0 (by omega)
  unfold CW
  omega
 ·have e := h3 j g1
  rw [rd_starts W j g1] at e
  have hle : CW W x ≤ CW W (rd (rd_L6 W (j : Int)) 0) := cntW_mono W x _ W.length 0 (fun i _ h5 h6 => by
   have a := inW_iff.1 h6; have b := inW_iff.1 g2; have c := g3 i (by omega) h6; exact inW_iff.2 ⟨c, by omega⟩)
  have b := inW_iff.1 g2; refine ⟨by omega, ?_⟩
  by_cases c : CW W x < n
  ·exact .inl c
  ·have := e.2 (by omega)
   exact .inr (by omega)
theorem bst_l1 {W : List (List Int)} (hW : AreW W) {t n x : Int} (hn : n = CW W t) (h1 : CW W x ≤ n) (h2 : CW W x < n ∨ t ≤ x) : ∀ d i (o p : Int), W.length - i = d → i ≤ W.length → 0 ≤ o → o ≤ i → 0 ≤ p → p ≤ i → o + cntW W t i d = CW W t → p + cntW W x i d = CW W x → ∀ k, 2 * d + 1 ≤ k → laws_FnBursts.l1 k t n W W o p x (i : Int) = some true := by
 have hl := hW.1; intro d
 induction d with
 | zero =>
  intro i o p hd hi _ _ _ _ ho hp k hk; obtain ⟨k, rfl⟩ : ∃ m, k = m + 1 := ⟨k - 1, by omega⟩
  unfold cntW at ho hp
  simp only [laws_FnBursts.l1]; rw [if_neg (by omega), if_pos (by omega), if_pos (by omega)]
  by_cases c : p < n
  ·rw [if_pos c]
  ·rw [if_neg c, decide_eq_true (by omega)]
 | succ d ih =>
  intro i o p hd hi o0 o1 p0 p1 ho hp k hk; obtain ⟨k, rfl⟩ : ∃ m, k = m + 1 + 1 := ⟨k - 2, by omega⟩; have hr := (hW.2 i (by omega)).1
  have ol : -9223372036854775808 ≤ o + 1 ∧ o + 1 ≤ 9223372036854775807 := by clear ho hp ih; omega
  have pl : -9223372036854775808 ≤ p + 1 ∧ p + 1 ≤ 9223372036854775807 := by clear ho hp ih; omega
  have hwi : ∀ _ : Unit, wrap64 ((i : Int) + 1) = ((i + 1 : Nat) : Int) := fun _ => w64 (by omega); have hwo : ∀ _ : Unit, wrap64 (o + 1) = o + 1 := fun _ => w64 ol; have hwp : ∀ _ : Unit, wrap64 (p + 1) = p + 1 := fun _ => w64 pl; clear ol pl
  have g1 : (i : Int) < (W.length : Int) := by omega
  have g2 : 0 ≤ (i : Int) := by omega
  unfold cntW at ho hp
  generalize hrow : rd_L6 W (i : Int) = w at hr ho hp
  have g3 : 0 < (w.length : Int) := by omega
  have g4 : 1 < (w.length : Int) := by omega
  -- the second half of a round
  have half : ∀ (b : Bool) (o' : Int), (o' = if b = true then o + 1 else o) → (o' + cntW W t (i + 1) d = CW W t) → laws_FnBursts.j6 (k + 1) t n W W o p x (i : Int) b = some true := by
   intro b o' eo ho'
   have o2 : 0 ≤ o' ∧ o' ≤ ((i + 1 : Nat) : Int) := by rw [eo]; split <;> omega
   by_cases c : inW x w = true
   ·rw [if_pos c] at hp
    have c' := inW_iff.1 c; have e := ih (i + 1) o' (p + 1) (by omega) (by omega) o2.1 o2.2 (by omega) (by omega) ho' (by omega) k (by omega); simp only [laws_FnBursts.j6]
    cases b with
    | true => rw [if_pos rfl] at eo; subst eo; rw [if_pos rfl, if_pos g2, if_pos g1, hrow, if_pos g3, if_pos c'.1, if_pos g4, if_pos c'.2, hwi (), hwo (), hwp ()]; exact e
    | false => rw [if_neg (by decide)] at eo; subst eo; rw [if_neg (by decide), if_pos g2, if_pos g1, hrow, if_pos g3, if_pos c'.1, if_pos g4, if_pos c'.2, hwi (), hwp ()]; exact e
   ·rw [if_neg c] at hp
    have e := ih (i + 1) o' p (by omega) (by omega) o2.1 o2.2 (by omega) (by omega) ho' (by omega) k (by omega); have c' : ¬ (rd w 0 ≤ x ∧ x ≤ rd w 1) := fun z => c (inW_iff.2 z); simp only [laws_FnBursts.j6]
    cases b with
    | true =>
     rw [if_pos rfl] at eo; subst eo; rw [if_pos rfl, if_pos g2, if_pos g1, hrow, if_pos g3, if_pos g4, hwi (), hwo ()]
     by_cases z : rd w 0 ≤ x
     ·rw [if_pos z, if_neg (fun y => c' ⟨z, y⟩)]; exact e
     ·rw [if_neg z]; exact e
    | false =>
     rw [if_neg (by decide)] at eo; subst eo; rw [if_neg (by decide), if_pos g2, if_pos g1, hrow, if_pos g3, if_pos g4, hwi ()]
     by_cases z : rd w 0 ≤ x
     ·rw [if_pos z, if_neg (fun y => c' ⟨z, y⟩)]; exact e
     ·rw [if_neg z]; exact e
  unfold laws_FnBursts.l1
  rw [if_pos g1, if_pos g2, if_pos g1, hrow, if_pos g3, if_pos g4]
  by_cases c : inW t w = true
  ·rw [if_pos c] at ho
   have c' := inW_iff.1 c; rw [if_pos c'.1, decide_eq_true c'.2]; exact half true (o + 1) rfl (by omega)
  ·rw [if_neg c] at ho
   have c' : ¬ (rd w 0 ≤ t ∧ t ≤ rd w 1) := fun z => c (inW_iff.2 z)
   by_cases z : rd w 0 ≤ t
   ·rw [if_pos z, decide_eq_false (fun y => c' ⟨z, y⟩)]
    exact half false o rfl (by omega)
   ·rw [if_neg z]
    exact half false o rfl (by omega)
theorem bst_end {c : List Int} (hc : Code c) {A : List S104} {B : List S62} {C : List S39} {q1 q2 q3 : Int} (h0 : isShow A B C = false → q3 = 1) (h1 : isShow A B C = true → q3 = 0 ∧ BestP (CW (allW A B C C.length)) (starts (allW A B C C.length)) (allW A B C C.length).length q1 q2) (k : Nat) (hk : c.length + 3000 ≤ k) :
  (if q3 = 0 then (laws_FnBursts.j4 k c q1 q2 q3 (winR A B C).1 (winR A B C).1 (((winR A B C).1.length : Int) == 0)) else (laws_FnBursts.j4 k c q1 q2 q3 (winR A B C).1 (winR A B C).1 true)) = some true := by
 obtain ⟨k, rfl⟩ : ∃ m, k = m + 1 := ⟨k - 1, by omega⟩
 cases h : isShow A B C with
 | false =>
  have := h0 h; subst this; simp only [laws_FnBursts.j4]; rw [if_neg (by decide), if_pos trivial, if_neg (by decide)]
 | true =>
  obtain ⟨e, hb⟩ := h1 h; subst e; have hW := allW_are h
  have hw : (winR A B C).1 = allW A B C C.length := by unfold winR; rw [if_pos h]
  rw [hw, if_pos rfl]; generalize allW A B C C.length = W at hb hW; have hl := hW.1; simp only [laws_FnBursts.j4]
  by_cases z : (W.length : Int) = 0
  ·have z' : W.length = 0 := by omega
   rw [if_pos (by rw [beq_iff_eq]; exact z), if_pos trivial]; rw [z'] at hb
   unfold BestP at hb
   rcases hb with ⟨_, e1, e2⟩ | ⟨_, ⟨j, hj, _⟩, _⟩
   ·rw [if_pos e1, e2]; rfl
   ·exact absurd hj (by omega)
  ·rw [if_neg (by rw [beq_iff_eq]; exact z)]
   obtain ⟨hh, e1⟩ := roll_ok hc 901; obtain ⟨r, i', h', e2, _, r0, r1⟩ := below_ok hc 0 hh (W.length : Int) (by omega) (by omega); rw [e1 k (by omega), Option.bind_some]
   dsimp only
   rw [e2, Option.bind_some]
   dsimp only
   obtain ⟨m, rfl⟩ : ∃ m : Nat, r = (m : Int) := ⟨r.toNat, by omega⟩; have hr := (hW.2 m (by omega)).1; rw [if_pos r0, if_pos r1, if_pos (by omega)]; have hm := most_any hb (by omega) (rd (rd_L6 W (m : Int)) 1)
   have hn : q2 = CW W q1 := by
    unfold BestP at hb
    rcases hb with ⟨e, _⟩ | ⟨_, ⟨j, _, _, e⟩, _⟩
    ·omega
    ·exact e
   exact bst_l1 hW hn hm.1 hm.2 W.length 0 0 0 (by omega) (by omega) (by omega) (by omega) (by omega) (by omega) (by unfold CW; omega) (by unfold CW; omega) k (by omega)
theorem find_article {A : List S104} {B : List S62} {C : List S39} (hF : Frame 100 A B C) (hB : B.length ≤ 60) (h : isShow A B C = true) {i : Nat} (hi : i < C.length) (k : Nat) (hk : 300 ≤ k) : impl_FindArticle.f k B (cu_at C i).f2 = some (find B (cu_at C i).f2, 0) ∧ spec_FindArticle.f k B (cu_at C i).f2 = some (find B (cu_at C i).f2, 0) := by
 have hb := (isShow_true h).2.1; have hf := (cu_ok h hi).2.1; refine ⟨?_, ?_⟩
 ·unfold impl_FindArticle.f
  rw [impl_arts 100 B (by omega) hF.2.2.2 k (by omega), Option.bind_some, hb, if_pos rfl, impl_find B (by omega) _ k (by omega), Option.bind_some, if_neg (by omega)]
 ·unfold spec_FindArticle.f
  rw [spec_arts 100 B (by omega) hF.2.2.2 k (by omega), Option.bind_some, hb, if_pos rfl, spec_find B (by omega) _ k (by omega), Option.bind_some, if_neg (by omega)]
theorem bst_l0 {c : List Int} {A : List S104} {B : List S62} {C : List S39} (hF : Frame 100 A B C) (hB : B.length ≤ 60) {q1 q2 q3 tol : Int} {W : List (List Int)} {Z : Nat} (hz : ∀ k, Z ≤ k → (if q3 = 0 then (laws_FnBursts.j4 k c q1 q2 q3 W W ((W.length : Int) == 0)) else (laws_FnBursts.j4 k c q1 q2 q3 W W true)) = some true)
  (h : isShow A B C = true) : ∀ d i, C.length - i = d → i ≤ C.length → ∀ k, Z + 3 * d + 400 ≤ k → laws_FnBursts.l0 k c q1 q2 q3 W W tol (offs B C tol) 0 (i : Int) A B C = some true := by
 have hC := (isShow_true h).2.2.1; intro d
 induction d with
 | zero =>
  intro i hd hi k hk; obtain ⟨k, rfl⟩ : ∃ m, k = m + 1 + 1 := ⟨k - 2, by omega⟩
  unfold laws_FnBursts.l0
  rw [if_pos rfl, decide_eq_false (by omega)]
  unfold laws_FnBursts.j2
  rw [if_neg (by decide)]; exact hz k (by omega)
 | succ d ih =>
  intro i hd hi k hk; obtain ⟨k, rfl⟩ : ∃ m, k = m + 1 + 1 + 1 := ⟨k - 3, by omega⟩; obtain ⟨f1, f2⟩ := find_article hF hB h (show i < C.length by omega) (k + 1) (by omega); obtain ⟨_, c2, c3, _⟩ := cu_ok h (show i < C.length by omega); have e := ih (i + 1) (by omega) (by omega) k (by omega)
  unfold laws_FnBursts.l0
  rw [if_pos rfl, decide_eq_true (by omega)]
  unfold laws_FnBursts.j2
  rw [if_pos rfl, if_pos (by omega), if_pos (by omega), rd_cue, f1, Option.bind_some, f2, Option.bind_some]
  dsimp only
  rw [if_pos rfl]
  unfold laws_FnBursts.j3
  have hh : laws_hasInt.f k (offs B C tol) (i : Int) = some (offP B C tol i) := by
   have hlen : (offs B C tol).length ≤ C.length := idxF_len _ _ _; rw [has_int_s _ (by omega) _ k (by omega)]
   congr 1
   rw [Bool.eq_iff_iff, decide_eq_true_iff]
   unfold offs
   rw [idxF_mem]; constructor
   ·rintro ⟨j, _, _, h3, h4⟩
    rw [show i = j by omega]; exact h3
   ·exact fun z => ⟨i, by omega, by omega, z, rfl⟩
  rw [if_neg (by decide), if_pos rfl, hh, Option.bind_some, if_pos c2, if_pos c3, rd_arOf B _ c2]
  unfold offP
  rw [if_neg (by simp), w64 (n := (i : Int) + 1) (by omega)]; exact e
theorem pure_FnBursts : laws_FnBursts.Pure := by
 intro c _ _ hb
 by_cases big : (c.length : Int) > 4096
 ·refine ⟨0, ?_⟩
  unfold laws_FnBursts.f laws_big.f
  simp only [Option.bind_some, decide_eq_true big, if_true]
 have hc : Code c := code_of big hb; have hcl := hc.1; obtain ⟨z, e0, h0⟩ := from_ok hc; obtain ⟨A, B, C, a1, s1, e1, h1, hA, hB, hS, hC⟩ := show_draw hc h0; have hF : Frame 100 A B C := ⟨by omega, by omega, by omega, by decide, hS⟩
 have d1 : ∀ k, 36893488147419104010 ≤ k → spec_DrawMostAtOnce.f k c = some (A, B, C) := fun k hk => by
  unfold spec_DrawMostAtOnce.f
  rw [e0 k (by omega), Option.bind_some]; dsimp only; rw [e1 k (by omega), Option.bind_some]
 obtain ⟨tol, d2⟩ : ∃ tol, ∀ k, 36893488147419104010 ≤ k → spec_DrawOffBeat.f k c = some (A, B, C, tol) := by
  obtain ⟨r2, a2, s2, e2, h2, _⟩ := next_ok hc h1 300 (by decide); obtain ⟨r3, a3, s3, e3, h3, _⟩ := next_ok hc h2 100 (by decide); obtain ⟨r4, a4, s4, e4, h4, _⟩ := pick_ok hc h3 [r2, r3, 0, 10000, 10001, (-1)] (by simp) (by simp); refine ⟨r4, fun k hk => ?_⟩
  unfold spec_DrawOffBeat.f
  rw [e0 k (by omega), Option.bind_some]; dsimp only; rw [e1 k (by omega), Option.bind_some]; dsimp only; rw [e2, Option.bind_some]; dsimp only; rw [e3, Option.bind_some]; dsimp only; rw [e4, Option.bind_some]
 obtain ⟨q1, q2, q3, ⟨k1, f1⟩, ⟨k2, f2⟩, m0, m1⟩ := most_ok 100 hF; obtain ⟨⟨k3, f3⟩, ⟨k4, f4⟩⟩ := win_ok 100 hF; obtain ⟨K, hK⟩ : ∃ K, K = k1 + k2 + k3 + k4 + 36893488147419104010 + 1000000 := ⟨_, rfl⟩; refine ⟨K + 1, ?_⟩; obtain ⟨o1, o2⟩ := off_ok 100 hF tol (K + 1) (by omega); have hw := winR_len (A := A) (B := B) (C := C); have ho := offR_len (A := A) (B := B) (C := C) (tol := tol) (by omega); have hend := fun k hk => bst_end hc m0 m1 k hk
 unfold laws_FnBursts.f laws_big.f
 rw [Option.bind_some, decide_eq_false big, if_neg (by decide), d1 _ (by omega), Option.bind_some]; dsimp only; rw [f2 _ (by omega), Option.bind_some, f1 _ (by omega), Option.bind_some, f4 _ (by omega), Option.bind_some, f3 _ (by omega), Option.bind_some, d2 _ (by omega), Option.bind_some]; dsimp only; rw [o2, Option.bind_some, o1, Option.bind_some, if_pos rfl, if_pos rfl, if_pos rfl, if_pos rfl, like_rows_s _ (by omega) (fun x hx => Nat.le_trans (hw.2 x hx) (by decide)) (K + 1) (by omega), Option.bind_some, if_pos rfl, if_pos rfl, like_ints_s _ (by omega) (K + 1) (by omega), Option.bind_some, if_pos rfl]; clear f1 f2 f3 f4 d1 d2 o1 o2 e0 e1
 have hone : ((winR A B C).2 != q3) = false := by
  unfold winR
  cases h : isShow A B C with
  | false => rw [m0 h, if_neg (by decide)]; rfl
  | true => rw [(m1 h).1, if_pos rfl]; rfl
 rw [hone]
 have ej : ∀ (k : Nat) (o : List Int) (b : Int), laws_FnBursts.j0 (k + 1) c q1 q2 q3 (winR A B C).1 (winR A B C).1 tol o b false A B C = laws_FnBursts.l0 k c q1 q2 q3 (winR A B C).1 (winR A B C).1 tol o b 0 A B C := fun k o b => by
  simp only [laws_FnBursts.j0]; rw [if_neg (by decide)]
 rw [ej]
 by_cases g : (offR A B C tol).2 = 0
 ·have hs : isShow A B C = true := by
   cases h : isShow A B C with
   | true => rfl
   | false => unfold offR at g; rw [h, if_neg (by decide)] at g; exact absurd g (by decide)
  have ho1 : (offR A B C tol).1 = offs B C tol := by
   unfold offR at g ⊢
   rw [if_pos hs] at g ⊢
   by_cases z : inB tol 0 10000 = true
   ·rw [if_pos z]
   ·rw [if_neg z] at g; exact absurd g (by decide)
  rw [g, ho1]; exact bst_l0 hF hB hend hs C.length 0 (by omega) (by omega) K (by omega)
 ·obtain ⟨K', rfl⟩ : ∃ m, K = m + 1 + 1 := ⟨K - 2, by omega⟩
  simp only [laws_FnBursts.l0]; rw [if_neg g]; simp only [laws_FnBursts.j2]; rw [if_neg (by decide)]; exact hend K' (by omega)
end Go.Proofs.Ythhijbdekboahaa.F
namespace Go.Proofs.Ythhijbdekboahaa.Pure
theorem FnBursts : Go.Proofs.Ythhijbdekboahaa.F.laws_FnBursts.Pure := Go.Proofs.Ythhijbdekboahaa.F.pure_FnBursts
end Go.Proofs.Ythhijbdekboahaa.Pure
namespace Go.Proofs.Ythhijbdekboahaa.F
end Go.Proofs.Ythhijbdekboahaa.F
