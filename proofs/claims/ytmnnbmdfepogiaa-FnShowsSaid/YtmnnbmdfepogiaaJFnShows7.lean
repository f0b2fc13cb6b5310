import Derived.Test.YtmnnbmdfepogiaaJFnShows6
import Derived.Below
import Derived.Deep.Draws
import Derived.Deep.AppendLies
import Derived.Maps.AppendAt
import Derived.OwnWalk
import Derived.Laws.BytesArg
import Derived.Laws.MakeOwn
import Derived.Laws.OwnMore
import Derived.Tactics
import Derived.Lib.ConvBytes
import Derived.Laws.Slices
import Derived.WalkKit
import Derived.KernelRfl
import Derived.RowKit3
import Derived.Deep.LoopGhost
import Derived.Deep.QuietTactic
import Derived.BigQuiet
import Derived.WideLaws
import Derived.Deep.DeepCutAuto
import Derived.Deep.CutBlock
import Derived.Deep.RegionHeld3
import Derived.Lib.AppendStr
import Derived.ArgAppend
import Derived.Laws.IdiomCopy
import Derived.RowKit
import Derived.OrdersHeld
import Derived.Laws.BitsLemmas
import Derived.Laws.StructEq
import Derived.Test.YtmnnbmdfepogiaaProg
import Derived.Laws.Cover1
import Derived.ChangeSlices
import Derived.OpenShut
namespace Go.Proofs.Ytmnnbmdfepogiaa.F
open Go.RowKit Go.Proofs.YtmnnbmdfepogiaaW.PrintWords Go.Proofs.YtmnnbmdfepogiaaW.PrintLast Go.Proofs.YtmnnbmdfepogiaaW.PrintMore
set_option linter.unusedVariables false
set_option linter.unusedSimpArgs false
def insAt (O : List Int) (p : Nat) (i : Int) : List Int := O.take p ++ i :: O.drop p
theorem insAt_len (O : List Int) (p : Nat) (i : Int) (h : p ≤ O.length) : (insAt O p i).length = O.length + 1 := by
 unfold insAt
 rw [List.length_append, List.length_take, List.length_cons, List.length_drop]; omega
theorem insAt_get (O : List Int) (p : Nat) (i : Int) (h : p ≤ O.length) (j : Nat) : (insAt O p i).getD j 0 = if j < p then O.getD j 0 else if j = p then i else O.getD (j - 1) 0 := by
 unfold insAt
 simp only [List.getD_eq_getElem?_getD]
 have hl : (O.take p).length = p := by rw [List.length_take]; omega
 by_cases c : j < p
 ·rw [if_pos c, List.getElem?_append_left (by omega), List.getElem?_take, if_pos c]
 ·rw [if_neg c, List.getElem?_append_right (by omega), hl]
  by_cases e : j = p
  ·rw [if_pos e, e, Nat.sub_self, List.getElem?_cons_zero]; rfl
  ·rw [if_neg e, show j - p = (j - 1 - p) + 1 by omega, List.getElem?_cons_succ, List.getElem?_drop, show p + (j - 1 - p) = j - 1 by omega]
def posF (T O : List Int) (t : Int) : Nat → Nat → Nat
 | x, 0 => x
 | x, d + 1 => if rd T (O.getD x 0) ≤ t then posF T O t (x + 1) d else x
theorem posF_range (T O : List Int) (t : Int) : ∀ d x, x ≤ posF T O t x d ∧ posF T O t x d ≤ x + d
 | 0, x => by unfold posF; omega
 | d + 1, x => by
  have := posF_range T O t d (x + 1)
  unfold posF
  split <;> omega
theorem posF_before (T O : List Int) (t : Int) : ∀ d x j, x ≤ j → j < posF T O t x d → rd T (O.getD j 0) ≤ t
 | 0, x, j, h1, h2 => by unfold posF at h2; omega
 | d + 1, x, j, h1, h2 => by
  unfold posF at h2
  by_cases c : rd T (O.getD x 0) ≤ t
  ·rw [if_pos c] at h2
   by_cases e : j = x
   ·rw [e]; exact c
   ·exact posF_before T O t d (x + 1) j (by omega) h2
  ·rw [if_neg c] at h2; omega
theorem posF_at (T O : List Int) (t : Int) : ∀ d x, posF T O t x d < x + d → t < rd T (O.getD (posF T O t x d) 0)
 | 0, x, h => by unfold posF at h; omega
 | d + 1, x, h => by
  unfold posF at h ⊢
  by_cases c : rd T (O.getD x 0) ≤ t
  ·rw [if_pos c] at h ⊢
   exact posF_at T O t d (x + 1) (by omega)
  ·rw [if_neg c]; omega
def pos (T O : List Int) (i : Nat) : Nat := posF T O (rd T (i : Int)) 0 O.length
def ordF (T : List Int) : Nat → List Int
 | 0 => []
 | i + 1 => insAt (ordF T i) (pos T (ordF T i) i) (i : Int)
theorem pos_le (T O : List Int) (i : Nat) : pos T O i ≤ O.length := by
 have := posF_range T O (rd T (i : Int)) O.length 0
 unfold pos; omega
structure Ord (T O : List Int) (m : Nat) : Prop where
 l : O.length = m
 r : ∀ j, j < m → 0 ≤ O.getD j 0 ∧ O.getD j 0 < (m : Int)
 s : ∀ a b, a < b → b < m → rd T (O.getD a 0) < rd T (O.getD b 0) ∨ (rd T (O.getD a 0) = rd T (O.getD b 0) ∧ O.getD a 0 < O.getD b 0)
theorem Ord.after {T O : List Int} {m : Nat} (h : Ord T O m) {i j : Nat} (h1 : pos T O i ≤ j) (h2 : j < m) : rd T (i : Int) < rd T (O.getD j 0) := by
 have e := posF_at T O (rd T (i : Int)) O.length 0; have hl := h.l; have hp : posF T O (rd T (i : Int)) 0 O.length = pos T O i := rfl; rw [hp] at e; have e1 := e (by omega)
 by_cases c : pos T O i = j
 ·rw [← c]; exact e1
 ·have := h.s (pos T O i) j (by omega) h2
  omega
theorem Ord.before {T O : List Int} {i j : Nat} (h1 : j < pos T O i) : rd T (O.getD j 0) ≤ rd T (i : Int) := posF_before T O _ O.length 0 j (by omega) h1
theorem ordF_ord (T : List Int) : ∀ m, Ord T (ordF T m) m
 | 0 => ⟨rfl, fun j h => absurd h (by omega), fun a b _ h => absurd h (by omega)⟩
 | m + 1 => by
  have ih := ordF_ord T m; have hp := pos_le T (ordF T m) m; have hl := ih.l
  unfold ordF
  refine ⟨by rw [insAt_len _ _ _ hp]; omega, fun j hj => ?_, fun a b hab hb => ?_⟩
  ·rw [insAt_get _ _ _ hp]
   split
   ·have := ih.r j (by omega); omega
   ·split
    ·omega
    ·have := ih.r (j - 1) (by omega); omega
  ·rw [insAt_get _ _ _ hp a, insAt_get _ _ _ hp b]
   by_cases a1 : a < pos T (ordF T m) m
   ·rw [if_pos a1]
    by_cases b1 : b < pos T (ordF T m) m
    ·rw [if_pos b1]; exact ih.s a b hab (by omega)
    ·rw [if_neg b1]
     by_cases b2 : b = pos T (ordF T m) m
     ·rw [if_pos b2]
      have h1 := Ord.before (T := T) (O := ordF T m) (i := m) a1; have h2 := (ih.r a (by omega)).2
      omega
     ·rw [if_neg b2]; exact ih.s a (b - 1) (by omega) (by omega)
   ·rw [if_neg a1, if_neg (show ¬ b < pos T (ordF T m) m by omega), if_neg (show ¬ b = pos T (ordF T m) m by omega)]
    by_cases a2 : a = pos T (ordF T m) m
    ·rw [if_pos a2]
     have h1 := ih.after (i := m) (j := b - 1) (by omega) (by omega); exact .inl h1
    ·rw [if_neg a2]; exact ih.s (a - 1) (b - 1) (by omega) (by omega)
theorem spec_order_in (T : List Int) (hT : T.length ≤ 100000) (i : Nat) (hi : i < T.length) (O : List Int) (hO : O.length = i) (hr : ∀ j, j < O.length → 0 ≤ O.getD j 0 ∧ O.getD j 0 < (T.length : Int)) : ∀ d x, O.length - x = d → x ≤ O.length → ∀ k, spec_l08Order.l1 (k + (posF T O (rd T (i : Int)) x d - x + 1)) T O (i : Int) (x : Int) = spec_l08Order.l0 k T (insAt O (posF T O (rd T (i : Int)) x d) (i : Int)) ((i + 1 : Nat) : Int) := by
 have hw : wrap64 ((i : Int) + 1) = ((i + 1 : Nat) : Int) := w64 (by omega)
 have stop : ∀ (x : Nat) (k : Nat), x ≤ O.length → (([] : List Int) ++ O.take x ++ [(i : Int)] ++ O.drop x) = insAt O x (i : Int) := fun x k _ => by
  unfold insAt; rw [List.nil_append, List.append_assoc]; rfl
 have l1 : ∀ x, x ≤ O.length → (([] : List Int).length + (O.take x).length < 17592186044416) ∧ (([] : List Int) ++ O.take x).length + [(i : Int)].length < 17592186044416 ∧ (([] : List Int) ++ O.take x ++ [(i : Int)]).length + (O.drop x).length < 17592186044416 := fun x hx => by
  simp only [List.length_append, List.length_take, List.length_drop, List.length_nil, List.length_cons]; omega
 intro d
 induction d with
 | zero =>
  intro x hd hx k; show spec_l08Order.l1 (k + (x - x + 1)) T O (i : Int) (x : Int) = spec_l08Order.l0 k T (insAt O x (i : Int)) ((i + 1 : Nat) : Int); rw [show k + (x - x + 1) = k + 1 by omega]; obtain ⟨c1, c2, c3⟩ := l1 x hx
  unfold spec_l08Order.l1
  simp only [Option.bind_some]; rw [if_neg (by omega), if_pos (by omega), if_pos (by omega), Int.toNat_natCast, if_pos c1, if_pos c2, if_pos c3, stop x k hx, hw]
 | succ d ih =>
  intro x hd hx k; have hrx := hr x (by omega)
  by_cases c : rd T (O.getD x 0) ≤ rd T (i : Int)
  ·have hp : posF T O (rd T (i : Int)) x (d + 1) = posF T O (rd T (i : Int)) (x + 1) d := by
    show (if rd T (O.getD x 0) ≤ rd T (i : Int) then _ else _) = _; rw [if_pos c]
   have hg := posF_range T O (rd T (i : Int)) d (x + 1); have e := ih (x + 1) (by omega) (by omega) k; rw [hp, show k + (posF T O (rd T (i : Int)) (x + 1) d - x + 1) = (k + (posF T O (rd T (i : Int)) (x + 1) d - (x + 1) + 1)) + 1 by omega]
   revert e
   generalize k + (posF T O (rd T (i : Int)) (x + 1) d - (x + 1) + 1) = q; intro e
   unfold spec_l08Order.l1
   rw [if_pos (by omega), if_pos (by omega), rd_nat, if_pos hrx.1, if_pos hrx.2, if_pos (by omega), if_pos (by omega), if_pos c, w64 (n := (x : Int) + 1) (by omega)]; exact e
  ·have hp : posF T O (rd T (i : Int)) x (d + 1) = x := by
    show (if rd T (O.getD x 0) ≤ rd T (i : Int) then _ else _) = _; rw [if_neg c]
   rw [hp, show k + (x - x + 1) = k + 1 by omega]; obtain ⟨c1, c2, c3⟩ := l1 x hx
   unfold spec_l08Order.l1
   simp only [Option.bind_some]; rw [if_pos (by omega), if_pos (by omega), rd_nat, if_pos hrx.1, if_pos hrx.2, if_pos (by omega), if_pos (by omega), if_neg c, Int.toNat_natCast, if_pos c1, if_pos (by omega), if_pos c2, if_pos c3, stop x k hx, hw]
theorem spec_order_go (T : List Int) (hT : T.length ≤ 100000) : ∀ d i, T.length - i = d → i ≤ T.length → ∀ k, d * (T.length + 3) + 1 ≤ k → spec_l08Order.l0 k T (ordF T i) (i : Int) = some (ordF T T.length) := by
 intro d
 induction d with
 | zero =>
  intro i hd hi k hk; obtain ⟨k, rfl⟩ : ∃ m, k = m + 1 := ⟨k - 1, by omega⟩
  unfold spec_l08Order.l0
  rw [if_neg (by omega), show i = T.length by omega]
 | succ d ih =>
  intro i hd hi k hk; have ho := ordF_ord T i; have hl := ho.l; have hp := pos_le T (ordF T i) i; have hm : (d + 1) * (T.length + 3) = d * (T.length + 3) + (T.length + 3) := Nat.succ_mul _ _; obtain ⟨k, rfl⟩ : ∃ m, k = m + (pos T (ordF T i) i - 0 + 1) + 1 := ⟨k - (pos T (ordF T i) i - 0 + 1) - 1, by omega⟩
  unfold spec_l08Order.l0
  rw [if_pos (by omega)]; refine (spec_order_in T hT i (by omega) (ordF T i) hl (fun j hj => by have := ho.r j (by omega); omega) (ordF T i).length 0 (by omega) (by omega) k).trans ?_; exact ih (i + 1) (by omega) (by omega) k (by omega)
theorem spec_order (T : List Int) (hT : T.length ≤ 100000) (k : Nat) (hk : T.length * (T.length + 3) + 1 ≤ k) : spec_l08Order.f k T = some (ordF T T.length) := spec_order_go T hT T.length 0 (by omega) (by omega) k hk
theorem cpyup_put (O : List Int) (p : Nat) (hp : p ≤ O.length) (v : Int) : (cpyup (O ++ [0]) p).set p v = insAt O p v := by
 unfold cpyup insAt
 have h1 : (O ++ [0]).take (p + 1) = O.take p ++ ((O ++ [0]).drop p).take 1 := by
  rw [List.take_add, List.take_append_of_le_length hp]
 have h2 : ((O ++ [(0 : Int)]).drop p).take ((O ++ [(0 : Int)]).length - (p + 1)) = O.drop p := by
  rw [List.drop_append_of_le_length hp, List.length_append, List.length_singleton, List.take_append_of_le_length (by rw [List.length_drop]; omega)]; exact List.take_of_length_le (by rw [List.length_drop]; omega)
 have h3 : ∃ y, ((O ++ [(0 : Int)]).drop p).take 1 = [y] := by
  cases h : (O ++ [(0 : Int)]).drop p with
  | nil =>
   have := congrArg List.length h; rw [List.length_drop, List.length_append, List.length_singleton] at this
   simp at this; omega
  | cons y r => exact ⟨y, rfl⟩
 obtain ⟨y, hy⟩ := h3; rw [h1, h2, hy, List.append_assoc, List.set_append_right _ _ (by rw [List.length_take]; omega)]; rw [show p - (O.take p).length = 0 by rw [List.length_take]; omega]
 rfl
theorem cpyup_len (xs : List Int) (p : Nat) (h : p < xs.length) : (cpyup xs p).length = xs.length := by
 unfold cpyup
 rw [List.length_append, List.length_take, List.length_take, List.length_drop]; omega
theorem impl_order_in (T : List Int) (hT : T.length ≤ 100000) (i : Nat) (hi : i < T.length) (O : List Int) (ho : Ord T O i) : ∀ d x, x - pos T O i = d → pos T O i ≤ x → x ≤ O.length → ∀ k, impl_FireOrder.l1 (k + (d + 1)) T O (i : Int) (x : Int) (T.length : Int) (i : Int) = impl_FireOrder.l0 k T (insAt O (pos T O i) (i : Int)) (T.length : Int) ((i + 1 : Nat) : Int) := by
 have hw : ∀ _ : Unit, wrap64 ((i : Int) + 1) = ((i + 1 : Nat) : Int) := fun _ => w64 (by omega); have hO := ho.l
 have hlim : O.length < 17592186044416 := by omega
 have hl1 : (O ++ [(0 : Int)]).length = O.length + 1 := by rw [List.length_append, List.length_singleton]
 -- the place is found
 have stop : ∀ x : Nat, x = pos T O i → x ≤ O.length → ∀ q, (if O.length < 17592186044416 then ((some (O ++ [0] : List Int)).bind fun y270 => (if 0 ≤ (wrap64 ((x : Int) + 1)) then (if (wrap64 ((x : Int) + 1)) ≤ (y270.length : Int) then (if 0 ≤ (x : Int) then (if (x : Int) ≤ (y270.length : Int) then ((some (cpyup y270 ((x : Int) : Int).toNat : List Int)).bind fun y281 => (if (x : Int) < (y281.length : Int) then (impl_FireOrder.l0 q T (y281.set ((x : Int) : Int).toNat (i : Int)) (T.length : Int) (wrap64 ((i : Int) + 1))) else (none))) else (none)) else (none)) else (none)) else (none))) else (none)) = impl_FireOrder.l0 q T (insAt O (pos T O i) (i : Int)) (T.length : Int) ((i + 1 : Nat) : Int) := by
  intro x hx hxl q; have w1 : ∀ _ : Unit, wrap64 ((x : Int) + 1) = ((x + 1 : Nat) : Int) := fun _ => w64 (by omega); rw [if_pos hlim, Option.bind_some]; rw [w1 (), if_pos (by omega), if_pos (by omega), if_pos (by omega), if_pos (by omega), Option.bind_some]; rw [Int.toNat_natCast, cpyup_len _ _ (by omega), if_pos (by omega), cpyup_put O x hxl, hw (), hx]
 intro d
 induction d with
 | zero =>
  intro x hd h1 h2 k; show impl_FireOrder.l1 (k + 1) T O (i : Int) (x : Int) (T.length : Int) (i : Int) = _
  have hx : x = pos T O i := by omega
  unfold impl_FireOrder.l1
  by_cases c : (x : Int) > 0
  ·have w1 : ∀ _ : Unit, wrap64 ((x : Int) - 1) = ((x - 1 : Nat) : Int) := fun _ => by rw [w64 (by omega)]; omega
   have hr := ho.r (x - 1) (by omega); have hb := Ord.before (T := T) (O := O) (i := i) (j := x - 1) (by omega); rw [if_pos c, w1 (), if_pos (by omega), if_pos (by omega), rd_nat, if_pos hr.1, if_pos (by omega), if_pos (by omega), if_pos (by omega), if_neg (by omega)]; exact stop x hx h2 k
  ·rw [if_neg c]
   exact stop x hx h2 k
 | succ d ih =>
  intro x hd h1 h2 k
  have w1 : ∀ _ : Unit, wrap64 ((x : Int) - 1) = ((x - 1 : Nat) : Int) := fun _ => by rw [w64 (by omega)]; omega
  have hr := ho.r (x - 1) (by omega); have hb := ho.after (i := i) (j := x - 1) (by omega) (by omega); have e := ih (x - 1) (by omega) (by omega) (by omega) k; rw [show k + (d + 1 + 1) = (k + (d + 1)) + 1 by omega]
  revert e
  generalize k + (d + 1) = q; intro e
  unfold impl_FireOrder.l1
  rw [if_pos (by omega), w1 (), if_pos (by omega), if_pos (by omega), rd_nat, if_pos hr.1, if_pos (by omega), if_pos (by omega), if_pos (by omega), if_pos (by omega)]; exact e
theorem impl_order_go (T : List Int) (hT : T.length ≤ 100000) : ∀ d i, T.length - i = d → i ≤ T.length → ∀ k, d * (T.length + 3) + 1 ≤ k → impl_FireOrder.l0 k T (ordF T i) (T.length : Int) (i : Int) = some (ordF T T.length, 0) := by
 intro d
 induction d with
 | zero =>
  intro i hd hi k hk; obtain ⟨k, rfl⟩ : ∃ m, k = m + 1 := ⟨k - 1, by omega⟩
  unfold impl_FireOrder.l0
  rw [if_neg (by omega), show i = T.length by omega]
 | succ d ih =>
  intro i hd hi k hk; have ho := ordF_ord T i; have hl := ho.l; have hp := pos_le T (ordF T i) i; have hm : (d + 1) * (T.length + 3) = d * (T.length + 3) + (T.length + 3) := Nat.succ_mul _ _; obtain ⟨k, rfl⟩ : ∃ m, k = m + ((ordF T i).length - pos T (ordF T i) i + 1) + 1 := ⟨k - ((ordF T i).length - pos T (ordF T i) i + 1) - 1, by omega⟩
  unfold impl_FireOrder.l0
  rw [if_pos (by omega)]; refine (impl_order_in T hT i (by omega) (ordF T i) ho _ (ordF T i).length rfl hp (Nat.le_refl _) k).trans ?_; exact ih (i + 1) (by omega) (by omega) k (by omega)
def orderR (A : List S104) (B : List S61) (C : List S58) : List Int × Int := if isShow A B C = true then (ordF (fts A B C) C.length, 0) else ([], 1)
theorem order_ok (n0 : Nat) {A : List S104} {B : List S61} {C : List S58} (hF : Frame n0 A B C) (k : Nat) (hk : 36893488147419103528 ≤ k) : spec_FireOrder.f k A B C = some (orderR A B C) ∧ impl_FireOrder.f k A B C = some (orderR A B C) := by
 unfold spec_FireOrder.f impl_FireOrder.f orderR
 rw [ss_ok hF k (by omega), si_ok hF k (by omega)]; simp only [Option.bind_some]
 by_cases h : isShow A B C = true
 ·have hC := (isShow_true h).2.2.1
  have hl := fts_len A B C
  have hb : (fts A B C).length * ((fts A B C).length + 3) + 1 ≤ 1000 := by
   rw [hl]; have : C.length * (C.length + 3) ≤ 20 * 23 := Nat.mul_le_mul hC (by omega)
   omega
  rw [if_pos h, if_pos h, if_pos h, (times_ok h k (by omega)).1, (times_ok h k (by omega)).2]; simp only [Option.bind_some]; rw [spec_order _ (by omega) k (by omega), Option.bind_some, ← hl]; exact ⟨rfl, impl_order_go _ (by omega) (fts A B C).length 0 (by omega) (by omega) k (by omega)⟩
 ·rw [if_neg h, if_neg h, if_neg h]
  exact ⟨rfl, rfl⟩
theorem orderR_len {A : List S104} {B : List S61} {C : List S58} (hC : C.length ≤ 1000000) : (orderR A B C).1.length ≤ 3000000 := by
 unfold orderR
 split
 ·show (ordF (fts A B C) C.length).length ≤ _
  rw [(ordF_ord _ _).l]; omega
 ·show 0 ≤ _
  omega
theorem artFor_ok {A : List S104} {B : List S61} {C : List S58} (h : isShow A B C = true) {i : Nat} (hi : i < C.length) (k : Nat) (hk : 100 ≤ k) : impl_articleFor.f k A B C (cu_at C i).f0 (cu_at C i).f1 (cu_at C i).f2 (cu_at C i).f3 = some ((arOf B (cu_at C i)).f0, (arOf B (cu_at C i)).f1, (arOf B (cu_at C i)).f2, (arOf B (cu_at C i)).f3, (arOf B (cu_at C i)).f4, (arOf B (cu_at C i)).f5, (arOf B (cu_at C i)).f6, (arOf B (cu_at C i)).f7, (arOf B (cu_at C i)).f8) := by
 obtain ⟨h1, h2, h3, _⟩ := cu_ok h hi; have hB := (areArts_true (isShow_true h).2.1).1
 unfold impl_articleFor.f
 rw [impl_find B (by omega) _ k (by omega)]; simp only [Option.bind_some]; rw [if_pos h2, if_pos h3, rd_arOf B _ h2]
theorem shot_range {a : S61} (h : art a = true) {j : Int} (h0 : 0 ≤ j) (h1 : j < a.f5) : 0 ≤ j * a.f6 ∧ j * a.f6 ≤ 490000 := by
 have ha := art_true h; have h2 : 0 ≤ j * a.f6 := Int.mul_nonneg h0 (by omega); have h3 : j * a.f6 ≤ 49 * a.f6 := Int.mul_le_mul_of_nonneg_right (by omega) (by omega)
 omega
def endOf (A : List S104) (B : List S61) (c : S58) : Int := ftime A B c + (arOf B c).f3 + ((arOf B c).f5 - 1) * (arOf B c).f6 + (arOf B c).f4
def endF (A : List S104) (B : List S61) (C : List S58) : Nat → Nat → Int → Int
 | _, 0, e => e
 | i, d + 1, e => endF A B C (i + 1) d (mx e (endOf A B (cu_at C i)))
def showEndR (A : List S104) (B : List S61) (C : List S58) : Int × Int := if isShow A B C = true then (endF A B C 0 C.length 0, 0) else (0, 1)
theorem endOf_le {A : List S104} {B : List S61} {C : List S58} (h : isShow A B C = true) {i : Nat} (hi : i < C.length) : ftime A B (cu_at C i) + (arOf B (cu_at C i)).f3 ≤ endOf A B (cu_at C i) := by
 obtain ⟨h1, h2, h3, h4, h5, h6⟩ := cu_ok h hi; have ha := art_true h6; have := shot_range h6 (j := (arOf B (cu_at C i)).f5 - 1) (by omega) (by omega)
 unfold endOf
 omega
theorem endF_ge {A : List S104} {B : List S61} {C : List S58} : ∀ (d i : Nat) (e : Int), e ≤ endF A B C i d e ∧ ∀ j, i ≤ j → j < i + d → endOf A B (cu_at C j) ≤ endF A B C i d e
 | 0, i, e => ⟨Int.le_refl _, fun j h1 h2 => absurd h2 (by omega)⟩
 | d + 1, i, e => by
  have h := endF_ge (A := A) (B := B) (C := C) d (i + 1) (mx e (endOf A B (cu_at C i)))
  have m1 : e ≤ mx e (endOf A B (cu_at C i)) := by unfold mx; split <;> omega
  have m2 : endOf A B (cu_at C i) ≤ mx e (endOf A B (cu_at C i)) := by unfold mx; split <;> omega
  unfold endF
  refine ⟨by have := h.1; omega, fun j h1 h2 => ?_⟩
  by_cases c : j = i
  ·subst c; have := h.1; omega
  ·exact h.2 j (by omega) (by omega)
theorem end_go {A : List S104} {B : List S61} {C : List S58} (h : isShow A B C = true) : ∀ d k i e, C.length - i = d → i ≤ C.length → d + 110 ≤ k → spec_ShowEnd.l0 k e (i : Int) A B C = some (endF A B C i d e, 0) ∧ impl_ShowEnd.l0 k e C (C.length : Int) (i : Int) A B C = some (endF A B C i d e, 0) := by
 have hC := (isShow_true h).2.2.1; have hB := (areArts_true (isShow_true h).2.1).1; intro d
 induction d with
 | zero =>
  intro k i e hd hi hk; obtain ⟨k, rfl⟩ : ∃ m, k = m + 1 := ⟨k - 1, by omega⟩; simp only [spec_ShowEnd.l0, impl_ShowEnd.l0]; rw [if_neg (by omega), if_neg (by omega)]; exact ⟨rfl, rfl⟩
 | succ d ih =>
  intro k i e hd hi hk; obtain ⟨k, rfl⟩ : ∃ m, k = m + 1 := ⟨k - 1, by omega⟩
  have hi' : i < C.length := by omega
  obtain ⟨h1, h2, h3, h4, h5, h6⟩ := cu_ok h hi'; have ha := art_true h6; have sr := shot_range h6 (j := (arOf B (cu_at C i)).f5 - 1) (by omega) (by omega); obtain ⟨a, b⟩ := ih k (i + 1) (mx e (endOf A B (cu_at C i))) (by omega) (by omega) (by omega); obtain ⟨t1, t2⟩ := cue_time h hi' k (by omega)
  have g1 : (i : Int) < (C.length : Int) := by omega
  have g2 : 0 ≤ (i : Int) := by omega
  have we : endOf A B (cu_at C i) = ftime A B (cu_at C i) + (arOf B (cu_at C i)).f3 + ((arOf B (cu_at C i)).f5 - 1) * (arOf B (cu_at C i)).f6 + (arOf B (cu_at C i)).f4 := rfl; constructor
  ·simp only [spec_ShowEnd.l0]
   rw [if_pos g1, if_pos g2, rd_cue, spec_find B (by omega) _ k (by omega)]; simp only [Option.bind_some]; rw [if_pos h2, if_pos h3, t1, rd_arOf B _ h2, w64 (n := (i : Int) + 1) (by omega)]; simp only [Option.bind_some, spec_l03Window.f]; rw [w64 (n := (arOf B (cu_at C i)).f5 - 1) (by omega), w64 (n := ftime A B (cu_at C i) + (arOf B (cu_at C i)).f3) (by omega), w64 (n := ((arOf B (cu_at C i)).f5 - 1) * (arOf B (cu_at C i)).f6) (by omega), w64 (n := ftime A B (cu_at C i) + (arOf B (cu_at C i)).f3 + ((arOf B (cu_at C i)).f5 - 1) * (arOf B (cu_at C i)).f6) (by omega), w64 (n := ftime A B (cu_at C i) + (arOf B (cu_at C i)).f3 + ((arOf B (cu_at C i)).f5 - 1) * (arOf B (cu_at C i)).f6 + (arOf B (cu_at C i)).f4) (by omega)]; rw [if_pos (by show (1 : Int) < ((2 : Nat) : Int); decide)]; exact a
  ·simp only [impl_ShowEnd.l0]
   rw [if_pos g1, if_pos g2, if_pos g1, rd_cue, t2, w64 (n := (i : Int) + 1) (by omega)]; simp only [Option.bind_some]; rw [artFor_ok h hi' k (by omega)]; simp only [Option.bind_some, impl_lengthOf.f]; rw [w64 (n := (arOf B (cu_at C i)).f5 - 1) (by omega), w64 (n := (arOf B (cu_at C i)).f3 + (arOf B (cu_at C i)).f4) (by omega), w64 (n := ((arOf B (cu_at C i)).f5 - 1) * (arOf B (cu_at C i)).f6) (by omega), w64 (n := (arOf B (cu_at C i)).f3 + (arOf B (cu_at C i)).f4 + ((arOf B (cu_at C i)).f5 - 1) * (arOf B (cu_at C i)).f6) (by omega), w64 (n := ftime A B (cu_at C i) + ((arOf B (cu_at C i)).f3 + (arOf B (cu_at C i)).f4 + ((arOf B (cu_at C i)).f5 - 1) * (arOf B (cu_at C i)).f6)) (by omega)]; rw [show ftime A B (cu_at C i) + ((arOf B (cu_at C i)).f3 + (arOf B (cu_at C i)).f4 + ((arOf B (cu_at C i)).f5 - 1) * (arOf B (cu_at C i)).f6) = endOf A B (cu_at C i) by rw [we]; omega]; exact b
theorem showEnd_ok (n0 : Nat) {A : List S104} {B : List S61} {C : List S58} (hF : Frame n0 A B C) (k : Nat) (hk : 36893488147419103528 ≤ k) : spec_ShowEnd.f k A B C = some (showEndR A B C) ∧ impl_ShowEnd.f k A B C = some (showEndR A B C) := by
 unfold spec_ShowEnd.f impl_ShowEnd.f showEndR
 rw [ss_ok hF k (by omega), si_ok hF k (by omega)]; simp only [Option.bind_some]
 cases h : isShow A B C with
 | false => exact ⟨rfl, rfl⟩
 | true =>
  simp only [if_true]; have hC := (isShow_true h).2.2.1; exact end_go h C.length k 0 0 (by omega) (by omega) (by omega)
theorem impl_btime {xs : List S104} (h : isScore xs = true) (b : Nat) (hb : b < xs.length) (a : Int) (ha : 0 ≤ a ∧ a < bt_at xs b) (k : Nat) (hk : xs.length + 2 ≤ k) : impl_BeatTime.f k xs (b : Int) a = some (tm xs b + a * ln_at xs b, 0) := by
 have hs := isScore_true h; have hb2 := hs.2.2 b hb
 have g : hasBeat xs (b : Int) a = true := by
  unfold hasBeat
  rw [Bool.and_eq_true, inB_true, inB_true, Int.toNat_natCast]
  omega
 unfold impl_BeatTime.f
 rw [impl_score xs (by omega) k (by omega), h]; simp only [Option.bind_some]; rw [impl_has h, g, impl_time h b a (.inl hb) (by omega) k (by omega)]; rfl
def timesR (A : List S104) (B : List S61) (C : List S58) : List Int × Int := if isShow A B C = true then (fts A B C, 0) else ([], 1)
theorem timesR_ok (n0 : Nat) {A : List S104} {B : List S61} {C : List S58} (hF : Frame n0 A B C) (k : Nat) (hk : 36893488147419103528 ≤ k) : spec_FireTimes.f k A B C = some (timesR A B C) ∧ impl_FireTimes.f k A B C = some (timesR A B C) := by
 unfold spec_FireTimes.f impl_FireTimes.f timesR
 rw [ss_ok hF k (by omega), si_ok hF k (by omega)]; simp only [Option.bind_some]
 by_cases h : isShow A B C = true
 ·rw [if_pos h, if_pos h, if_pos h, (times_ok h k (by omega)).1, (times_ok h k (by omega)).2]
  exact ⟨rfl, rfl⟩
 ·rw [if_neg h, if_neg h, if_neg h]
  exact ⟨rfl, rfl⟩
theorem draw_time {c : List Int} (hc : Code c) {a s : Int} (h : St c a s) : ∃ r a' s', spec_l01DrawTime.f c a s = some (r, a', s') := by
 obtain ⟨r1, a1, s1, e1, h1, _⟩ := next_ok hc h 16 (by decide)
 by_cases z : r1 = 0
 ·obtain ⟨r2, a2, s2, e2, h2, _⟩ := pick_ok hc h1 [0, 10000000, 10000001, (-1)] (by simp) (by simp)
  refine ⟨r2, a2, s2, ?_⟩
  unfold spec_l01DrawTime.f
  rw [e1, Option.bind_some]; dsimp only; rw [if_pos z, e2, Option.bind_some]
 ·obtain ⟨r2, a2, s2, e2, h2, _⟩ := next_ok hc h1 1000000 (by decide)
  obtain ⟨r3, a3, s3, e3, h3, _⟩ := next_ok hc h2 60000 (by decide); obtain ⟨r4, a4, s4, e4, h4, _⟩ := next_ok hc h3 10000001 (by decide); obtain ⟨r5, a5, s5, e5, h5, _⟩ := pick_ok hc h4 [r2, r3, r4] (by simp) (by simp); refine ⟨r5, a5, s5, ?_⟩
  unfold spec_l01DrawTime.f
  rw [e1, Option.bind_some]; dsimp only; rw [if_neg z, e2, Option.bind_some]; dsimp only; rw [e3, Option.bind_some]; dsimp only; rw [e4, Option.bind_some]; dsimp only; rw [e5, Option.bind_some]
theorem fired_draw {c : List Int} (hc : Code c) : ∃ A B C t, (∀ k, 36893488147419104020 ≤ k → spec_DrawFiredAt.f k c = some (A, B, C, t)) ∧ A.length ≤ 60 ∧ B.length ≤ 60 ∧ SmallArts B ∧ C.length ≤ 60 := by
 obtain ⟨z, e0, h0⟩ := from_ok hc; obtain ⟨A, B, C, a1, s1, e1, h1, hA, hB, hS, hC⟩ := show_draw hc h0; have hF : Frame 100 A B C := ⟨by omega, by omega, by omega, by decide, hS⟩; obtain ⟨rT, aT, sT, eT⟩ := draw_time hc h1
 -- the joint behind
 have jf : ∀ (a s : Int), St c a s → ∃ t, ∀ k, spec_DrawFiredAt.j0 (k + 1) (timesR A B C).1 false c a s A B C = some (A, B, C, t) := fun a s h => by
  obtain ⟨r, a', s', e⟩ := draw_time hc h; refine ⟨r, fun k => ?_⟩; simp only [spec_DrawFiredAt.j0]; rw [if_neg (by decide), e, Option.bind_some]
 have start : ∀ k, 36893488147419104020 ≤ k → spec_DrawFiredAt.f k c = (if (timesR A B C).2 = 0 then (if ((timesR A B C).1.length : Int) > 0 then ((spec_l01Next.f c a1 s1 3).bind fun bt717 => (spec_DrawFiredAt.j0 k (timesR A B C).1 (decide (bt717.1 > 0)) c bt717.2.1 bt717.2.2 A B C)) else (spec_DrawFiredAt.j0 k (timesR A B C).1 false c a1 s1 A B C)) else (spec_DrawFiredAt.j0 k (timesR A B C).1 false c a1 s1 A B C)) := fun k hk => by
  unfold spec_DrawFiredAt.f
  rw [e0 k (by omega), Option.bind_some]; dsimp only; rw [e1 k (by omega), Option.bind_some]; dsimp only; rw [(timesR_ok 100 hF k (by omega)).1, Option.bind_some]
 have pred : ∀ k, 36893488147419104020 ≤ k → ∃ m, k = m + 1 := fun k hk => ⟨k - 1, by omega⟩
 by_cases g : (timesR A B C).2 = 0 ∧ ((timesR A B C).1.length : Int) > 0
 ·obtain ⟨r2, a2, s2, e2, h2, _⟩ := next_ok hc h1 3 (by decide)
  by_cases g2 : r2 > 0
  ·have hl : (timesR A B C).1.length ≤ 60 := by
    unfold timesR
    split
    ·show (fts A B C).length ≤ 60
     rw [fts_len]; omega
    ·show 0 ≤ 60
     omega
   obtain ⟨r3, a3, s3, e3, h3, h30, h31⟩ := next_ok hc h2 ((timesR A B C).1.length : Int) (by omega); refine ⟨A, B, C, rd (timesR A B C).1 r3, fun k hk => ?_, hA, hB, hS, hC⟩; rw [start k hk, if_pos g.1, if_pos g.2, e2, Option.bind_some]; dsimp only; obtain ⟨m, rfl⟩ := pred k hk; rw [decide_eq_true g2]; simp only [spec_DrawFiredAt.j0]; rw [if_pos trivial, e3, Option.bind_some]; dsimp only; rw [if_pos h30, if_pos (by omega)]
  ·obtain ⟨t, ht⟩ := jf a2 s2 h2
   refine ⟨A, B, C, t, fun k hk => ?_, hA, hB, hS, hC⟩; rw [start k hk, if_pos g.1, if_pos g.2, e2, Option.bind_some]; dsimp only; obtain ⟨m, rfl⟩ := pred k hk; rw [decide_eq_false g2]; exact ht m
 ·obtain ⟨t, ht⟩ := jf a1 s1 h1
  refine ⟨A, B, C, t, fun k hk => ?_, hA, hB, hS, hC⟩; rw [start k hk]; obtain ⟨m, rfl⟩ := pred k hk
  by_cases g1 : (timesR A B C).2 = 0
  ·rw [if_pos g1, if_neg (fun z => g ⟨g1, z⟩)]
   exact ht m
  ·rw [if_neg g1]
   exact ht m
theorem find_article {A : List S104} {B : List S61} {C : List S58} (hF : Frame 100 A B C) (hB : B.length ≤ 60) (h : isShow A B C = true) {i : Nat} (hi : i < C.length) (k : Nat) (hk : 300 ≤ k) : impl_FindArticle.f k B (cu_at C i).f2 = some (find B (cu_at C i).f2, 0) ∧ spec_FindArticle.f k B (cu_at C i).f2 = some (find B (cu_at C i).f2, 0) := by
 have hb := (isShow_true h).2.1; have hf := (cu_ok h hi).2.1; refine ⟨?_, ?_⟩
 ·unfold impl_FindArticle.f
  rw [impl_arts 100 B (by omega) hF.2.2.2 k (by omega), Option.bind_some, hb, if_pos rfl, impl_find B (by omega) _ k (by omega), Option.bind_some, if_neg (by omega)]
 ·unfold spec_FindArticle.f
  rw [spec_arts 100 B (by omega) hF.2.2.2 k (by omega), Option.bind_some, hb, if_pos rfl, spec_find B (by omega) _ k (by omega), Option.bind_some, if_neg (by omega)]
theorem shows_l1 {A : List S104} {B : List S61} {C : List S58} (h : isShow A B C = true) {t : Int} {a : List Int} {q : Int} (ha : q = 0 → a = idxF (firedP (fts A B C) t) 0 C.length) : ∀ d i, C.length - i = d → i ≤ C.length → ∀ k, 2 * d + 200 ≤ k → laws_FnShows.l1 k t a q (fts A B C) (i : Int) A B C = some true := by
 have hC := (isShow_true h).2.2.1; have hl := fts_len A B C; intro d
 induction d with
 | zero =>
  intro i hd hi k hk; obtain ⟨k, rfl⟩ : ∃ m, k = m + 1 + 1 := ⟨k - 2, by omega⟩
  unfold laws_FnShows.l1
  rw [show decide ((i : Int) < (C.length : Int)) = false from decide_eq_false (by omega)]
  unfold laws_FnShows.j6
  by_cases z : q = 0
  ·rw [if_pos z, if_neg (by decide)]
  ·rw [if_neg z, if_neg (by decide)]
 | succ d ih =>
  intro i hd hi k hk; obtain ⟨k, rfl⟩ : ∃ m, k = m + 1 + 1 := ⟨k - 2, by omega⟩
  unfold laws_FnShows.l1
  rw [show decide ((i : Int) < (C.length : Int)) = true from decide_eq_true (by omega)]
  by_cases z : q = 0
  ·rw [if_pos z]
   unfold laws_FnShows.j6
   have hh : laws_hasInt.f k a (i : Int) = some (firedP (fts A B C) t i) := by
    have e := ha z
    have hlen : a.length ≤ C.length := by rw [e]; exact idxF_len _ _ _
    rw [has_int_s _ (by omega) _ k (by omega)]
    congr 1
    rw [Bool.eq_iff_iff, decide_eq_true_iff, e, idxF_mem]; constructor
    ·rintro ⟨j, _, _, h3, h4⟩
     rw [show i = j by omega]; exact h3
    ·exact fun y => ⟨i, by omega, by omega, y, rfl⟩
   have hn : (firedP (fts A B C) t i != (rd (fts A B C) (i : Int) == t)) = false := by
    unfold firedP
    by_cases y : rd (fts A B C) (i : Int) = t
    ·rw [decide_eq_true y, beq_iff_eq.mpr y]; rfl
    ·rw [decide_eq_false y, beq_eq_false_iff_ne.mpr y]; rfl
   rw [if_pos rfl, hh, Option.bind_some, if_pos (by omega), if_pos (by omega), hn, if_neg (by decide), w64 (n := (i : Int) + 1) (by omega)]; exact ih (i + 1) (by omega) (by omega) k (by omega)
  ·rw [if_neg z]
   unfold laws_FnShows.j6
   rw [if_neg (by decide)]
theorem shows_l0 {A : List S104} {B : List S61} {C : List S58} (hF : Frame 100 A B C) (hA : A.length ≤ 60) (hB : B.length ≤ 60) (h : isShow A B C = true) {t : Int} {a : List Int} {q : Int} {Z : Nat} (hz : ∀ k, Z ≤ k → laws_FnShows.l1 k t a q (fts A B C) 0 A B C = some true) : ∀ d i, C.length - i = d → i ≤ C.length → ∀ k, Z + 4 * d + 500 ≤ k → laws_FnShows.l0 k t a q (fts A B C) 0 (ordF (fts A B C) C.length) (endF A B C 0 C.length 0) (i : Int) A B C = some true := by
 have hs := isShow_true h; have hl := fts_len A B C; have ho := ordF_ord (fts A B C) C.length; have hol := ho.l; intro d
 induction d with
 | zero =>
  intro i hd hi k hk; obtain ⟨k, rfl⟩ : ∃ m, k = m + 1 + 1 := ⟨k - 2, by omega⟩
  unfold laws_FnShows.l0
  rw [if_pos rfl, show decide ((i : Int) < (C.length : Int)) = false from decide_eq_false (by omega)]
  unfold laws_FnShows.j2
  rw [if_neg (by decide)]; exact hz k (by omega)
 | succ d ih =>
  intro i hd hi k hk
  have hi2 : i < C.length := by omega
  obtain ⟨k, rfl⟩ : ∃ m, k = m + 1 + 1 + 1 + 1 := ⟨k - 4, by omega⟩; have e := ih (i + 1) (by omega) (by omega) k (by omega); have hc := cueOk_true (hs.2.2.2 i hi2); obtain ⟨b, hb0, hb, hb2⟩ := hasBeat_true hc.1; obtain ⟨f1, f2⟩ := find_article hF hB h hi2 (k + 1 + 1) (by omega); obtain ⟨_, c2, c3, c4, c5, c6⟩ := cu_ok h hi2; have har := art_true c6
  have hbt : impl_BeatTime.f (k + 1 + 1) A (cu_at C i).f0 (cu_at C i).f1 = some (tm A b + (cu_at C i).f1 * ln_at A b, 0) := by
   rw [hb0]; exact impl_btime hs.1 b hb _ (by omega) (k + 1 + 1) (by omega)
  obtain ⟨beat, hbeat⟩ : ∃ beat, tm A b + (cu_at C i).f1 * ln_at A b = beat := ⟨_, rfl⟩
  have hft : ftime A B (cu_at C i) = beat - (arOf B (cu_at C i)).f3 := by
   unfold ftime; rw [hb0, Int.toNat_natCast, hbeat]
  rw [hbeat] at hbt; have hen := (endF_ge (A := A) (B := B) (C := C) C.length 0 0).2 i (by omega) (by omega); have hen2 := endOf_le h hi2; have hrf := rd_fts A B hi2
  have hor : ∀ j : Nat, j < C.length → 0 ≤ rd (ordF (fts A B C) C.length) (j : Int) ∧ rd (ordF (fts A B C) C.length) (j : Int) < ((fts A B C).length : Int) := fun j hj => by
   have := ho.r j hj; rw [rd_nat]; omega
  unfold laws_FnShows.l0
  rw [if_pos rfl, show decide ((i : Int) < (C.length : Int)) = true from decide_eq_true (by omega)]
  unfold laws_FnShows.j2
  rw [if_pos rfl, if_pos (by omega), if_pos (by omega), rd_cue, hbt, Option.bind_some]; dsimp only; rw [f1, Option.bind_some, f2, Option.bind_some]; dsimp only; rw [if_pos rfl]
  unfold laws_FnShows.j3
  rw [if_neg (by decide), if_pos rfl, if_pos rfl, if_pos (by omega), if_pos (by omega), if_pos c2, if_pos c3, rd_arOf B _ c2, hrf, hft, w64 (n := beat - (arOf B (cu_at C i)).f3 + (arOf B (cu_at C i)).f3) (by omega), if_pos (by omega), if_neg (by omega), show decide (beat > endF A B C 0 C.length 0) = false from decide_eq_false (by omega)]
  unfold laws_FnShows.j4
  rw [if_neg (by decide)]; have hw1 : ∀ _ : Unit, wrap64 ((i : Int) + 1) = ((i + 1 : Nat) : Int) := fun _ => w64 (by omega)
  by_cases z : (i : Int) > 0
  ·have hw : ∀ _ : Unit, wrap64 ((i : Int) - 1) = ((i - 1 : Nat) : Int) := fun _ => by rw [w64 (by omega)]; omega
   have o1 := hor (i - 1) (by omega); have o2 := hor i hi2; have os := ho.s (i - 1) i (by omega) hi2; rw [← rd_nat, ← rd_nat] at os; rw [if_pos z, hw (), if_pos (by omega), if_pos (by omega), if_pos o1.1, if_pos o1.2, if_pos (by omega), if_pos (by omega), if_pos o2.1, if_pos o2.2, if_neg (by omega), hw1 ()]
   by_cases y : rd (fts A B C) (rd (ordF (fts A B C) C.length) ((i - 1 : Nat) : Int)) = rd (fts A B C) (rd (ordF (fts A B C) C.length) (i : Int))
   ·rw [if_pos y, if_neg (by omega)]; exact e
   ·rw [if_neg y]; exact e
  ·rw [if_neg z, hw1 ()]; exact e
theorem pure_FnShows : laws_FnShows.Pure := by
 intro c _ _ hb
 by_cases big : (c.length : Int) > 4096
 ·refine ⟨0, ?_⟩
  unfold laws_FnShows.f laws_big.f
  simp only [Option.bind_some, decide_eq_true big, if_true]
 have hc : Code c := code_of big hb; obtain ⟨A, B, C, t, d1, hA, hB, hS, hC⟩ := fired_draw hc; have hF : Frame 100 A B C := ⟨by omega, by omega, by omega, by decide, hS⟩; obtain ⟨K, hK⟩ : ∃ K, K = 36893488147419104020 + 1000000 := ⟨_, rfl⟩; refine ⟨K + 1, ?_⟩; obtain ⟨r1, r2⟩ := fired_ok 100 hF t (K + 1) (by omega); obtain ⟨r3, r4⟩ := timesR_ok 100 hF (K + 1) (by omega); obtain ⟨r5, r6⟩ := order_ok 100 hF (K + 1) (by omega); obtain ⟨r7, r8⟩ := showEnd_ok 100 hF (K + 1) (by omega); have l1 := firedR_len (A := A) (B := B) (C := C) (t := t) (by omega)
 have l2 : (timesR A B C).1.length ≤ 3000000 := by
  unfold timesR
  split
  ·show (fts A B C).length ≤ _
   rw [fts_len]; omega
  ·show 0 ≤ _
   omega
 have l3 := orderR_len (A := A) (B := B) (C := C) (by omega)
 unfold laws_FnShows.f laws_big.f
 rw [Option.bind_some, decide_eq_false big, if_neg (by decide), d1 _ (by omega), Option.bind_some]; dsimp only; rw [r2, Option.bind_some, r1, Option.bind_some, r4, Option.bind_some, r3, Option.bind_some, r6, Option.bind_some, r5, Option.bind_some, r8, Option.bind_some, r7, Option.bind_some, if_pos rfl, like_ints_s _ (by omega) (K + 1) (by omega), Option.bind_some, if_pos rfl, if_pos rfl, like_ints_s _ (by omega) (K + 1) (by omega), Option.bind_some, if_pos rfl, if_pos rfl, like_ints_s _ (by omega) (K + 1) (by omega), Option.bind_some, if_pos rfl, if_pos rfl, if_pos rfl, si_ok hF (K + 1) (by omega), Option.bind_some]; clear r1 r2 r3 r4 r5 r6 r7 r8 d1
 have ej : ∀ (k : Nat) (a f o : List Int) (q1 q2 e : Int), laws_FnShows.j0 (k + 1) t a q1 f q2 o e false A B C = laws_FnShows.l0 k t a q1 f q2 o e 0 A B C := fun k a f o q1 q2 e => by
  simp only [laws_FnShows.j0]; rw [if_neg (by decide)]
 by_cases h : isShow A B C = true
 ·have t2 : timesR A B C = (fts A B C, 0) := by unfold timesR; rw [if_pos h]
  have o2 : orderR A B C = (ordF (fts A B C) C.length, 0) := by unfold orderR; rw [if_pos h]
  have s2 : showEndR A B C = (endF A B C 0 C.length 0, 0) := by unfold showEndR; rw [if_pos h]
  rw [t2, o2, s2, h]; dsimp only; rw [if_neg (by decide), if_pos rfl, show ((0 : Int) != 0) = false from by decide, ej]; refine shows_l0 hF hA hB h (Z := 2 * C.length + 200) (fun k hk => shows_l1 h (fun z => ?_) C.length 0 (by omega) (by omega) k (by omega)) C.length 0 (by omega) (by omega) K (by omega)
  unfold firedR at z ⊢
  rw [if_pos h] at z ⊢
  by_cases y : inB t 0 10000000 = true
  ·rw [if_pos y]
  ·rw [if_neg y] at z; exact absurd z (by decide)
 ·have t2 : timesR A B C = ([], 1) := by unfold timesR; rw [if_neg h]
  have o2 : orderR A B C = ([], 1) := by unfold orderR; rw [if_neg h]
  have s2 : showEndR A B C = (0, 1) := by unfold showEndR; rw [if_neg h]
  have f2 : firedR A B C t = ([], 1) := by unfold firedR; rw [if_neg h]
  rw [t2, o2, s2, f2, Bool.eq_false_iff.mpr h]; dsimp only; rw [if_neg (by decide), if_pos rfl, show ((1 : Int) != 1) = false from by decide, ej]; obtain ⟨m, rfl⟩ : ∃ m, K = m + 1 + 1 + 1 + 1 := ⟨K - 4, by omega⟩; simp only [laws_FnShows.l0]; rw [if_neg (by decide)]; simp only [laws_FnShows.j2]; rw [if_neg (by decide)]; simp only [laws_FnShows.l1]; rw [if_neg (by decide)]; simp only [laws_FnShows.j6]; rw [if_neg (by decide)]
end Go.Proofs.Ytmnnbmdfepogiaa.F
namespace Go.Proofs.Ytmnnbmdfepogiaa.Pure
theorem FnShows : Go.Proofs.Ytmnnbmdfepogiaa.F.laws_FnShows.Pure := Go.Proofs.Ytmnnbmdfepogiaa.F.pure_FnShows
end Go.Proofs.Ytmnnbmdfepogiaa.Pure
namespace Go.Proofs.Ytmnnbmdfepogiaa.F
end Go.Proofs.Ytmnnbmdfepogiaa.F
