import Derived.Test.YtgboijlipcimkaaGw
import Derived.Test.YtgboijlipcimkaaFlaws0roomBehind
namespace Go.Proofs.Ytgboijlipcimkaa.F
open Go.RowKit Go.Proofs.YtgboijlipcimkaaW.PrintWords Go.Proofs.YtgboijlipcimkaaW.PrintLast Go.Proofs.YtgboijlipcimkaaW.PrintMore
set_option linter.unusedVariables false
set_option linter.unusedSimpArgs false
/-! ### words of this session: numbers and lists -/
def Evt (P : Nat → Prop) : Prop := ∃ K, ∀ k, K ≤ k → P k
theorem Evt.and {P Q : Nat → Prop} (h : Evt P) (h' : Evt Q) : Evt (fun k => P k ∧ Q k) := by
  obtain ⟨K, h⟩ := h
  obtain ⟨K', h'⟩ := h'
  exact ⟨K + K', fun k hk => ⟨h k (by omega), h' k (by omega)⟩⟩
theorem Evt.mono {P Q : Nat → Prop} (h : Evt P) (hq : ∀ k, P k → Q k) : Evt Q := by
  obtain ⟨K, h⟩ := h
  exact ⟨K, fun k hk => hq k (h k hk)⟩
theorem Evt.of {P : Nat → Prop} (h : ∀ k, P k) : Evt P := ⟨0, fun k _ => h k⟩
theorem Evt.ex {P : Nat → Prop} (h : Evt P) : ∃ k, P k := by
  obtain ⟨K, h⟩ := h
  exact ⟨K, h K (Nat.le_refl _)⟩
/-- One round (or one joint) more. -/
theorem Evt.succ {P : Nat → Prop} (h : Evt (fun k => P (k + 1))) : Evt P := by
  obtain ⟨K, h⟩ := h
  refine ⟨K + 1, fun k hk => ?_⟩
  obtain ⟨m, rfl⟩ : ∃ m, k = m + 1 := ⟨k - 1, by omega⟩
  exact h m (by omega)
theorem w64 {n : Int} (h : -9223372036854775808 ≤ n ∧ n ≤ 9223372036854775807) : wrap64 n = n := by unfold wrap64; omega
theorem room_some (n : Nat) : ∃ t : Int, laws_roomBehind.f (n : Int) = some t ∧ 0 ≤ t ∧ t ≤ n + 1 ∧ (n = 0 → 1 ≤ t) := by
  unfold laws_roomBehind.f
  have h6 : Int.tmod (n : Int) 6 = (n : Int) % 6 := Int.tmod_eq_emod_of_nonneg (by omega)
  have h3 : Int.tmod (n : Int) 3 = (n : Int) % 3 := Int.tmod_eq_emod_of_nonneg (by omega)
  rw [h6, h3]
  by_cases a : (n : Int) % 6 = 5
  · rw [if_pos a]
    exact ⟨0, rfl, by omega, by omega, by omega⟩
  · rw [if_neg a]
    by_cases b : (n : Int) % 3 = 0
    · rw [if_pos b]
      exact ⟨1, rfl, by omega, by omega, by omega⟩
    · rw [if_neg b]
      exact ⟨n, rfl, by omega, by omega, by omega⟩
theorem getD_at {α : Type} (xs : List α) (z : α) (i : Nat) (h : i < xs.length) : xs.getD ((i : Int)).toNat z = xs[i] := by
  rw [Int.toNat_natCast, List.getD_eq_getElem?_getD, List.getElem?_eq_getElem h]; rfl
theorem take_set_ge {α : Type} (xs : List α) (n i : Nat) (v : α) (h : n ≤ i) : (xs.set i v).take n = xs.take n := by
  apply List.ext_getElem?
  intro j
  simp only [List.getElem?_take, List.getElem?_set]
  by_cases hj : j < n
  · rw [if_pos hj, if_pos hj, if_neg (by omega)]
  · rw [if_neg hj, if_neg hj]
theorem take_set_snoc {α : Type} (xs : List α) (i : Nat) (v : α) (h : i < xs.length) : (xs.set i v).take (i + 1) = xs.take i ++ [v] := by
  rw [List.take_succ_eq_append_getElem (by simpa using h), take_set_ge _ _ _ _ (Nat.le_refl _), List.getElem_set_self]
/-! ### loops -/
def allF (p : Nat → Bool) : Nat → Nat → Bool
  | _, 0 => true
  | i, d + 1 => p i && allF p (i + 1) d
theorem allF_congr {p q : Nat → Bool} : ∀ (d i : Nat), (∀ j, i ≤ j → j < i + d → p j = q j) → allF p i d = allF q i d
  | 0, _, _ => rfl
  | d + 1, i, h => by
    unfold allF
    rw [h i (Nat.le_refl _) (by omega), allF_congr d (i + 1) (fun j h1 h2 => h j (by omega) (by omega))]
theorem allF_true {p : Nat → Bool} : ∀ (d i : Nat), allF p i d = true ↔ ∀ j, i ≤ j → j < i + d → p j = true
  | 0, i => by simp [allF]; intro j h1 h2; omega
  | d + 1, i => by
    unfold allF
    rw [Bool.and_eq_true, allF_true d (i + 1)]
    constructor
    · rintro ⟨h1, h2⟩ j h3 h4
      rcases Nat.eq_or_lt_of_le h3 with e | e
      · exact e ▸ h1
      · exact h2 j e (by omega)
    · exact fun h => ⟨h i (Nat.le_refl _) (by omega), fun j h1 h2 => h j (by omega) (by omega)⟩
/-- A loop that leaves with false at the first element that fails; from a on. -/
theorem all_loopF {f : Nat → Nat → Option Bool} {p : Nat → Bool} {e : Bool} (a n : Nat) (hs : ∀ k i, a ≤ i → i < n → f (k + 1) i = if p i = true then f k (i + 1) else some false) (he : ∀ k, f (k + 1) n = some e) :
    ∀ d k i, a ≤ i → n - i = d → i ≤ n → d < k → f k i = some (allF p i d && e) := by
  intro d
  induction d with
  | zero =>
    intro k i ha hd hi hk
    obtain ⟨k, rfl⟩ : ∃ m, k = m + 1 := ⟨k - 1, by omega⟩
    have : i = n := by omega
    subst this
    rw [he]
    rfl
  | succ d ih =>
    intro k i ha hd hi hk
    obtain ⟨k, rfl⟩ : ∃ m, k = m + 1 := ⟨k - 1, by omega⟩
    rw [hs k i ha (by omega)]
    unfold allF
    by_cases hp : p i = true
    · rw [if_pos hp, ih k (i + 1) (by omega) (by omega) (by omega) (by omega), hp, Bool.true_and]
    · rw [if_neg hp]
      replace hp := Bool.eq_false_iff.mpr hp
      rw [hp, Bool.false_and, Bool.false_and]
/-- A loop that leaves with false at the first element that fails. -/
theorem all_loop {f : Nat → Nat → Option Bool} {p : Nat → Bool} {e : Bool} (n : Nat) (hs : ∀ k i, i < n → f (k + 1) i = if p i = true then f k (i + 1) else some false) (he : ∀ k, f (k + 1) n = some e) :
    ∀ d k i, n - i = d → i ≤ n → d < k → f k i = some (allF p i d && e) := fun d k i => all_loopF 0 n (fun k i _ h => hs k i h) he d k i (Nat.zero_le _)

def foldF {σ : Type} (step : Nat → σ → σ) : Nat → Nat → σ → σ
  | _, 0, s => s
  | i, d + 1, s => foldF step (i + 1) d (step i s)
theorem foldF_congr {σ : Type} {f g : Nat → σ → σ} : ∀ (d i : Nat) (s : σ), (∀ j s, i ≤ j → j < i + d → f j s = g j s) → foldF f i d s = foldF g i d s
  | 0, _, _, _ => rfl
  | d + 1, i, s, h => by
    unfold foldF
    rw [h i s (Nat.le_refl _) (by omega), foldF_congr d (i + 1) _ (fun j s h1 h2 => h j s (by omega) (by omega))]
theorem foldF_snoc {σ : Type} (f : Nat → σ → σ) : ∀ (d i : Nat) (s : σ), foldF f i (d + 1) s = f (i + d) (foldF f i d s)
  | 0, i, s => rfl
  | d + 1, i, s => by
    have h := foldF_snoc f d (i + 1) (f i s)
    rw [show i + 1 + d = i + (d + 1) by omega] at h
    exact h
theorem foldF_inv {σ : Type} {f : Nat → σ → σ} {I : Nat → σ → Prop} : ∀ (d i : Nat) (s : σ), I i s → (∀ j s, i ≤ j → j < i + d → I j s → I (j + 1) (f j s)) → I (i + d) (foldF f i d s)
  | 0, _, _, h, _ => h
  | d + 1, i, s, h, hs => by
    have h2 := foldF_inv (f := f) (I := I) d (i + 1) (f i s) (hs i s (Nat.le_refl _) (by omega) h) (fun j s h1 h2 => hs j s (by omega) (by omega))
    rw [show i + 1 + d = i + (d + 1) by omega] at h2
    exact h2
/-- A loop over the places from i to n that carries a state, under an invariant. -/
theorem fold_loop {σ β : Type} {f : Nat → Nat → σ → Option β} {step : Nat → σ → σ} {I : Nat → σ → Prop} {e : σ → Option β} (n : Nat) (hs : ∀ k i s, i < n → I i s → f (k + 1) i s = f k (i + 1) (step i s)) (hI : ∀ i s, i < n → I i s → I (i + 1) (step i s)) (he : ∀ k s, I n s → f (k + 1) n s = e s) :
    ∀ d k i s, n - i = d → i ≤ n → I i s → d < k → f k i s = e (foldF step i d s) := by
  intro d
  induction d with
  | zero =>
    intro k i s hd hi h0 hk
    obtain ⟨k, rfl⟩ : ∃ m, k = m + 1 := ⟨k - 1, by omega⟩
    have : i = n := by omega
    subst this
    exact he k s h0
  | succ d ih =>
    intro k i s hd hi h0 hk
    obtain ⟨k, rfl⟩ : ∃ m, k = m + 1 := ⟨k - 1, by omega⟩
    rw [hs k i s (by omega) h0]
    exact ih k (i + 1) _ (by omega) (by omega) (hI i s (by omega) h0) (by omega)
def inB (n lo hi : Int) : Bool := decide (lo ≤ n ∧ n ≤ hi)
theorem inB_true {n lo hi : Int} : inB n lo hi = true ↔ lo ≤ n ∧ n ≤ hi := by unfold inB; exact decide_eq_true_iff
theorem inB_false {n lo hi : Int} : inB n lo hi = false ↔ ¬ (lo ≤ n ∧ n ≤ hi) := by unfold inB; exact decide_eq_false_iff_not
/-- A loop whose state is told by its place. -/
theorem inv_loop {σ β : Type} {f : Nat → Nat → σ → Option β} {S : Nat → σ} {e : Option β} (a n : Nat) (hs : ∀ k i, a ≤ i → i < n → f (k + 1) i (S i) = f k (i + 1) (S (i + 1))) (he : ∀ k, f (k + 1) n (S n) = e) :
    ∀ d k i, a ≤ i → n - i = d → i ≤ n → d < k → f k i (S i) = e := by
  intro d
  induction d with
  | zero =>
    intro k i ha hd hi hk
    obtain ⟨k, rfl⟩ : ∃ m, k = m + 1 := ⟨k - 1, by omega⟩
    have : i = n := by omega
    subst this
    exact he k
  | succ d ih =>
    intro k i ha hd hi hk
    obtain ⟨k, rfl⟩ : ∃ m, k = m + 1 := ⟨k - 1, by omega⟩
    rw [hs k i ha (by omega)]
    exact ih k (i + 1) (by omega) (by omega) (by omega) (by omega)
theorem set_set {α : Type} (xs : List α) (i : Nat) (a b : α) : (xs.set i a).set i b = xs.set i b := by simp
theorem getD_set {α : Type} (xs : List α) (i : Nat) (v z : α) (h : i < xs.length) : (xs.set i v).getD i z = v := by
  rw [List.getD_eq_getElem?_getD, List.getElem?_set_self h]; rfl
theorem set_take_app {α : Type} (xs ys : List α) (i : Nat) (v : α) (hi : i < xs.length) : ((xs.set i v).take (i + 1)) ++ ys = xs.take i ++ (v :: ys) := by
  rw [take_set_snoc _ _ _ hi, List.append_assoc, List.singleton_append]
theorem getD_take {α : Type} (xs : List α) (z : α) (n i : Nat) (h : i < n) : (xs.take n).getD i z = xs.getD i z := by
  rw [List.getD_eq_getElem?_getD, List.getD_eq_getElem?_getD, List.getElem?_take, if_pos h]
theorem getD_app {α : Type} (xs ys : List α) (z : α) (i : Nat) (h : xs.length = i) : (xs ++ ys).getD i z = ys.getD 0 z := by
  rw [List.getD_eq_getElem?_getD, List.getD_eq_getElem?_getD, List.getElem?_append_right (by omega), h, Nat.sub_self]
/-- g at the places from a on, added up -/
def sumC (g : Nat → Int) (a : Nat) : Nat → Int
  | 0 => 0
  | d + 1 => sumC g a d + g (a + d)
theorem sumC_succ (g : Nat → Int) (a d : Nat) : sumC g a (d + 1) = sumC g a d + g (a + d) := rfl
theorem sumC_le {g : Nat → Int} {a B : Nat} : ∀ d, (∀ j, j < d → 0 ≤ g (a + j) ∧ g (a + j) ≤ B) → 0 ≤ sumC g a d ∧ sumC g a d ≤ d * B
  | 0, _ => by unfold sumC; omega
  | d + 1, h => by
    have h1 := sumC_le d (fun j hj => h j (by omega))
    have h2 := h d (by omega)
    unfold sumC
    rw [Int.natCast_add, Int.add_mul]
    omega

end Go.Proofs.Ytgboijlipcimkaa.F
