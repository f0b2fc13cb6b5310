import Derived.Test.YtgboijlipcimkaaGq
import Derived.Test.YtgboijlipcimkaaGtInt64S
import Derived.Test.YtgboijlipcimkaaFlawsTInt64
namespace Go.Proofs.Ytgboijlipcimkaa.F
open Go.RowKit Go.Proofs.YtgboijlipcimkaaW.PrintWords Go.Proofs.YtgboijlipcimkaaW.PrintLast Go.Proofs.YtgboijlipcimkaaW.PrintMore
set_option linter.unusedVariables false
set_option linter.unusedSimpArgs false

/-! ### Int64S -/
def conv_Int64S (x : Int) : Int := x
theorem full_Int64S_l1 (d : Nat) : ∀ (k : Nat) (x0 : List Int) (x5 : List Int) (i : Nat), x5.length - i = d → x0.length ≤ i → i ≤ x5.length → x5.length ≤ 4000000 → d < k →
    full_toInt64S.l1 k x0 x5 (i : Int) = some (x5.take i ++ List.replicate d (-7000000000000000101)) := by
  induction d with
  | zero =>
    intro k x0 x5 i hd h1 h2 h3 hk
    obtain ⟨k, rfl⟩ : ∃ m, k = m + 1 := ⟨k - 1, by omega⟩
    simp only [full_toInt64S.l1]
    rw [if_neg (by omega), if_pos (by omega), if_pos (by omega), List.take_of_length_le (by omega)]
    simp
  | succ d ih =>
    intro k x0 x5 i hd h1 h2 h3 hk
    obtain ⟨k, rfl⟩ : ∃ m, k = m + 1 := ⟨k - 1, by omega⟩
    have hr := ih k x0 (x5.set i (-7000000000000000101)) (i + 1) (by rw [List.length_set]; omega) (by omega) (by rw [List.length_set]; omega) (by rw [List.length_set]; omega) (by omega)
    rw [take_set_snoc _ _ _ (by omega), List.append_assoc, List.singleton_append, ← List.replicate_succ] at hr
    rw [← hr]
    simp only [full_toInt64S.l1]
    rw [if_pos (by omega)]
    rw [if_pos (by omega), w64 (by omega)]
    rfl
theorem full_Int64S_l0 (d : Nat) : ∀ (k : Nat) (x0 : List Int) (x5 : List Int) (i : Nat), x0.length - i = d → i ≤ x0.length → x0.length ≤ x5.length → x5.length ≤ 4000000 → x5.take i = (x0.take i).map conv_Int64S → d + x5.length + 1 < k →
    full_toInt64S.l0 k x0 x5 (i : Int) = some (x0.map conv_Int64S ++ List.replicate (x5.length - x0.length) (-7000000000000000101)) := by
  induction d with
  | zero =>
    intro k x0 x5 i hd h1 h2 h3 h4 hk
    obtain ⟨k, rfl⟩ : ∃ m, k = m + 1 := ⟨k - 1, by omega⟩
    simp only [full_toInt64S.l0]
    rw [if_neg (by omega), full_Int64S_l1 (x5.length - x0.length) k x0 x5 x0.length rfl (Nat.le_refl _) h2 h3 (by omega)]
    have e : i = x0.length := by omega
    subst e
    rw [h4, List.take_length]
  | succ d ih =>
    intro k x0 x5 i hd h1 h2 h3 h4 hk
    obtain ⟨k, rfl⟩ : ∃ m, k = m + 1 := ⟨k - 1, by omega⟩
    have hi : i < x0.length := by omega
    have h5 : (x5.set i (conv_Int64S x0[i])).take (i + 1) = (x0.take (i + 1)).map conv_Int64S := by
      rw [take_set_snoc _ _ _ (by omega), h4, List.take_succ_eq_append_getElem hi, List.map_append]; rfl
    have hr := ih k x0 (x5.set i (conv_Int64S x0[i])) (i + 1) (by omega) (by omega) (by rw [List.length_set]; omega) (by rw [List.length_set]; omega) h5 (by rw [List.length_set]; omega)
    rw [List.length_set] at hr
    rw [← hr]
    simp only [full_toInt64S.l0]
    rw [if_pos (by omega), if_pos (by omega)]
    rw [if_pos (by omega), w64 (by omega), rd, getD_at _ _ _ hi]
    rfl
theorem to_Int64S_l1 (d : Nat) : ∀ (k : Nat) (x0 : List Int) (x5 : List Int) (i : Nat), x5.length - i = d → x0.length ≤ i → i ≤ x5.length → x5.length ≤ 4000000 → d < k →
    laws_toInt64S.l1 k x0 x5 (i : Int) = some (x5.take x0.length) := by
  induction d with
  | zero =>
    intro k x0 x5 i hd h1 h2 h3 hk
    obtain ⟨k, rfl⟩ : ∃ m, k = m + 1 := ⟨k - 1, by omega⟩
    simp only [laws_toInt64S.l1]; rw [if_neg (by omega), if_pos (by omega), if_pos (by omega), Int.toNat_natCast]
  | succ d ih =>
    intro k x0 x5 i hd h1 h2 h3 hk
    obtain ⟨k, rfl⟩ : ∃ m, k = m + 1 := ⟨k - 1, by omega⟩
    have hr := ih k x0 (x5.set i (-7000000000000000101)) (i + 1) (by rw [List.length_set]; omega) (by omega) (by rw [List.length_set]; omega) (by rw [List.length_set]; omega) (by omega)
    rw [take_set_ge _ _ _ _ h1] at hr
    rw [← hr]
    simp only [laws_toInt64S.l1]
    rw [if_pos (by omega)]
    rw [if_pos (by omega), w64 (by omega)]
    rfl
theorem to_Int64S_l0 (d : Nat) : ∀ (k : Nat) (x0 : List Int) (x5 : List Int) (i : Nat), x0.length - i = d → i ≤ x0.length → x0.length ≤ x5.length → x5.length ≤ 4000000 → x5.take i = (x0.take i).map conv_Int64S → d + x5.length + 1 < k →
    laws_toInt64S.l0 k x0 x5 (i : Int) = some (x0.map conv_Int64S) := by
  induction d with
  | zero =>
    intro k x0 x5 i hd h1 h2 h3 h4 hk
    obtain ⟨k, rfl⟩ : ∃ m, k = m + 1 := ⟨k - 1, by omega⟩
    simp only [laws_toInt64S.l0]
    rw [if_neg (by omega), to_Int64S_l1 (x5.length - x0.length) k x0 x5 x0.length rfl (Nat.le_refl _) h2 h3 (by omega)]
    have e : i = x0.length := by omega
    subst e
    rw [h4, List.take_length]
  | succ d ih =>
    intro k x0 x5 i hd h1 h2 h3 h4 hk
    obtain ⟨k, rfl⟩ : ∃ m, k = m + 1 := ⟨k - 1, by omega⟩
    have hi : i < x0.length := by omega
    have h5 : (x5.set i (conv_Int64S x0[i])).take (i + 1) = (x0.take (i + 1)).map conv_Int64S := by
      rw [take_set_snoc _ _ _ (by omega), h4, List.take_succ_eq_append_getElem hi, List.map_append]; rfl
    have hr := ih k x0 (x5.set i (conv_Int64S x0[i])) (i + 1) (by omega) (by omega) (by rw [List.length_set]; omega) (by rw [List.length_set]; omega) h5 (by rw [List.length_set]; omega)
    rw [← hr]
    simp only [laws_toInt64S.l0]
    rw [if_pos (by omega), if_pos (by omega)]
    rw [if_pos (by omega), w64 (by omega), rd, getD_at _ _ _ hi]
    rfl
/-- what the laws' copies are: a whole row whose first elements are the argument's -/
theorem to_Int64S (l : List Int) (hl : l.length ≤ 1000000) : ∃ (L : List Int) (t : Int), L ≠ [] ∧ (l.map conv_Int64S = L.take l.length ∧ l.length ≤ L.length) ∧ (l.map conv_Int64S).length = l.length ∧ L.length ≤ 2000001 ∧
    laws_roomBehind.f ((l.map conv_Int64S).length : Int) = some t ∧ wrap64 (((l.map conv_Int64S).length : Int) + t) = (L.length : Int) ∧
    Evt (fun k => full_toInt64S.f k l false = some L) ∧ Evt (fun k => laws_toInt64S.f k l true = some (l.map conv_Int64S)) := by
  obtain ⟨t, ht, h0, h1, h2⟩ := room_some l.length
  have hw : wrap64 ((l.length : Int) + t) = (l.length : Int) + t := w64 (by omega)
  have hn : ((l.length : Int) + t).toNat = l.length + t.toNat := by omega
  have hm : (l.map conv_Int64S).length = l.length := List.length_map _
  have hlen : (l.map conv_Int64S ++ List.replicate (l.length + t.toNat - l.length) (-7000000000000000101)).length = l.length + t.toNat := by rw [List.length_append, List.length_replicate, hm]; omega
  refine ⟨l.map conv_Int64S ++ List.replicate (l.length + t.toNat - l.length) (-7000000000000000101), t, ?_, ⟨?_, by omega⟩, hm, by omega, by rw [hm]; exact ht, by rw [hm, hw, hlen]; omega, ?_, ?_⟩
  · intro e
    rw [e] at hlen
    simp at hlen
    have := h2 (by omega)
    omega
  · rw [← hm, List.take_left]
  · refine Evt.succ ⟨l.length + (l.length + t.toNat) + 2, fun k hk => ?_⟩
    show full_toInt64S.f (k + 1) l false = _
    unfold full_toInt64S.f
    rw [if_neg (by decide)]
    simp only [full_toInt64S.j0]
    rw [if_neg (by decide), ht]
    simp only [Option.bind_some]
    rw [hw, if_pos (by omega), hn, if_pos (by omega)]
    have z := full_Int64S_l0 l.length k l (List.replicate (l.length + t.toNat) 0) 0 (by omega) (by omega) (by rw [List.length_replicate]; omega) (by rw [List.length_replicate]; omega) (by simp) (by rw [List.length_replicate]; omega)
    rw [List.length_replicate] at z
    exact z
  · refine Evt.succ ⟨l.length + (l.length + t.toNat) + 2, fun k hk => ?_⟩
    show laws_toInt64S.f (k + 1) l true = _
    unfold laws_toInt64S.f
    rw [if_pos rfl]
    simp only [laws_toInt64S.j0]
    by_cases e : l.length = 0
    · have e2 : l = [] := List.length_eq_zero_iff.mp e
      subst e2
      rfl
    · have e3 : ((l.length : Int) == 0) = false := by rw [beq_eq_false_iff_ne]; omega
      rw [e3, if_neg (by decide), ht]
      simp only [Option.bind_some]
      rw [hw, if_pos (by omega), hn, if_pos (by omega)]
      exact to_Int64S_l0 l.length k l (List.replicate (l.length + t.toNat) 0) 0 (by omega) (by omega) (by rw [List.length_replicate]; omega) (by rw [List.length_replicate]; omega) (by simp) (by rw [List.length_replicate]; omega)
theorem eq_Int64S_l0 (d : Nat) : ∀ (k : Nat) (xs : List Int) (i : Nat), xs.length - i = d → i ≤ xs.length → xs.length ≤ 4000000 → d < k → laws_eqInt64S.l0 k xs xs (i : Int) = some true := by
  induction d with
  | zero =>
    intro k xs i hd h1 h2 hk
    obtain ⟨k, rfl⟩ : ∃ m, k = m + 1 := ⟨k - 1, by omega⟩
    simp only [laws_eqInt64S.l0]; rw [if_neg (by omega)]
  | succ d ih =>
    intro k xs i hd h1 h2 hk
    obtain ⟨k, rfl⟩ : ∃ m, k = m + 1 := ⟨k - 1, by omega⟩
    have hr := ih k xs (i + 1) (by omega) (by omega) h2 (by omega)
    simp only [laws_eqInt64S.l0, if_true]
    rw [if_pos (by omega), if_pos (by omega), if_pos (by omega), w64 (by omega)]
    exact hr
theorem eq_Int64S (xs : List Int) (h : xs.length ≤ 4000000) : Evt (fun k => laws_eqInt64S.f k xs xs = some true) := by
  refine ⟨xs.length + 1, fun k hk => ?_⟩
  show laws_eqInt64S.f k xs xs = _
  unfold laws_eqInt64S.f
  rw [if_pos rfl]
  exact eq_Int64S_l0 xs.length k xs 0 (by omega) (by omega) h (by omega)
theorem prc_Int64S {l : List Int} (h : ∀ x ∈ l, I64 x) : ∀ x ∈ l.map conv_Int64S, I64 x := by
  intro x hx
  obtain ⟨y, hy, rfl⟩ := List.mem_map.1 hx
  exact h y hy

end Go.Proofs.Ytgboijlipcimkaa.F
