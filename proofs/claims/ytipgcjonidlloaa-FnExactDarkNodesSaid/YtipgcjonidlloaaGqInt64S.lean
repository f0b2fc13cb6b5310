import Derived.Test.YtipgcjonidlloaaGq
import Derived.Test.YtipgcjonidlloaaFlawsTInt64
namespace Go.Proofs.Ytipgcjonidlloaa.F
open Go.RowKit Go.Proofs.YtipgcjonidlloaaW.PrintWords Go.Proofs.YtipgcjonidlloaaW.PrintLast Go.Proofs.YtipgcjonidlloaaW.PrintMore
set_option linter.unusedVariables false
set_option linter.unusedSimpArgs false

/-! ### Int64S -/
theorem eq_Int64S_l0 (d : Nat) : ∀ (k : Nat) (xs : List Int) (i : Nat), xs.length - i = d → i ≤ xs.length → xs.length ≤ 4000000 → d < k → laws_eqInt64S.l0 k xs xs (i : Int) = some true := by
  induction d with
  | zero =>
    intro k xs i hd h1 h2 hk
    obtain ⟨k, rfl⟩ : ∃ m, k = m + 1 := ⟨k - 1, by omega⟩
    simp only [laws_eqInt64S.l0]; rw [if_neg (by omega)]
  | succ d ih =>
    intro k xs i hd h1 h2 hk
    obtain ⟨k, rfl⟩ : ∃ m, k = m + 1 := ⟨k - 1, by omega⟩
    have hr := ih k xs (i + 1) (by omega) (by omega) h2 (by omega)
    simp only [laws_eqInt64S.l0, if_true]
    rw [if_pos (by omega), if_pos (by omega), if_pos (by omega), w64 (by omega)]
    exact hr
theorem eq_Int64S (xs : List Int) (h : xs.length ≤ 4000000) : Evt (fun k => laws_eqInt64S.f k xs xs = some true) := by
  refine ⟨xs.length + 1, fun k hk => ?_⟩
  show laws_eqInt64S.f k xs xs = _
  unfold laws_eqInt64S.f
  rw [if_pos rfl]
  exact eq_Int64S_l0 xs.length k xs 0 (by omega) (by omega) h (by omega)
/-- the numbers from c on, in elements -/
def seq_Int64S : Nat → Int → List Int
  | 0, _ => []
  | d + 1, c => c :: seq_Int64S d (c + 1)
theorem seq_Int64S_len : ∀ (d : Nat) (c : Int), (seq_Int64S d c).length = d
  | 0, _ => rfl
  | d + 1, c => by unfold seq_Int64S; rw [List.length_cons, seq_Int64S_len d]
theorem mark_Int64S_l0 (d : Nat) : ∀ (k : Nat) (xs : List Int) (c : Int) (i : Nat), xs.length - i = d → i ≤ xs.length → xs.length ≤ 4000000 → 0 ≤ c → c ≤ 1000000000 - 1 * (xs.length - i : Nat) → d < k →
    laws_markInt64S.l0 k xs c (i : Int) = some (c + 1 * d, xs.take i ++ seq_Int64S d c) := by
  induction d with
  | zero =>
    intro k xs c i hd h1 h2 h3 h4 hk
    obtain ⟨k, rfl⟩ : ∃ m, k = m + 1 := ⟨k - 1, by omega⟩
    simp only [laws_markInt64S.l0, seq_Int64S]
    rw [if_neg (by omega), List.take_of_length_le (by omega), List.append_nil]
    congr 2; omega
  | succ d ih =>
    intro k xs c i hd h1 h2 h3 h4 hk
    obtain ⟨k, rfl⟩ : ∃ m, k = m + 1 := ⟨k - 1, by omega⟩
    have hr := ih k (xs.set i c) (c + 1) (i + 1) (by rw [List.length_set]; omega) (by rw [List.length_set]; omega) (by rw [List.length_set]; omega) (by omega) (by rw [List.length_set]; omega) (by omega)
    rw [set_take_app _ _ _ _ (by omega)] at hr
    have e : c + 1 * ((d + 1 : Nat) : Int) = c + 1 + 1 * (d : Int) := by omega
    rw [e]
    show _ = some (c + 1 + 1 * (d : Int), xs.take i ++ c :: seq_Int64S d (c + 1))
    rw [← hr]
    simp only [laws_markInt64S.l0, Option.bind_some]
    rw [if_pos (by omega), if_pos (by omega)]
    have w1 : wrap64 (c + 1) = c + 1 := by rw [w64 (by omega)]
    rw [w1, w64 (n := (i : Int) + 1) (by omega)]
    rw [Int.toNat_natCast]
    rfl
theorem mark_Int64S (xs : List Int) (c : Int) (hx : xs.length ≤ 4000000) (h0 : 0 ≤ c) (h1 : c ≤ 900000000) : Evt (fun k => laws_markInt64S.f k xs c = some (c + 1 * (xs.length : Int), seq_Int64S xs.length c)) := by
  refine ⟨xs.length + 1, fun k hk => ?_⟩
  show laws_markInt64S.f k xs c = _
  unfold laws_markInt64S.f
  exact mark_Int64S_l0 xs.length k xs c 0 (by omega) (by omega) hx h0 (by omega) (by omega)
theorem held_Int64S_l0 (d : Nat) : ∀ (k : Nat) (pre : List Int) (c : Int) (i : Nat), pre.length = i → pre.length + d ≤ 4000000 → 0 ≤ c → c ≤ 1000000000 - 1 * d → d < k →
    laws_heldInt64S.l0 k (pre ++ seq_Int64S d c) c (i : Int) = some (c + 1 * d) := by
  induction d with
  | zero =>
    intro k pre c i hd h1 h2 h3 hk
    obtain ⟨k, rfl⟩ : ∃ m, k = m + 1 := ⟨k - 1, by omega⟩
    simp only [laws_heldInt64S.l0, seq_Int64S, List.append_nil]
    rw [if_neg (by omega)]
    congr 1; omega
  | succ d ih =>
    intro k pre c i hd h1 h2 h3 hk
    obtain ⟨k, rfl⟩ : ∃ m, k = m + 1 := ⟨k - 1, by omega⟩
    have hr := ih k (pre ++ [c]) (c + 1) (i + 1) (by rw [List.length_append, List.length_singleton]; omega) (by rw [List.length_append, List.length_singleton]; omega) (by omega) (by omega) (by omega)
    rw [List.append_assoc, List.singleton_append] at hr
    have e : c + 1 * ((d + 1 : Nat) : Int) = c + 1 + 1 * (d : Int) := by omega
    have hlen : (pre ++ c :: seq_Int64S d (c + 1)).length = pre.length + (d + 1) := by rw [List.length_append, List.length_cons, seq_Int64S_len]
    have hrd : rd (pre ++ c :: seq_Int64S d (c + 1)) (i : Int) = c := by
      unfold rd
      rw [Int.toNat_natCast, getD_app _ _ _ _ hd]
      rfl
    rw [e, ← hr]
    show laws_heldInt64S.l0 (k + 1) (pre ++ c :: seq_Int64S d (c + 1)) c (i : Int) = _
    simp only [laws_heldInt64S.l0, hrd]
    rw [if_pos (by omega), if_pos (by omega)]
    have w1 : wrap64 (c + 1) = c + 1 := by rw [w64 (by omega)]
    rw [w1, w64 (n := (i : Int) + 1) (by omega)]
    simp only [if_true]
    rfl
theorem held_Int64S (n : Nat) (c : Int) (hx : n ≤ 4000000) (h0 : 0 ≤ c) (h1 : c ≤ 900000000) : Evt (fun k => laws_heldInt64S.f k (seq_Int64S n c) c = some (c + 1 * (n : Int))) := by
  refine ⟨n + 1, fun k hk => ?_⟩
  show laws_heldInt64S.f k (seq_Int64S n c) c = _
  unfold laws_heldInt64S.f
  exact held_Int64S_l0 n k [] c 0 rfl (by simp; omega) h0 (by omega) (by omega)

end Go.Proofs.Ytipgcjonidlloaa.F
