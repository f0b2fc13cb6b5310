import Derived.Test.YtgboijlipcimkaaGq
import Derived.Test.YtgboijlipcimkaaGvbasic
import Derived.Test.YtgboijlipcimkaaFspecArePieces
import Derived.Test.YtgboijlipcimkaaFimpl0allWithin
import Derived.Test.YtgboijlipcimkaaFimplArePieces
namespace Go.Proofs.Ytgboijlipcimkaa.F
open Go.RowKit Go.Proofs.YtgboijlipcimkaaW.PrintWords Go.Proofs.YtgboijlipcimkaaW.PrintLast Go.Proofs.YtgboijlipcimkaaW.PrintMore
set_option linter.unusedVariables false
set_option linter.unusedSimpArgs false
theorem allWithin_eq (xs : List Int) (lo hi : Int) (hx : xs.length ≤ 4000000) (k : Nat) (hk : xs.length < k) : impl_allWithin.f k xs lo hi = some (allF (fun i => inB (xs.getD i 0) lo hi) 0 xs.length) := by
  unfold impl_allWithin.f
  rw [← Bool.and_true (allF _ 0 xs.length)]
  refine all_loop (f := fun k i => impl_allWithin.l0 k lo hi xs (xs.length : Int) (i : Int)) xs.length (fun k i hi_ => ?_) (fun k => ?_) xs.length k 0 (by omega) (by omega) (by omega)
  · show impl_allWithin.l0 (k + 1) lo hi xs (xs.length : Int) i = _
    simp only [impl_allWithin.l0, Wi_eq, Option.bind_some]
    rw [if_pos (by omega), if_pos (by omega), if_pos (by omega), w64 (by omega), rd_nat]
    rfl
  · show impl_allWithin.l0 (k + 1) lo hi xs (xs.length : Int) _ = _
    simp only [impl_allWithin.l0]
    rw [if_neg (by omega)]
def pieceAt (xs : List Int) (i : Nat) : Bool := inB (xs.getD i 0) 1 10000 && (decide (i = 0) || decide (xs.getD (i - 1) 0 < xs.getD i 0))
def arePieces (xs : List Int) : Bool := allF (pieceAt xs) 0 xs.length && inB (xs.length : Int) 1 8
theorem spec_pieces (xs : List Int) (hx : xs.length ≤ 4000000) (k : Nat) (hk : xs.length < k) : spec_ArePieces.f k xs = some (arePieces xs) := by
  refine all_loop (f := fun k i => spec_ArePieces.l0 k xs (i : Int)) xs.length (fun k i hi => ?_) (fun k => ?_) xs.length k 0 (by omega) (by omega) (by omega)
  · show spec_ArePieces.l0 (k + 1) xs i = _
    simp only [spec_ArePieces.l0, In_eq, Option.bind_some]
    rw [if_pos (by omega), if_pos (by omega), w64 (n := (i : Int) + 1) (by omega), rd_nat]
    unfold pieceAt
    cases inB (xs.getD i 0) 1 10000 with
    | false => rfl
    | true =>
      rw [if_pos rfl, Bool.true_and]
      by_cases h0 : i = 0
      · subst h0
        rw [if_neg (by omega)]
        rfl
      · have hc : wrap64 ((i : Int) - 1) = ((i - 1 : Nat) : Int) := by rw [w64 (by omega)]; omega
        rw [if_pos (by omega), hc, if_pos (by omega), if_pos (by omega), rd_nat, decide_eq_false h0, Bool.false_or]
        by_cases h : xs.getD i 0 ≤ xs.getD (i - 1) 0
        · rw [if_pos h, if_neg (by rw [decide_eq_true_eq]; omega)]
        · rw [if_neg h, if_pos (by rw [decide_eq_true_eq]; omega)]; rfl
  · show spec_ArePieces.l0 (k + 1) xs _ = _
    simp only [spec_ArePieces.l0, In_eq, Option.bind_some]
    rw [if_neg (by omega)]
theorem impl_pieces (xs : List Int) (hx : xs.length ≤ 4000000) (k : Nat) (hk : xs.length + 1 < k) : impl_ArePieces.f k xs = some (arePieces xs) := by
  obtain ⟨k, rfl⟩ : ∃ m, k = m + 1 := ⟨k - 1, by omega⟩
  unfold impl_ArePieces.f arePieces
  simp only [impl_ArePieces.j0]
  by_cases h1 : (xs.length : Int) < 1
  · rw [if_pos h1, if_pos trivial, inB_false.2 (by omega), Bool.and_false]
  · rw [if_neg h1]
    by_cases h2 : (xs.length : Int) > 8
    · rw [if_pos h2, if_pos trivial, inB_false.2 (by omega), Bool.and_false]
    · rw [if_neg h2, allWithin_eq xs 1 10000 hx _ (by omega), inB_true.2 (by omega), Bool.and_true]
      simp only [Option.bind_some]
      have hl : impl_ArePieces.l0 k xs 1 = some (allF (fun i => decide (xs.getD (i - 1) 0 < xs.getD i 0)) 1 (xs.length - 1) && true) := by
        refine all_loopF (f := fun k i => impl_ArePieces.l0 k xs (i : Int)) 1 xs.length (fun k i h0 hi => ?_) (fun k => ?_) (xs.length - 1) k 1 (by omega) (by omega) (by omega) (by omega)
        · show impl_ArePieces.l0 (k + 1) xs i = _
          simp only [impl_ArePieces.l0]
          have hc : wrap64 ((i : Int) - 1) = ((i - 1 : Nat) : Int) := by rw [w64 (by omega)]; omega
          rw [if_pos (by omega), hc, if_pos (by omega), if_pos (by omega), if_pos (by omega), rd_nat, rd_nat, w64 (by omega)]
          by_cases h : xs.getD (i - 1) 0 ≥ xs.getD i 0
          · rw [if_pos h, if_neg (by rw [decide_eq_true_eq]; omega)]
          · rw [if_neg h, if_pos (by rw [decide_eq_true_eq]; omega)]; rfl
        · show impl_ArePieces.l0 (k + 1) xs _ = _
          simp only [impl_ArePieces.l0]
          rw [if_neg (by omega)]
      rw [hl, Bool.and_true]
      have key : allF (pieceAt xs) 0 xs.length = (allF (fun i => inB (xs.getD i 0) 1 10000) 0 xs.length && allF (fun i => decide (xs.getD (i - 1) 0 < xs.getD i 0)) 1 (xs.length - 1)) := by
        rw [Bool.eq_iff_iff, Bool.and_eq_true, allF_true, allF_true, allF_true]
        constructor
        · intro h
          refine ⟨fun j h3 h4 => ?_, fun j h3 h4 => ?_⟩
          · have := h j h3 h4
            unfold pieceAt at this
            rw [Bool.and_eq_true] at this
            exact this.1
          · have := h j (by omega) (by omega)
            unfold pieceAt at this
            rw [Bool.and_eq_true, Bool.or_eq_true, decide_eq_true_eq] at this
            rcases this.2 with e | e
            · omega
            · exact e
        · rintro ⟨h, h'⟩ j h3 h4
          unfold pieceAt
          rw [Bool.and_eq_true, Bool.or_eq_true, decide_eq_true_eq]
          refine ⟨h j h3 h4, ?_⟩
          by_cases e : j = 0
          · exact .inl e
          · exact .inr (h' j (by omega) (by omega))
      rw [key]
      cases allF (fun i => inB (xs.getD i 0) 1 10000) 0 xs.length <;> rfl

end Go.Proofs.Ytgboijlipcimkaa.F
