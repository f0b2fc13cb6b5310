import Derived.Test.YtfhpgeohgdfgdaaGq
import Derived.Test.YtfhpgeohgdfgdaaGvscore
import Derived.Test.YtfhpgeohgdfgdaaFspec0l07Time
import Derived.Test.YtfhpgeohgdfgdaaFimpl0beatTime
namespace Go.Proofs.Ytfhpgeohgdfgdaa.F
open Go.RowKit Go.Proofs.YtfhpgeohgdfgdaaW.PrintWords Go.Proofs.YtfhpgeohgdfgdaaW.PrintLast Go.Proofs.YtfhpgeohgdfgdaaW.PrintMore
set_option linter.unusedVariables false
set_option linter.unusedSimpArgs false
theorem spec_time {xs : List S78} (h : isScore xs = true) (bar : Nat) (hb : bar < xs.length) (beat : Int) (h0 : 0 ≤ beat ∧ beat ≤ 16) (k : Nat) (hk : bar < k) : spec_l07Time.f k xs (bar : Int) beat = some (tm xs bar + beat * ln_at xs bar) := by
  have hs := isScore_true h
  have hl := hs.2.2 bar hb
  have hb2 : 0 ≤ beat * ln_at xs bar ∧ beat * ln_at xs bar ≤ 80000 := by
    have h1 : 0 * ln_at xs bar ≤ beat * ln_at xs bar := Int.mul_le_mul_of_nonneg_right h0.1 (by omega)
    have h2 : beat * ln_at xs bar ≤ 16 * ln_at xs bar := Int.mul_le_mul_of_nonneg_right h0.2 (by omega)
    omega
  refine fold_loop (f := fun k i s => spec_l07Time.l0 k xs (bar : Int) beat s (i : Int)) (step := fun j s => s + bt_at xs j * ln_at xs j) (I := fun i s => s = tm xs i) (e := fun s => some (s + beat * ln_at xs bar)) bar (fun k i s hi hI => ?_) (fun i s hi hI => ?_) (fun k s hI => ?_) bar k 0 0 (by omega) (by omega) rfl hk
  · have h1 := tm_le h i (by omega)
    have h2 := prod_le (hs.2.2 i (by omega))
    show spec_l07Time.l0 (k + 1) xs (bar : Int) beat s (i : Int) = spec_l07Time.l0 k xs (bar : Int) beat (s + bt_at xs i * ln_at xs i) ((i + 1 : Nat) : Int)
    simp only [spec_l07Time.l0]
    rw [if_pos (by omega), if_pos (by omega), if_pos (by omega), rd_bar]
    show spec_l07Time.l0 k xs (bar : Int) beat (wrap64 (s + wrap64 (bt_at xs i * ln_at xs i))) (wrap64 ((i : Int) + 1)) = _
    rw [w64 (n := bt_at xs i * ln_at xs i) (by omega), w64 (n := s + _) (by omega), w64 (by omega)]
    rfl
  · show s + bt_at xs i * ln_at xs i = tm xs (i + 1)
    rw [tm_succ, hI]
  · have h1 := tm_le h bar (by omega)
    show spec_l07Time.l0 (k + 1) xs (bar : Int) beat s (bar : Int) = some (s + beat * ln_at xs bar)
    simp only [spec_l07Time.l0]
    rw [if_neg (by omega), if_pos (by omega), if_pos (by omega), rd_bar]
    show some (wrap64 (s + wrap64 (beat * ln_at xs bar))) = _
    rw [w64 (n := beat * ln_at xs bar) (by omega), w64 (by omega)]
theorem impl_time {xs : List S78} (h : isScore xs = true) (bar : Nat) (beat : Int) (hb : bar < xs.length ∨ (bar = xs.length ∧ beat = 0)) (h0 : 0 ≤ beat ∧ beat ≤ 16) (k : Nat) (hk : bar < k) : impl_beatTime.f k xs (bar : Int) beat = some (tm xs bar + beat * ln_at xs bar) := by
  have hs := isScore_true h
  have hlen : (xs.take bar).length = bar := by rw [List.length_take]; omega
  unfold impl_beatTime.f
  rw [if_pos (by omega), if_pos (by omega), Int.toNat_natCast]
  simp only [Option.bind_some]
  rw [hlen]
  refine fold_loop (f := fun k i s => impl_beatTime.l0 k xs (bar : Int) beat s (xs.take bar) (bar : Int) (i : Int)) (step := fun j s => s + bt_at xs j * ln_at xs j) (I := fun i s => s = tm xs i) (e := fun s => some (s + beat * ln_at xs bar)) bar (fun k i s hi hI => ?_) (fun i s hi hI => ?_) (fun k s hI => ?_) bar k 0 0 (by omega) (by omega) rfl hk
  · have h1 := tm_le h i (by omega)
    have h2 := prod_le (hs.2.2 i (by omega))
    show impl_beatTime.l0 (k + 1) xs (bar : Int) beat s (xs.take bar) (bar : Int) (i : Int) = impl_beatTime.l0 k xs (bar : Int) beat (s + bt_at xs i * ln_at xs i) (xs.take bar) (bar : Int) ((i + 1 : Nat) : Int)
    simp only [impl_beatTime.l0]
    rw [if_pos (by omega), if_pos (by omega), if_pos (by rw [hlen]; omega), rd_bar, getD_take _ _ _ _ hi]
    show impl_beatTime.l0 k xs (bar : Int) beat (wrap64 (s + wrap64 (bt_at xs i * ln_at xs i))) (xs.take bar) (bar : Int) (wrap64 ((i : Int) + 1)) = _
    rw [w64 (n := bt_at xs i * ln_at xs i) (by omega), w64 (n := s + _) (by omega), w64 (by omega)]
    rfl
  · show s + bt_at xs i * ln_at xs i = tm xs (i + 1)
    rw [tm_succ, hI]
  · have h1 := tm_le h bar (by omega)
    show impl_beatTime.l0 (k + 1) xs (bar : Int) beat s (xs.take bar) (bar : Int) (bar : Int) = some (s + beat * ln_at xs bar)
    simp only [impl_beatTime.l0]
    rw [if_neg (by omega)]
    by_cases hp : beat > 0
    · have hlt : bar < xs.length := by omega
      have hl := hs.2.2 bar hlt
      have hb2 : 0 ≤ beat * ln_at xs bar ∧ beat * ln_at xs bar ≤ 80000 := by
        have h1 : 0 * ln_at xs bar ≤ beat * ln_at xs bar := Int.mul_le_mul_of_nonneg_right h0.1 (by omega)
        have h2 : beat * ln_at xs bar ≤ 16 * ln_at xs bar := Int.mul_le_mul_of_nonneg_right h0.2 (by omega)
        omega
      rw [if_pos hp, if_pos (by omega), if_pos (by omega), rd_bar]
      show some (wrap64 (s + wrap64 (beat * ln_at xs bar))) = _
      rw [w64 (n := beat * ln_at xs bar) (by omega), w64 (by omega)]
    · have e : beat = 0 := by omega
      rw [if_neg hp, e, Int.zero_mul, Int.add_zero]

end Go.Proofs.Ytfhpgeohgdfgdaa.F
