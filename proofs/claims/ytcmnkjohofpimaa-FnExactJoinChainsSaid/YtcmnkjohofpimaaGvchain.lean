import Derived.Test.YtcmnkjohofpimaaGq
import Derived.Test.YtcmnkjohofpimaaGvbasic
import Derived.Test.YtcmnkjohofpimaaFspecIsChain
import Derived.Test.YtcmnkjohofpimaaFimplIsChain
namespace Go.Proofs.Ytcmnkjohofpimaa.F
open Go.RowKit Go.Proofs.YtcmnkjohofpimaaW.PrintWords Go.Proofs.YtcmnkjohofpimaaW.PrintLast Go.Proofs.YtcmnkjohofpimaaW.PrintMore
set_option linter.unusedVariables false
set_option linter.unusedSimpArgs false
def li_at (xs : List S68) (i : Nat) : S68 := xs.getD i z68
def okLinkAt (xs : List S68) (i : Nat) : Bool := inB (li_at xs i).f0 0 100000 && inB (li_at xs i).f1 (li_at xs i).f0 100000
def isChain (xs : List S68) : Bool := allF (okLinkAt xs) 0 xs.length && decide ((xs.length : Int) ≤ 20)
theorem rd_link (xs : List S68) (i : Nat) : rd_T68 xs (i : Int) = li_at xs i := by unfold rd_T68 li_at; rw [Int.toNat_natCast]
theorem spec_chain (xs : List S68) (hx : xs.length ≤ 4000000) (k : Nat) (hk : xs.length < k) : spec_IsChain.f k xs = some (isChain xs) := by
  refine all_loop (f := fun k i => spec_IsChain.l0 k xs (i : Int)) xs.length (fun k i hi => ?_) (fun k => ?_) xs.length k 0 (by omega) (by omega) (by omega)
  · show spec_IsChain.l0 (k + 1) xs i = _
    simp only [spec_IsChain.l0, In_eq, Option.bind_some]
    rw [if_pos (by omega), if_pos (by omega), w64 (by omega), rd_link]
    unfold okLinkAt
    cases inB (li_at xs i).f0 0 100000 <;> cases inB (li_at xs i).f1 (li_at xs i).f0 100000 <;> rfl
  · show spec_IsChain.l0 (k + 1) xs _ = _
    simp only [spec_IsChain.l0]
    rw [if_neg (by omega)]
theorem impl_chain (xs : List S68) (hx : xs.length ≤ 4000000) (k : Nat) (hk : xs.length < k) : impl_IsChain.f k xs = some (isChain xs) := by
  unfold impl_IsChain.f isChain
  by_cases h : (xs.length : Int) > 20
  · rw [if_pos h, decide_eq_false (by omega : ¬ ((xs.length : Int) ≤ 20)), Bool.and_false]
  · rw [if_neg h, decide_eq_true (by omega : ((xs.length : Int) ≤ 20))]
    refine all_loop (f := fun k i => impl_IsChain.l0 k xs (xs.length : Int) (i : Int)) xs.length (fun k i hi => ?_) (fun k => ?_) xs.length k 0 (by omega) (by omega) (by omega)
    · show impl_IsChain.l0 (k + 1) xs (xs.length : Int) i = _
      simp only [impl_IsChain.l0, Wi_eq, Option.bind_some]
      rw [if_pos (by omega), if_pos (by omega), if_pos (by omega), w64 (by omega), rd_link]
      unfold okLinkAt
      cases inB (li_at xs i).f0 0 100000 <;> cases inB (li_at xs i).f1 (li_at xs i).f0 100000 <;> rfl
    · show impl_IsChain.l0 (k + 1) xs (xs.length : Int) _ = _
      simp only [impl_IsChain.l0]
      rw [if_neg (by omega)]
theorem isChain_true {xs : List S68} (h : isChain xs = true) : xs.length ≤ 20 ∧ ∀ i, i < xs.length → 0 ≤ (li_at xs i).f0 ∧ (li_at xs i).f0 ≤ 100000 ∧ 0 ≤ (li_at xs i).f1 ∧ (li_at xs i).f1 ≤ 100000 := by
  unfold isChain at h
  rw [Bool.and_eq_true, allF_true, decide_eq_true_eq] at h
  refine ⟨by omega, fun i hi => ?_⟩
  have := h.1 i (by omega) (by omega)
  unfold okLinkAt at this
  rw [Bool.and_eq_true, inB_true, inB_true] at this
  omega

end Go.Proofs.Ytcmnkjohofpimaa.F
