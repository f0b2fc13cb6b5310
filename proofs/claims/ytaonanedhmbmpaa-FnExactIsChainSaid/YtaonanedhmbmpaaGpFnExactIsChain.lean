import Derived.Test.YtaonanedhmbmpaaGlFnExactIsChain
import Derived.Test.YtaonanedhmbmpaaGq
import Derived.Test.YtaonanedhmbmpaaGqLinkS
import Derived.Test.YtaonanedhmbmpaaFlaws0szLinkS
import Derived.Test.YtaonanedhmbmpaaFspecIsChain
import Derived.Test.YtaonanedhmbmpaaFimplIsChain
import Derived.Test.YtaonanedhmbmpaaFlaws0toLinkS
import Derived.Test.YtaonanedhmbmpaaFspec0l01In
import Derived.Test.YtaonanedhmbmpaaFimpl0within
namespace Go.Proofs.Ytaonanedhmbmpaa.F
open Go.RowKit Go.Proofs.YtaonanedhmbmpaaW.PrintWords Go.Proofs.YtaonanedhmbmpaaW.PrintLast Go.Proofs.YtaonanedhmbmpaaW.PrintMore
set_option linter.unusedVariables false
set_option linter.unusedSimpArgs false
theorem In_eq (n lo hi : Int) : spec_l01In.f n lo hi = some (inB n lo hi) := by
  unfold spec_l01In.f inB
  by_cases h : n ≥ lo
  · rw [if_pos h]; congr 1; simp; omega
  · rw [if_neg h]; congr 1; simp; omega
theorem Wi_eq (n lo hi : Int) : impl_within.f n lo hi = some (inB n lo hi) := by
  unfold impl_within.f inB
  by_cases h : lo ≤ n
  · rw [if_pos h]; congr 1; simp; omega
  · rw [if_neg h]; congr 1; simp; omega
def okLink (x : S60) : Bool := inB x.f0 0 100000 && inB x.f1 x.f0 100000
def okLinkAt (xs : List S60) (i : Nat) : Bool := okLink (xs.getD i z60)
theorem main_FnExactIsChain (M0 : List S60) (hM : M0.length ≤ 1000000) (hP : ∀ x ∈ M0, PrI60 x) : ∃ q1, Evt (fun k => spec_IsChain.f k M0 = some q1) ∧ Evt (fun k => impl_IsChain.f k M0 = some q1) := by
  refine ⟨allF (okLinkAt M0) 0 M0.length && decide ((M0.length : Int) ≤ 20), ⟨M0.length + 1, fun k hk => ?_⟩, ⟨M0.length + 1, fun k hk => ?_⟩⟩
  · refine all_loop (f := fun k i => spec_IsChain.l0 k M0 (i : Int)) M0.length (fun k i hi => ?_) (fun k => ?_) M0.length k 0 (by omega) (by omega) (by omega)
    · show spec_IsChain.l0 (k + 1) M0 i = _
      simp only [spec_IsChain.l0, In_eq, Option.bind_some]
      rw [if_pos (by omega), if_pos (by omega), w64 (by omega)]
      unfold okLinkAt okLink rd_T60
      rw [Int.toNat_natCast]
      cases inB (M0.getD i z60).f0 0 100000 <;> cases inB (M0.getD i z60).f1 (M0.getD i z60).f0 100000 <;> rfl
    · show spec_IsChain.l0 (k + 1) M0 _ = _
      simp only [spec_IsChain.l0]
      rw [if_neg (by omega)]
  · show impl_IsChain.f k M0 = _
    unfold impl_IsChain.f
    by_cases h : (M0.length : Int) > 20
    · rw [if_pos h, decide_eq_false (by omega : ¬ ((M0.length : Int) ≤ 20)), Bool.and_false]
    · rw [if_neg h, decide_eq_true (by omega : ((M0.length : Int) ≤ 20))]
      refine all_loop (f := fun k i => impl_IsChain.l0 k M0 (M0.length : Int) (i : Int)) M0.length (fun k i hi => ?_) (fun k => ?_) M0.length k 0 (by omega) (by omega) (by omega)
      · show impl_IsChain.l0 (k + 1) M0 (M0.length : Int) i = _
        simp only [impl_IsChain.l0, Wi_eq, Option.bind_some]
        rw [if_pos (by omega), if_pos (by omega), if_pos (by omega), w64 (by omega)]
        unfold okLinkAt okLink rd_T60
        rw [Int.toNat_natCast]
        cases inB (M0.getD i z60).f0 0 100000 <;> cases inB (M0.getD i z60).f1 (M0.getD i z60).f0 100000 <;> rfl
      · show impl_IsChain.l0 (k + 1) M0 (M0.length : Int) _ = _
        simp only [impl_IsChain.l0]
        rw [if_neg (by omega)]
theorem pure_FnExactIsChain : Pure_FnExactIsChain := by
  intro l0 n0 p0
  rcases sz_LinkS l0 (1000000) (by omega) (by omega) n0 with ⟨z1, s1⟩ | s1
  rotate_left
  · exact ⟨0, ⟨-1, s1, Or.inl (by omega)⟩⟩
  obtain ⟨L0, t0, ne0, tk0, ln0, le0, rm0, jn0, fu0, to0⟩ := to_LinkS l0 (by omega)
  have eq0 := eq_LinkS L0 (by omega)
  obtain ⟨q1, sp, im⟩ := main_FnExactIsChain (l0.map conv_LinkS) (by rw [ln0]; omega) (prc_LinkS p0)
  obtain ⟨k, hfu0, hto0, heq0, hsp, him⟩ := (fu0.and (to0.and (eq0.and (sp.and im)))).ex
  exact ⟨k, ⟨1000000 - l0.length, s1, Or.inr ⟨by omega, ⟨L0, _, t0, q1, { ne0 := ne0, tk0 := tk0, ln0 := ln0, fu0 := hfu0, rm0 := rm0, jn0 := jn0, eq0 := heq0, sp := hsp, im := him, to0 := hto0 }⟩⟩⟩⟩

end Go.Proofs.Ytaonanedhmbmpaa.F
