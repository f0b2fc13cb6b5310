import Derived.Test.YtnifblnlpepehaaJFnDark5
import Derived.Below
import Derived.Deep.Draws
import Derived.Deep.AppendLies
import Derived.Maps.AppendAt
import Derived.OwnWalk
import Derived.Laws.BytesArg
import Derived.Laws.MakeOwn
import Derived.Laws.OwnMore
import Derived.Tactics
import Derived.Lib.ConvBytes
import Derived.Laws.Slices
import Derived.WalkKit
import Derived.KernelRfl
import Derived.RowKit3
import Derived.Deep.LoopGhost
import Derived.Deep.QuietTactic
import Derived.BigQuiet
import Derived.WideLaws
import Derived.Deep.DeepCutAuto
import Derived.Deep.CutBlock
import Derived.Deep.RegionHeld3
import Derived.Lib.AppendStr
import Derived.ArgAppend
import Derived.Laws.IdiomCopy
import Derived.RowKit
import Derived.OrdersHeld
import Derived.Laws.BitsLemmas
import Derived.Laws.StructEq
import Derived.Test.YtnifblnlpepehaaProg
import Derived.Laws.Cover1
import Derived.ChangeSlices
import Derived.OpenShut
namespace Go.Proofs.Ytnifblnlpepehaa.F
open Go.RowKit Go.Proofs.YtnifblnlpepehaaW.PrintWords Go.Proofs.YtnifblnlpepehaaW.PrintLast Go.Proofs.YtnifblnlpepehaaW.PrintMore
attribute [local go_sem] max2_int min2_int max_two min_two max_three min_three max_four min_four
set_option linter.unusedVariables false
set_option linter.unusedSimpArgs false
set_option maxHeartbeats 8000000
set_option maxRecDepth 100000
mutual
def spec_l03List.l0 : Nat → List (S91) → List ByteArray → Int → List Int → Int → Int → Option ((List (S91)) × Int × Int)
 | 0, _, _, _, _, _, _ => none
 | k + 1, x3, x4, x5, x1000, x1001, x1002 => if x5 < (x4.length : Int) then ((spec_l01Next.f x1000 x1001 x1002 3).bind fun bt655 => (if bt655.1 > 0 then (if 0 ≤ x5 then ((spec_l03Draw.f x1000 bt655.2.1 bt655.2.2 (rdOf ByteArray.empty x4 x5)).bind fun bt659 => (if x3.length < 1759218604441 then (spec_l03List.l0 k (x3 ++ [(⟨bt659.1, bt659.2.1, bt659.2.2.1, bt659.2.2.2.1, bt659.2.2.2.2.1, bt659.2.2.2.2.2.1, bt659.2.2.2.2.2.2.1, bt659.2.2.2.2.2.2.2.1, bt659.2.2.2.2.2.2.2.2.1⟩ : S91)]) x4 (wrap64 (x5 + 1)) x1000 bt659.2.2.2.2.2.2.2.2.2.1 bt659.2.2.2.2.2.2.2.2.2.2) else (none))) else (none)) else (spec_l03List.l0 k x3 x4 (wrap64 (x5 + 1)) x1000 bt655.2.1 bt655.2.2))) else ((spec_l01Next.f x1000 x1001 x1002 30).bind fun bt673 => (if bt673.1 = 0 then ((spec_l03Good.f x1000 bt673.2.1 bt673.2.2 (⟨#[97, 115, 116, 101, 114]⟩ : ByteArray)).bind fun bt676 => (if x3.length < 1759218604441 then (some ((x3 ++ [(⟨bt676.1, bt676.2.1, bt676.2.2.1, bt676.2.2.2.1, bt676.2.2.2.2.1, bt676.2.2.2.2.2.1, bt676.2.2.2.2.2.2.1, bt676.2.2.2.2.2.2.2.1, bt676.2.2.2.2.2.2.2.2.1⟩ : S91)]), bt676.2.2.2.2.2.2.2.2.2.1, bt676.2.2.2.2.2.2.2.2.2.2)) else (none))) else (if bt673.1 = 1 then (spec_l03List.l1 k x3 0 x1000 bt673.2.1 bt673.2.2) else (some (x3, bt673.2.1, bt673.2.2)))))
def spec_l03List.l1 : Nat → List (S91) → Int → List Int → Int → Int → Option ((List (S91)) × Int × Int)
 | 0, _, _, _, _, _ => none
 | k + 1, x3, x6, x1000, x1001, x1002 => (spec_l01Next.f x1000 x1001 x1002 2).bind fun bt690 => (if (x3.length : Int) < (wrap64 (12 + bt690.1)) then (if x6 < 14 then (if 0 ≤ x6 then (if x6 ≤ (wrap64 (x6 + 1)) then (if (wrap64 (x6 + 1)) ≤ 14 then (if 1 + ((⟨#[97, 98, 99, 100, 101, 102, 103, 104, 105, 106, 107, 108, 109, 110]⟩ : ByteArray).extract (x6 : Int).toNat ((wrap64 (x6 + 1)) : Int).toNat).size ≤ 9223372036854775807 then ((spec_l03Good.f x1000 bt690.2.1 bt690.2.2 ((⟨#[120]⟩ : ByteArray) ++ ((⟨#[97, 98, 99, 100, 101, 102, 103, 104, 105, 106, 107, 108, 109, 110]⟩ : ByteArray).extract (x6 : Int).toNat ((wrap64 (x6 + 1)) : Int).toNat))).bind fun bt693 => (if x3.length < 1759218604441 then (spec_l03List.l1 k (x3 ++ [(⟨bt693.1, bt693.2.1, bt693.2.2.1, bt693.2.2.2.1, bt693.2.2.2.2.1, bt693.2.2.2.2.2.1, bt693.2.2.2.2.2.2.1, bt693.2.2.2.2.2.2.2.1, bt693.2.2.2.2.2.2.2.2.1⟩ : S91)]) (wrap64 (x6 + 1)) x1000 bt693.2.2.2.2.2.2.2.2.2.1 bt693.2.2.2.2.2.2.2.2.2.2) else (none))) else (none)) else (none)) else (none)) else (none)) else (some (x3, bt690.2.1, bt690.2.2))) else (some (x3, bt690.2.1, bt690.2.2)))
end
def spec_l03List.f (k : Nat) (s0_0 : List Int) (s0_1 : Int) (s0_2 : Int) : Option ((List (S91)) × Int × Int) := (spec_l03Names.f).bind fun t652 => (spec_l03List.l0 k (([] : List (S91))) t652 0 s0_0 s0_1 s0_2)
theorem spec_l03List.calls (k : Nat) (g : Nat) (s0_0 : List Int) (s0_1 : Int) (s0_2 : Int) (r1 : List (S91)) (r2 : Int) (r3 : Int) (w0 w : World) (hI : IsS99 w0 w g s0_0 s0_1 s0_2) (hB : Below w0.heap.size w0 w) (h : spec_l03List.f k s0_0 s0_1 s0_2 = some (r1, r2, r3)) :
  Calls Try.prog 72 #[.pointer (some ⟨g, 0, none⟩)] w fun e w' => ∃ v0_ : Value, e = .returned (v0_) ∧ Kd.R k91 91 w' w.heap.size (fun _ => True) v0_ r1 ∧ IsS99 w0 w' g s0_0 r2 r3 ∧ Below w0.heap.size w0 w' ∧ KeepBut w w' g none := by
 have HI0 := am_ hI; have HK := am_ (KeepBut.refl w g none); have HL := am_ hB.size; clear hI; have HW0 := am_ hB.size; have HB := am_ hB; clear hB; have H : ((spec_l03Names.f).bind fun t652 => (spec_l03List.l0 k (([] : List (S91))) t652 0 s0_0 s0_1 s0_2)) = some (r1, r2, r3) := h; clear h; obtain ⟨y649, hy649⟩ : ∃ y_ : List (S91), y_ = (([] : List (S91))) := ⟨_, rfl⟩
 replace H : ((spec_l03Names.f).bind fun t652 => (spec_l03List.l0 k y649 t652 0 s0_0 s0_1 s0_2)) = some (r1, r2, r3) := by (try rw [hy649]); first | with_reducible exact H | with_reducible exact (Option.bind_some _ _).symm.trans H | exact H
 have Ny649 := am_ hy649; clear hy649; obtain ⟨t652, A2, H⟩ := bE_ H; have H' := am_ H; clear H
 go_enter Try.func72, Try.ntmps72
 go_wp2_with (first | ((with_reducible refine gate_dst (N := 7) rfl ?_); refine Kd.R_lit k91 _ 91 ?hg (N := 7) ?hd (xs := ([] : List (S91))) (inner := []) (ok := fun _ => True) (okp := fun _ => True) ?hr ?hp (fun _ hk => hk) trivial (Below.refl _ _) (Nat.le_refl _) (by simp) ?_; (case hd => rfl); (case hg => rfl); (case hr => first | (go_simp; done) | (go_simp; rfl)); (case hp => exact (Reps.none _ _)); intro v650 w3 ho4 hb hg_ hnew_; clear hg_ hnew_; (first | rw [← Ny649.out] at ho4 | (simp only [Int.reduceToNat] at ho4; rw [← Ny649.out] at ho4)); replace HO651 := am_ (Kd.R_lower ho4 (keep_size (w := w) (g := g) (row := none) Zbd)); replace HK := am_ (KeepBut.trans Zbd (KeepBut.of_below hb g none) (.inl rfl)); replace HB := (bsZ Zbc hb); replace HI0 := am_ (IsS99.below Zbb hb); clear hb ho4) | ((with_reducible refine gate_callee (f := 86) rfl ?_); refine gZ 8 Try.func86 #[] ?_; (with_reducible refine (spec_l03Names.calls  t652 _ A2.out).mono ?_); rintro e w5 ⟨v653, rfl, ho0, hb⟩; refine ⟨_, rfl, ?_⟩; replace HO651 := (hbZ HO651 hb); replace HO654 := am_ (Kd.R_lower ho0 (keep_size (w := w) (g := g) (row := none) Zbd)); replace HK := am_ (KeepBut.trans Zbd (KeepBut.of_below hb g none) (.inl rfl)); replace HB := (bsZ Zbc hb); replace HI0 := am_ (IsS99.below Zbb hb); clear hb ho0))
 go_loopg [3, 5] k (fun kq v3 v5 w' => ∃ (x3_1 : List (S91)) (x5_1 : Int) (x1001_1 : Int) (x1002_1 : Int), v5 = .int .i64 x5_1 ∧ Aside0 (spec_l03List.l0 kq x3_1 t652 x5_1 s0_0 x1001_1 x1002_1 = some (r1, r2, r3)) ∧ Aside0 (kq ≤ k) ∧ Aside0 (Kd.R k91 91 w' w.heap.size (fun _ => True) v3 x3_1) ∧ Aside0 (Kd.R Kd.string 9 w' w.heap.size (fun _ => True) v653 t652) ∧ Aside0 (IsS99 w0 w' g s0_0 x1001_1 x1002_1) ∧ Aside0 (KeepBut w w' g none) ∧ Aside0 (Below w0.heap.size w0 w'))
 case atStart => exact ⟨(y649), (0), (s0_1), (s0_2), Za, H', ⟨Nat.le_refl _⟩, ⟨(Zr HO651)⟩, ⟨(Zr HO654)⟩, ⟨Zbb⟩, ⟨Zbd⟩, ⟨Zbc⟩⟩
 case round =>
  clear H'
  try clear p2
  obtain ⟨x3_1, x5_1, x1001_1, x1002_1, rfl, HA, HK1, HO_3, HO_4, HI0, HK, HB⟩ := hrel
  cases gk with
  | zero => exact absurd HA.out (by simp [spec_l03List.l0])
  | succ k1 =>
   have H := HA.out; clear HA; simp only [spec_l03List.l0] at H
   by_cases c6 : x5_1 < (t652.length : Int)
   ·rw [if_pos c6] at H
    have c6b0 := decide_eq_true c6; clear c6; obtain ⟨⟨t655, t656, t657⟩, A7, H⟩ := bE_ H
    dsimp only at H
    have HS_ := am_ H; clear H; obtain ⟨Ao12, co12, eo12⟩ := Kd.R_slice HO_4.out; subst eo12
    go_wp2_with (first | ((with_reducible refine gate_callee (f := 45) rfl ?_); refine gZ 16 Try.func45 #[.pointer (some ⟨g, 0, none⟩), .int .i64 3] ?_; (with_reducible refine (spec_l01Next.calls g s0_0 x1001_1 x1002_1 3 t655 t656 t657 w0 _ ?_ ?_ A7.out).mono ?_); exact Zbb; exact Zbc; rintro e w13 ⟨rfl, hi, hb, hk⟩; refine ⟨_, rfl, ?_⟩; replace HO_3 := (hoZ (IsS99.apart (show IsS99 w0 _ g s0_0 x1001_1 x1002_1 from Zbb) (Zr HO_3) (by decide)) hk); replace HO_4 := (hoZ (IsS99.apart (show IsS99 w0 _ g s0_0 x1001_1 x1002_1 from Zbb) (Zr HO_4) (by decide)) hk); replace HK := am_ (KeepBut.trans Zbd hk (.inl rfl)); replace HB := am_ (hb); replace HI0 := am_ (hi); clear hb hk hi; refine ?roundEnd))
    case roundEnd =>
     by_cases c8 : t655 > 0
     ·have H := HS_.out
      clear HS_; rw [if_pos c8] at H; have c8b0 : decide (0 < t655) = true := decide_eq_true c8; clear c8
      by_cases c9 : 0 ≤ x5_1
      ·rw [if_pos c9] at H
       have c9b0 := decide_eq_true c9; clear c9; obtain ⟨⟨t659, t660, t661, t662, t663, t664, t665, t666, t667, t668, t669⟩, A10, H⟩ := bE_ H
       dsimp only at H
       by_cases c11 : x3_1.length < 1759218604441
       ·rw [if_pos c11] at H
        have LMc11 := am_ c11; clear c11; obtain ⟨y670, hy670⟩ : ∃ y_ : List (S91), y_ = (x3_1 ++ [(⟨t659, t660, t661, t662, t663, t664, t665, t666, t667⟩ : S91)]) := ⟨_, rfl⟩
        (first | (rw [← hy670] at H; with_reducible replace H := bindZ H) | rw [← hy670] at H | skip)
        have Ny670 := am_ hy670; clear hy670; have H' := am_ H; clear H; have p658 : 0 ≤ (x5_1 : Int) := of_decide_eq_true Zc; have q658 : x5_1 < (t652.length : Int) := of_decide_eq_true Zc; obtain ⟨ad658, e658, hx658_0⟩ := Kd.at_string (Kd.R_reads' HO_4.out).2.2 x5_1 p658 q658
        cases e658
        replace p658 := eq_true p658; replace q658 := eq_true q658
        go_wp2_with (first | ((with_reducible refine gate_callee (f := 89) rfl ?_); refine gZ 24 Try.func89 #[.pointer (some ⟨g, 0, none⟩), .string (rdOf ByteArray.empty t652 x5_1)] ?_; (with_reducible refine (spec_l03Draw.calls g s0_0 t656 t657 (rdOf ByteArray.empty t652 x5_1) t659 t660 t661 t662 t663 t664 t665 t666 t667 t668 t669 w0 _ ?_ ?_ A10.out).mono ?_); exact Zbb; exact Zbc; rintro e w14 ⟨rfl, hi, hb, hk⟩; refine ⟨_, rfl, ?_⟩; replace HO_3 := (hoZ (IsS99.apart (show IsS99 w0 _ g s0_0 t656 t657 from Zbb) (Zr HO_3) (by decide)) hk); replace HO_4 := (hoZ (IsS99.apart (show IsS99 w0 _ g s0_0 t656 t657 from Zbb) (Zr HO_4) (by decide)) hk); replace HK := am_ (KeepBut.trans Zbd hk (.inl rfl)); replace HB := am_ (hb); replace HI0 := am_ (hi); clear hb hk hi) | ((with_reducible refine gate_builtin (b := .append) (xs := #[.tmp 18, .tmp 25]) rfl ?_); at_builtin; refine Kd.R_append k91 w.heap.size rfl (.tmp 18) (.tmp 25) 32 91 (.agg #[(.string ⟨#[]⟩), (.int .i64 0), (.int .i64 0), (.int .i64 0), (.int .i64 0), (.int .i64 0), (.int .i64 0), (.int .i64 0), (.int .i64 0)]) 80 rfl Try.underlying32 info91 rfl (by decide) (by omega) u3 x3_1 (⟨t659, t660, t661, t662, t663, t664, t665, t666, t667⟩ : S91) [.string t659, .int .i64 t660, .int .i64 t661, .int .i64 t662, .int .i64 t663, .int .i64 t664, .int .i64 t665, .int .i64 t666, .int .i64 t667] (fun _ => True) (fun _ => False) rfl rfl ?aP (fun _ hk => hk.elim) ?aF ?aO (Below.refl _ _) ?aS ?aL ?_; (case aP => exact k91_mkM _ _ _ (⟨t659, t660, t661, t662, t663, t664, t665, t666, t667⟩ : S91)); (case aF => exact (fun _ _ => trivial)); (case aO => exact (Zr HO_3)); (case aS => exact (keep_size (w := w) (g := g) (row := none) Zbd)); (case aL => have := LMc11.out; omega); intro v671 w15 ho hb hg hat; rw [← Ny670.out] at ho; replace HO_4 := am_ (Kd.R_over' (Zr HO_4) (Kd.R_typed (Zr HO_3)) (by decide) hg); replace HB := am_ (below_weaken Zbc HL.out hb); replace HI0 := am_ (IsS99.grown Zbb hg (IsS99.own_ne HI0.out HO_3.out (by decide))); replace HK := am_ (KeepBut.trans Zbd (KeepBut.of_grown hg g) (Kd.R_base2 HO_3.out)); replace HO672 := am_ (ho); clear HO_3; clear ho hb hg hat))
        go_roundg k1
        case measure => have := HK1.out; omega
        case rel => exact ⟨(y670), (wrap64 (x5_1 + 1)), (t668), (t669), Za, H', ⟨Zd⟩, ⟨(Zr HO672)⟩, ⟨(Zr HO_4)⟩, ⟨Zbb⟩, ⟨Zbd⟩, ⟨Zbc⟩⟩
       ·exact nN c11 H
      ·exact nN c9 H
     ·have H := HS_.out
      clear HS_; rw [if_neg c8] at H; have c8b0 : decide (0 < t655) = false := decide_eq_false c8; clear c8; have H' := am_ H; clear H
      go_wp2_with (first | fail)
      go_roundg k1
      case measure => have := HK1.out; omega
      case rel => exact ⟨(x3_1), (wrap64 (x5_1 + 1)), (t656), (t657), Za, H', ⟨Zd⟩, ⟨(Zr HO_3)⟩, ⟨(Zr HO_4)⟩, ⟨Zbb⟩, ⟨Zbd⟩, ⟨Zbc⟩⟩
   ·rw [if_neg c6] at H
    have c6b0 := decide_eq_false c6; clear c6; obtain ⟨⟨t673, t674, t675⟩, A18, H⟩ := bE_ H
    dsimp only at H
    have HS_ := am_ H; clear H; obtain ⟨Ao22, co22, eo22⟩ := Kd.R_slice HO_4.out; subst eo22
    go_wp2_with (first | ((with_reducible refine gate_callee (f := 45) rfl ?_); refine gZ 28 Try.func45 #[.pointer (some ⟨g, 0, none⟩), .int .i64 30] ?_; (with_reducible refine (spec_l01Next.calls g s0_0 x1001_1 x1002_1 30 t673 t674 t675 w0 _ ?_ ?_ A18.out).mono ?_); exact Zbb; exact Zbc; rintro e w23 ⟨rfl, hi, hb, hk⟩; refine ⟨_, rfl, ?_⟩; replace HO_3 := (hoZ (IsS99.apart (show IsS99 w0 _ g s0_0 x1001_1 x1002_1 from Zbb) (Zr HO_3) (by decide)) hk); replace HO_4 := (hoZ (IsS99.apart (show IsS99 w0 _ g s0_0 x1001_1 x1002_1 from Zbb) (Zr HO_4) (by decide)) hk); replace HK := am_ (KeepBut.trans Zbd hk (.inl rfl)); replace HB := am_ (hb); replace HI0 := am_ (hi); clear hb hk hi; refine ?roundEnd))
    case roundEnd =>
     by_cases c19 : t673 = 0
     ·have H := HS_.out
      clear HS_; rw [if_pos c19] at H; have c19b0 := beq_iff_eq.mpr c19; have c19b1 := bne_eq_false_iff_eq.mpr c19; clear c19; obtain ⟨⟨t676, t677, t678, t679, t680, t681, t682, t683, t684, t685, t686⟩, A20, H⟩ := bE_ H
      dsimp only at H
      by_cases c21 : x3_1.length < 1759218604441
      ·rw [if_pos c21] at H
       have LMc21 := am_ c21; clear c21; obtain ⟨y687, hy687⟩ : ∃ y_ : List (S91), y_ = (x3_1 ++ [(⟨t676, t677, t678, t679, t680, t681, t682, t683, t684⟩ : S91)]) := ⟨_, rfl⟩
       (first | (rw [← hy687] at H; with_reducible replace H := bindZ H) | rw [← hy687] at H | skip)
       have Ny687 := am_ hy687; clear hy687; simp only [Option.some.injEq, Prod.mk.injEq] at H; obtain ⟨rfl, rfl, rfl⟩ := H
       go_wp2_with (first | ((with_reducible refine gate_callee (f := 87) rfl ?_); refine gZ 33 Try.func87 #[.pointer (some ⟨g, 0, none⟩), .string (⟨#[97, 115, 116, 101, 114]⟩ : ByteArray)] ?_; (with_reducible refine (spec_l03Good.calls g s0_0 t674 t675 (⟨#[97, 115, 116, 101, 114]⟩ : ByteArray) t676 t677 t678 t679 t680 t681 t682 t683 t684 t685 t686 w0 _ ?_ ?_ A20.out).mono ?_); exact Zbb; exact Zbc; rintro e w24 ⟨rfl, hi, hb, hk⟩; refine ⟨_, rfl, ?_⟩; replace HO_3 := (hoZ (IsS99.apart (show IsS99 w0 _ g s0_0 t674 t675 from Zbb) (Zr HO_3) (by decide)) hk); replace HO_4 := (hoZ (IsS99.apart (show IsS99 w0 _ g s0_0 t674 t675 from Zbb) (Zr HO_4) (by decide)) hk); replace HK := am_ (KeepBut.trans Zbd hk (.inl rfl)); replace HB := am_ (hb); replace HI0 := am_ (hi); clear hb hk hi) | ((with_reducible refine gate_builtin (b := .append) (xs := #[.tmp 31, .tmp 34]) rfl ?_); at_builtin; refine Kd.R_append k91 w.heap.size rfl (.tmp 31) (.tmp 34) 32 91 (.agg #[(.string ⟨#[]⟩), (.int .i64 0), (.int .i64 0), (.int .i64 0), (.int .i64 0), (.int .i64 0), (.int .i64 0), (.int .i64 0), (.int .i64 0)]) 80 rfl Try.underlying32 info91 rfl (by decide) (by omega) u3 x3_1 (⟨t676, t677, t678, t679, t680, t681, t682, t683, t684⟩ : S91) [.string t676, .int .i64 t677, .int .i64 t678, .int .i64 t679, .int .i64 t680, .int .i64 t681, .int .i64 t682, .int .i64 t683, .int .i64 t684] (fun _ => True) (fun _ => False) rfl rfl ?aP (fun _ hk => hk.elim) ?aF ?aO (Below.refl _ _) ?aS ?aL ?_; (case aP => exact k91_mkM _ _ _ (⟨t676, t677, t678, t679, t680, t681, t682, t683, t684⟩ : S91)); (case aF => exact (fun _ _ => trivial)); (case aO => exact (Zr HO_3)); (case aS => exact (keep_size (w := w) (g := g) (row := none) Zbd)); (case aL => have := LMc21.out; omega); intro v688 w25 ho hb hg hat; rw [← Ny687.out] at ho; replace HO_4 := am_ (Kd.R_over' (Zr HO_4) (Kd.R_typed (Zr HO_3)) (by decide) hg); replace HB := am_ (below_weaken Zbc HL.out hb); replace HI0 := am_ (IsS99.grown Zbb hg (IsS99.own_ne HI0.out HO_3.out (by decide))); replace HK := am_ (KeepBut.trans Zbd (KeepBut.of_grown hg g) (Kd.R_base2 HO_3.out)); replace HO689 := am_ (ho); clear HO_3; clear ho hb hg hat))
       go_ret
       exact ⟨_, Zg, (Zr HO689), Zbb, Zbc, Zbd⟩
      ·exact nN c21 H
     ·have H := HS_.out
      clear HS_; rw [if_neg c19] at H; have c19b0 := beq_eq_false_iff_ne.mpr c19; have c19b1 := bne_iff_ne.mpr c19; have HS_ := am_ H; clear H
      by_cases c26 : t673 = 1
      ·have H := HS_.out
       clear HS_; rw [if_pos c26] at H; have c26b0 := beq_iff_eq.mpr c26; have c26b1 := bne_eq_false_iff_eq.mpr c26; clear c26; have H' := am_ H; clear H
       go_wp2_with (first | fail)
       go_loopg [3, 6] k1 (fun kq v3 v6 w' => ∃ (x3_2 : List (S91)) (x6_2 : Int) (x1001_2 : Int) (x1002_2 : Int), v6 = .int .i64 x6_2 ∧ Aside0 (spec_l03List.l1 kq x3_2 x6_2 s0_0 x1001_2 x1002_2 = some (r1, r2, r3)) ∧ Aside0 (kq ≤ k1) ∧ Aside0 (Kd.R k91 91 w' w.heap.size (fun _ => True) v3 x3_2) ∧ Aside0 (IsS99 w0 w' g s0_0 x1001_2 x1002_2) ∧ Aside0 (KeepBut w w' g none) ∧ Aside0 (Below w0.heap.size w0 w'))
       case atStart => exact ⟨(x3_1), (0), (t674), (t675), Za, H', ⟨Nat.le_refl _⟩, ⟨(Zr HO_3)⟩, ⟨Zbb⟩, ⟨Zbd⟩, ⟨Zbc⟩⟩
       case round =>
        clear H'
        try clear c1
        try clear c2
        try clear p2
        try clear c4
        try clear c6
        try clear c6b0
        try clear p6
        try clear q6
        try clear hx6
        try clear c7
        try clear c8
        try clear c8b0
        try clear c9
        try clear c9b0
        try clear c11
        try clear c19
        try clear c19b0
        try clear c19b1
        try clear c21
        try clear c26
        try clear c26b0
        try clear c26b1
        try clear hx658_0
        try clear p2
        try clear p658
        try clear q658
        obtain ⟨x3_2, x6_2, x1001_2, x1002_2, rfl, HA, HK2, HO_3, HI0, HK, HB⟩ := hrel
        cases gk with
        | zero => exact absurd HA.out (by simp [spec_l03List.l1])
        | succ k2 =>
         have H := HA.out; clear HA; simp only [spec_l03List.l1] at H; obtain ⟨⟨t690, t691, t692⟩, A29, H⟩ := bE_ H
         dsimp only at H
         have HS_ := am_ H; clear H; obtain ⟨Ao38, co38, eo38⟩ := Kd.R_slice HO_3.out; subst eo38
         go_wp2_with (first | ((with_reducible refine gate_callee (f := 45) rfl ?_); refine gZ 41 Try.func45 #[.pointer (some ⟨g, 0, none⟩), .int .i64 2] ?_; (with_reducible refine (spec_l01Next.calls g s0_0 x1001_2 x1002_2 2 t690 t691 t692 w0 _ ?_ ?_ A29.out).mono ?_); exact Zbb; exact Zbc; rintro e w39 ⟨rfl, hi, hb, hk⟩; refine ⟨_, rfl, ?_⟩; replace HO_3 := (hoZ (IsS99.apart (show IsS99 w0 _ g s0_0 x1001_2 x1002_2 from Zbb) (Zr HO_3) (by decide)) hk); replace HK := am_ (KeepBut.trans Zbd hk (.inl rfl)); replace HB := am_ (hb); replace HI0 := am_ (hi); clear hb hk hi; refine ?roundEnd))
         case roundEnd =>
          by_cases c30 : (x3_2.length : Int) < (wrap64 (12 + t690))
          ·have H := HS_.out
           clear HS_; rw [if_pos c30] at H; have c30b0 := decide_eq_true c30; clear c30; have HS_ := am_ H; clear H
           by_cases c31 : x6_2 < 14
           ·have H := HS_.out
            clear HS_; rw [if_pos c31] at H; have c31b0 := decide_eq_true c31; clear c31
            by_cases c32 : 0 ≤ x6_2
            ·rw [if_pos c32] at H
             have c32b0 := eq_true c32; have c32b1 := decide_eq_true c32; clear c32
             by_cases c33 : x6_2 ≤ (wrap64 (x6_2 + 1))
             ·rw [if_pos c33] at H
              have c33b0 := eq_true c33; have c33b1 := decide_eq_true c33
              by_cases c34 : (wrap64 (x6_2 + 1)) ≤ 14
              ·rw [if_pos c34] at H
               have c34b0 := eq_true c34; have c34b1 := decide_eq_true c34
               by_cases c35 : 1 + ((⟨#[97, 98, 99, 100, 101, 102, 103, 104, 105, 106, 107, 108, 109, 110]⟩ : ByteArray).extract (x6_2 : Int).toNat ((wrap64 (x6_2 + 1)) : Int).toNat).size ≤ 9223372036854775807
               ·rw [if_pos c35] at H
                have c35b0 := eq_true c35; have c35b1 := decide_eq_true c35
                try have c35b2 : (9223372036854775807 < 1 + ((⟨#[97, 98, 99, 100, 101, 102, 103, 104, 105, 106, 107, 108, 109, 110]⟩ : ByteArray).extract (x6_2 : Int).toNat ((wrap64 (x6_2 + 1)) : Int).toNat).size) = False := eq_false (Nat.not_lt.2 c35)
                obtain ⟨⟨t693, t694, t695, t696, t697, t698, t699, t700, t701, t702, t703⟩, A36, H⟩ := bE_ H
                dsimp only at H
                by_cases c37 : x3_2.length < 1759218604441
                ·rw [if_pos c37] at H
                 have LMc37 := am_ c37; clear c37; obtain ⟨y704, hy704⟩ : ∃ y_ : List (S91), y_ = (x3_2 ++ [(⟨t693, t694, t695, t696, t697, t698, t699, t700, t701⟩ : S91)]) := ⟨_, rfl⟩
                 (first | (rw [← hy704] at H; with_reducible replace H := bindZ H) | rw [← hy704] at H | skip)
                 have Ny704 := am_ hy704; clear hy704; have H' := am_ H; clear H
                 go_wp2_with (first | ((with_reducible refine gate_callee (f := 87) rfl ?_); refine gZ 57 Try.func87 #[.pointer (some ⟨g, 0, none⟩), .string ((⟨#[120]⟩ : ByteArray) ++ ((⟨#[97, 98, 99, 100, 101, 102, 103, 104, 105, 106, 107, 108, 109, 110]⟩ : ByteArray).extract (x6_2 : Int).toNat ((wrap64 (x6_2 + 1)) : Int).toNat))] ?_; (with_reducible refine (spec_l03Good.calls g s0_0 t691 t692 ((⟨#[120]⟩ : ByteArray) ++ ((⟨#[97, 98, 99, 100, 101, 102, 103, 104, 105, 106, 107, 108, 109, 110]⟩ : ByteArray).extract (x6_2 : Int).toNat ((wrap64 (x6_2 + 1)) : Int).toNat)) t693 t694 t695 t696 t697 t698 t699 t700 t701 t702 t703 w0 _ ?_ ?_ A36.out).mono ?_); exact Zbb; exact Zbc; rintro e w40 ⟨rfl, hi, hb, hk⟩; refine ⟨_, rfl, ?_⟩; replace HO_3 := (hoZ (IsS99.apart (show IsS99 w0 _ g s0_0 t691 t692 from Zbb) (Zr HO_3) (by decide)) hk); replace HK := am_ (KeepBut.trans Zbd hk (.inl rfl)); replace HB := am_ (hb); replace HI0 := am_ (hi); clear hb hk hi) | ((with_reducible refine gate_builtin (b := .append) (xs := #[.tmp 50, .tmp 58]) rfl ?_); at_builtin; refine Kd.R_append k91 w.heap.size rfl (.tmp 50) (.tmp 58) 32 91 (.agg #[(.string ⟨#[]⟩), (.int .i64 0), (.int .i64 0), (.int .i64 0), (.int .i64 0), (.int .i64 0), (.int .i64 0), (.int .i64 0), (.int .i64 0)]) 80 rfl Try.underlying32 info91 rfl (by decide) (by omega) (.slice Ao38 x3_2.length co38) x3_2 (⟨t693, t694, t695, t696, t697, t698, t699, t700, t701⟩ : S91) [.string t693, .int .i64 t694, .int .i64 t695, .int .i64 t696, .int .i64 t697, .int .i64 t698, .int .i64 t699, .int .i64 t700, .int .i64 t701] (fun _ => True) (fun _ => False) rfl rfl ?aP (fun _ hk => hk.elim) ?aF ?aO (Below.refl _ _) ?aS ?aL ?_; (case aP => exact k91_mkM _ _ _ (⟨t693, t694, t695, t696, t697, t698, t699, t700, t701⟩ : S91)); (case aF => exact (fun _ _ => trivial)); (case aO => exact (Zr HO_3)); (case aS => exact (keep_size (w := w) (g := g) (row := none) Zbd)); (case aL => have := LMc37.out; omega); intro v705 w41 ho hb hg hat; rw [← Ny704.out] at ho; replace HB := am_ (below_weaken Zbc HL.out hb); replace HI0 := am_ (IsS99.grown Zbb hg (IsS99.own_ne HI0.out HO_3.out (by decide))); replace HK := am_ (KeepBut.trans Zbd (KeepBut.of_grown hg g) (Kd.R_base2 HO_3.out)); replace HO706 := am_ (ho); clear HO_3; clear ho hb hg hat))
                 go_roundg k2
                 case measure => have := HK1.out; have := HK2.out; omega
                 case rel => exact ⟨(y704), (wrap64 (x6_2 + 1)), (t702), (t703), Za, H', ⟨Zac⟩, ⟨(Zr HO706)⟩, ⟨Zbb⟩, ⟨Zbd⟩, ⟨Zbc⟩⟩
                ·exact nN c37 H
               ·exact nN c35 H
              ·exact nN c34 H
             ·exact nN c33 H
            ·exact nN c32 H
           ·have H := HS_.out
            clear HS_; rw [if_neg c31] at H; have c31b0 := decide_eq_false c31; clear c31; simp only [Option.some.injEq, Prod.mk.injEq] at H; obtain ⟨rfl, rfl, rfl⟩ := H
            go_wp2_with (first | fail)
            go_ret
            exact ⟨_, Zg, (Zr HO_3), Zbb, Zbc, Zbd⟩
          ·have H := HS_.out
           clear HS_; rw [if_neg c30] at H; have c30b0 := decide_eq_false c30; clear c30; simp only [Option.some.injEq, Prod.mk.injEq] at H; obtain ⟨rfl, rfl, rfl⟩ := H
           go_wp2_with (first | fail)
           go_ret
           exact ⟨_, Zg, (Zr HO_3), Zbb, Zbc, Zbd⟩
      ·have H := HS_.out
       clear HS_; rw [if_neg c26] at H; have c26b0 := beq_eq_false_iff_ne.mpr c26; have c26b1 := bne_iff_ne.mpr c26; simp only [Option.some.injEq, Prod.mk.injEq] at H; obtain ⟨rfl, rfl, rfl⟩ := H
       go_wp2_with (first | fail)
       go_ret
       exact ⟨_, Zg, (Zr HO_3), Zbb, Zbc, Zbd⟩
def spec_l08Draw.l0 : Nat → List Int → Int → Int → List (S87) → List (S91) → List (S80) → Int → Int → ByteArray → Int → Option ((List (S87)) × (List (S91)) × (List (S80)) × Int × Int)
 | 0, _, _, _, _, _, _, _, _, _, _ => none
 | k + 1, x1000, x1001, x1002, x720000, x720001, x720002, x747000, x747001, x747002, x747003 => (spec_l01Next.f x1000 x1001 x1002 2).bind fun bt747 => (if (x720002.length : Int) < (wrap64 (20 + bt747.1)) then (if x720002.length < 3518437208883 then (spec_l08Draw.l0 k x1000 bt747.2.1 bt747.2.2 x720000 x720001 (x720002 ++ [(⟨x747000, x747001, x747002, x747003⟩ : S80)]) x747000 x747001 x747002 x747003) else (none)) else (some (x720000, x720001, x720002, bt747.2.1, bt747.2.2)))
def spec_l08Draw.f (k : Nat) (s0_0 : List Int) (s0_1 : Int) (s0_2 : Int) : Option ((List (S87)) × (List (S91)) × (List (S80)) × Int × Int) := (spec_l08Good.f k s0_0 s0_1 s0_2).bind fun bt708 => ((spec_l01Next.f s0_0 bt708.2.2.2.1 bt708.2.2.2.2 40).bind fun bt720 => (if bt720.1 = 0 then ((spec_l07Draw.f k s0_0 bt720.2.1 bt720.2.2).bind fun bt723 => (some (bt723.1, bt708.2.1, bt708.2.2.1, bt723.2.1, bt723.2.2))) else (if bt720.1 = 1 then ((spec_l03List.f k s0_0 bt720.2.1 bt720.2.2).bind fun bt728 => (some (bt708.1, bt728.1, bt708.2.2.1, bt728.2.1, bt728.2.2))) else (if bt720.1 = 2 then ((spec_l01Next.f s0_0 bt720.2.1 bt720.2.2 8).bind fun bt733 => ((spec_l01Next.f s0_0 bt733.2.1 bt733.2.2 5).bind fun bt736 => ((spec_l01Next.f s0_0 bt736.2.1 bt736.2.2 14).bind fun bt739 => (if bt708.2.2.1.length < 3518437208883 then (some (bt708.1, bt708.2.1, (bt708.2.2.1 ++ [(⟨wrap64 (bt733.1 - 1), bt736.1, (⟨#[112, 101, 111, 110, 121]⟩ : ByteArray), wrap64 (bt739.1 - 1)⟩ : S80)]), bt739.2.1, bt739.2.2)) else (none))))) else (if bt720.1 = 3 then (if (bt708.2.2.1.length : Int) > 0 then (if 0 < (bt708.2.2.1.length : Int) then (spec_l08Draw.l0 k s0_0 bt720.2.1 bt720.2.2 bt708.1 bt708.2.1 bt708.2.2.1 ((rd_T80 bt708.2.2.1 0).f0) ((rd_T80 bt708.2.2.1 0).f1) ((rd_T80 bt708.2.2.1 0).f2) ((rd_T80 bt708.2.2.1 0).f3)) else (none)) else (some (bt708.1, bt708.2.1, bt708.2.2.1, bt720.2.1, bt720.2.2))) else (some (bt708.1, bt708.2.1, bt708.2.2.1, bt720.2.1, bt720.2.2)))))))
def spec_l08Draw.T8 : Bool × List (List Nat × List Nat) := (true, [([], []), ([0], [0]), ([], []), ([2], [2]), ([3], [3]), ([], []), ([5, 3], [5]), ([], []), ([7, 6], [7]), ([8], [8]), ([4, 6, 9], [4, 6, 9]), ([10], [10]), ([1, 11, 8], [1, 11]), ([0, 1, 2, 3, 4, 5, 6, 7, 8, 9, 10, 11, 12], []), ([13, 12, 12, 0, 1, 2, 3, 4, 5, 6, 7, 8, 9, 10, 11, 12], [12, 13])])
def spec_l08Draw.B8 : List Nat := [0, 1, 0, 4, 12, 0, 44, 0, 236, 492, 1020, 2044, 4095, 8191, 16383]
theorem spec_l08Draw.tab8 : rtab .any (opsOf Try.f43 8) = spec_l08Draw.T8 := by kernel_rfl
theorem spec_l08Draw.bits8 : waitsOk spec_l08Draw.T8.2 spec_l08Draw.B8 = true := by kernel_rfl
theorem spec_l08Draw.calls (k : Nat) (g : Nat) (s0_0 : List Int) (s0_1 : Int) (s0_2 : Int) (r1 : List (S87)) (r2 : List (S91)) (r3 : List (S80)) (r4 : Int) (r5 : Int) (w0 w : World) (hI : IsS99 w0 w g s0_0 s0_1 s0_2) (hB : Below w0.heap.size w0 w) (h : spec_l08Draw.f k s0_0 s0_1 s0_2 = some (r1, r2, r3, r4, r5)) :
  Calls Try.prog 43 #[.pointer (some ⟨g, 0, none⟩)] w fun e w' => ∃ v0_ v1_ v2_ : Value, e = .returned (.agg #[v0_, v1_, v2_]) ∧ Kd.R k87 87 w' w.heap.size (fun _ => True) v0_ r1 ∧ Kd.R k91 91 w' w.heap.size (fun _ => True) v1_ r2 ∧ Kd.R k80 80 w' w.heap.size (fun _ => True) v2_ r3 ∧ IsS99 w0 w' g s0_0 r4 r5 ∧ Below w0.heap.size w0 w' ∧ KeepBut w w' g none := by
 have hu35 := Try.underlying35; have hu80 := Try.underlying80; have HI0 := am_ hI; have HK := am_ (KeepBut.refl w g none); have HL := am_ hB.size; clear hI; have HW0 := am_ hB.size; have HB := am_ hB; clear hB; have H : ((spec_l08Good.f k s0_0 s0_1 s0_2).bind fun bt708 => ((spec_l01Next.f s0_0 bt708.2.2.2.1 bt708.2.2.2.2 40).bind fun bt720 => (if bt720.1 = 0 then ((spec_l07Draw.f k s0_0 bt720.2.1 bt720.2.2).bind fun bt723 => (some (bt723.1, bt708.2.1, bt708.2.2.1, bt723.2.1, bt723.2.2))) else (if bt720.1 = 1 then ((spec_l03List.f k s0_0 bt720.2.1 bt720.2.2).bind fun bt728 => (some (bt708.1, bt728.1, bt708.2.2.1, bt728.2.1, bt728.2.2))) else (if bt720.1 = 2 then ((spec_l01Next.f s0_0 bt720.2.1 bt720.2.2 8).bind fun bt733 => ((spec_l01Next.f s0_0 bt733.2.1 bt733.2.2 5).bind fun bt736 => ((spec_l01Next.f s0_0 bt736.2.1 bt736.2.2 14).bind fun bt739 => (if bt708.2.2.1.length < 3518437208883 then (some (bt708.1, bt708.2.1, (bt708.2.2.1 ++ [(⟨wrap64 (bt733.1 - 1), bt736.1, (⟨#[112, 101, 111, 110, 121]⟩ : ByteArray), wrap64 (bt739.1 - 1)⟩ : S80)]), bt739.2.1, bt739.2.2)) else (none))))) else (if bt720.1 = 3 then (if (bt708.2.2.1.length : Int) > 0 then (if 0 < (bt708.2.2.1.length : Int) then (spec_l08Draw.l0 k s0_0 bt720.2.1 bt720.2.2 bt708.1 bt708.2.1 bt708.2.2.1 ((rd_T80 bt708.2.2.1 0).f0) ((rd_T80 bt708.2.2.1 0).f1) ((rd_T80 bt708.2.2.1 0).f2) ((rd_T80 bt708.2.2.1 0).f3)) else (none)) else (some (bt708.1, bt708.2.1, bt708.2.2.1, bt720.2.1, bt720.2.2))) else (some (bt708.1, bt708.2.1, bt708.2.2.1, bt720.2.1, bt720.2.2)))))))) = some (r1, r2, r3, r4, r5) := h; clear h; obtain ⟨⟨t708, t711, t714, t717, t718⟩, A2, H⟩ := bE_ H
 dsimp only at H
 obtain ⟨⟨t720, t721, t722⟩, A3, H⟩ := bE_ H
 dsimp only at H
 have HS_ := am_ H; clear H
 go_enter Try.func43, Try.ntmps43
 go_wp2_with (first | ((with_reducible refine gate_dst (N := 2) rfl ?_); refine boxZ 2 #[.slice none 0 0, .slice none 0 0, .slice none 0 0] 35 ?_; intro gb707 hg w6 hbox hb; replace HB := (bsZ Zbc hb); replace BK707 := am_ (hbox); replace GW707 := am_ ((Zbg : w.heap.size ≤ gb707)); replace GE707 := am_ ((Nat.le_trans HW0.out (Zbg : w.heap.size ≤ gb707) : w0.heap.size ≤ gb707)); replace HK := am_ (KeepBut.trans Zbd (KeepBut.of_below hb g none) (.inl rfl)); replace NB0_707 := am_ ((Zbh : g ≠ gb707)); replace NB707_0 := am_ ((Zbi : gb707 ≠ g)); replace HI0 := am_ (IsS99.below Zbb hb); clear hb hbox hg) | ((with_reducible refine gate_callee (f := 70) rfl ?_); refine gZ 6 Try.func70 #[.pointer (some ⟨g, 0, none⟩)] ?_; (with_reducible refine (spec_l08Good.calls k g s0_0 s0_1 s0_2 t708 t711 t714 t717 t718 w0 _ ?_ ?_ A2.out).mono ?_); exact (Zbj NB0_707); exact (Zbk GE707); rintro e w7 ⟨v709, v712, v715, rfl, ho0, ho1, ho2, hi, hb, hk⟩; refine ⟨_, rfl, ?_⟩; replace BK707 := (kbZ BK707 hk NB707_0); replace HO710 := am_ (Kd.R_lower ho0 (keep_size (w := w) (g := g) (row := none) (Zbl GW707))); replace HO713 := am_ (Kd.R_lower ho1 (keep_size (w := w) (g := g) (row := none) (Zbl GW707))); replace HO716 := am_ (Kd.R_lower ho2 (keep_size (w := w) (g := g) (row := none) (Zbl GW707))); replace HK := am_ (KeepBut.trans (Zbl GW707) hk (.inl rfl)); replace HB := am_ (hb); replace HI0 := am_ (hi); clear hb hk hi ho0 ho1 ho2) | ((with_reducible refine gate_dst (N := 3) rfl ?_); refine boxZ 3 #[.slice none 0 0, .slice none 0 0, .slice none 0 0] 35 ?_; intro gb719 hg w8 hbox hb; replace HO710 := (hbZ HO710 hb); replace HO713 := (hbZ HO713 hb); replace HO716 := (hbZ HO716 hb); replace HB := (bsZ (Zbk GE707) hb); replace BK719 := am_ (hbox); replace GW719 := am_ (((Zbm GW707) : w.heap.size ≤ gb719)); replace GE719 := am_ ((Nat.le_trans HW0.out ((Zbm GW707) : w.heap.size ≤ gb719) : w0.heap.size ≤ gb719)); replace HK := am_ (KeepBut.trans (Zbl GW707) (KeepBut.of_below hb g none) (.inl rfl)); replace NB707_719 := am_ ((by rw [hg]; exact Nat.ne_of_lt (blk_lt (g := gb707) (b0Z BK707)) : gb707 ≠ gb719)); replace NB719_707 := am_ ((by rw [hg]; exact Nat.ne_of_gt (blk_lt (g := gb707) (b0Z BK707)) : gb719 ≠ gb707)); replace BK707 := (bkZ BK707 hb); replace NB0_719 := am_ ((by rw [hg]; exact Nat.ne_of_lt (IsS99.lt (show IsS99 w0 _ g s0_0 t717 t718 from (Zbj NB0_707))) : g ≠ gb719)); replace NB719_0 := am_ ((by rw [hg]; exact Nat.ne_of_gt (IsS99.lt (show IsS99 w0 _ g s0_0 t717 t718 from (Zbj NB0_707))) : gb719 ≠ g)); replace HI0 := am_ (IsS99.below (Zbj NB0_707) hb); clear hb hbox hg; obtain ⟨Ao9, co9, eo9⟩ := Kd.R_slice HO710.out; subst eo9; have hnb10 := NB719_707.out; have hnc10 := NB707_719.out; have hnb11 := NB719_0.out; have hnc11 := NB0_719.out; refine ci3 BK719 ?_; intros; obtain ⟨Ao13, co13, eo13⟩ := Kd.R_slice HO713.out; subst eo13; obtain ⟨Ao14, co14, eo14⟩ := Kd.R_slice HO716.out; subst eo14) | ((with_reducible refine gate_callee (f := 45) rfl ?_); refine gZ 8 Try.func45 #[.pointer (some ⟨g, 0, none⟩), .int .i64 40] ?_; (with_reducible refine (spec_l01Next.calls g s0_0 t717 t718 40 t720 t721 t722 w0 _ ?_ ?_ A3.out).mono ?_); exact (Zbp NB0_707 NB0_719); exact (Zbq GE707 GE719); rintro e w15 ⟨rfl, hi, hb, hk⟩; refine ⟨_, rfl, ?_⟩; replace BK707 := am_ (KeepBut.blk hk (g' := gb707) (bfZ BK707 NB707_719) NB707_0.out (by simp)); replace HO710 := (hoZ (IsS99.apart (show IsS99 w0 _ g s0_0 t717 t718 from (Zbp NB0_707 NB0_719)) (Zbr HO710 BK719) (by decide)) hk); replace HO713 := (hoZ (IsS99.apart (show IsS99 w0 _ g s0_0 t717 t718 from (Zbp NB0_707 NB0_719)) (Zbr HO713 BK719) (by decide)) hk); replace HO716 := (hoZ (IsS99.apart (show IsS99 w0 _ g s0_0 t717 t718 from (Zbp NB0_707 NB0_719)) (Zbr HO716 BK719) (by decide)) hk); replace BK719 := am_ (KeepBut.blk hk (g' := gb719) (o := .cells #[.slice Ao9 t708.length co9, .slice Ao13 t711.length co13, .slice Ao14 t714.length co14] 35 (0, 0)) (bpZ BK719) NB719_0.out (by simp)); replace HK := am_ (KeepBut.trans (Zbs GW707 GW719) hk (.inl rfl)); replace HB := am_ (hb); replace HI0 := am_ (hi); clear hb hk hi; refine ?roundEnd))
 case roundEnd =>
  by_cases c4 : t720 = 0
  ·have H := HS_.out
   clear HS_; rw [if_pos c4] at H; have c4b0 := beq_iff_eq.mpr c4; have c4b1 := bne_eq_false_iff_eq.mpr c4; clear c4; obtain ⟨⟨t723, t726, t727⟩, A5, H⟩ := bE_ H
   dsimp only at H
   simp only [Option.some.injEq, Prod.mk.injEq] at H; obtain ⟨rfl, rfl, rfl, rfl, rfl⟩ := H
   go_wp2_with (first | ((with_reducible refine gate_callee (f := 71) rfl ?_); refine gZ 12 Try.func71 #[.pointer (some ⟨g, 0, none⟩)] ?_; (with_reducible refine (spec_l07Draw.calls k g s0_0 t721 t722 t723 t726 t727 w0 _ ?_ ?_ A5.out).mono ?_); exact (Zbp NB0_707 NB0_719); exact (Zbq GE707 GE719); rintro e w16 ⟨v724, rfl, ho0, hi, hb, hk⟩; refine ⟨_, rfl, ?_⟩; replace BK707 := (kbZ BK707 hk NB707_0); replace HO713 := (hoZ (IsS99.apart (show IsS99 w0 _ g s0_0 t721 t722 from (Zbp NB0_707 NB0_719)) (Zr HO713) (by decide)) hk); replace HO716 := (hoZ (IsS99.apart (show IsS99 w0 _ g s0_0 t721 t722 from (Zbp NB0_707 NB0_719)) (Zr HO716) (by decide)) hk); replace BK719 := (kbZ BK719 hk NB719_0); replace HO725 := am_ (Kd.R_lower (Kd.R_new' ho0 (Kd.R_lt (Zr HO710))) (keep_size (w := w) (g := g) (row := none) (Zbs GW707 GW719))); replace HO710 := am_ (Kd.R_mono (Kd.R_told (Kd.R_oldK (IsS99.apart (show IsS99 w0 _ g s0_0 t721 t722 from (Zbp NB0_707 NB0_719)) (Zr HO710) (by decide)) hk) (Kd.R_base ho0)) (fun _ h_ => h_.1)); replace HK := am_ (KeepBut.trans (Zbs GW707 GW719) hk (.inl rfl)); replace HB := am_ (hb); replace HI0 := am_ (hi); clear hb hk hi ho0; obtain ⟨Ao17, co17, eo17⟩ := Kd.R_slice HO725.out; subst eo17; refine ci3 BK719 ?_; intros; have hnb19 := NB707_0.out; have hnc19 := NB0_707.out; refine ci3 BK707 ?_; intros))
   refine bodyPost_ret (results_cell_row rfl _ _ gb707 35 #[.slice Ao17 t723.length co17, .slice Ao13 t711.length co13, .slice Ao14 t714.length co14] (0, 0) _ rfl (bmZ BK707 NB707_719) Try.underlying35 rfl Zi) rfl ?_; exact ⟨_, _, _, Zg, (Zdd HO725 BK719 BK707), (Zdd HO713 BK719 BK707), (Zdd HO716 BK719 BK707), (Zbp NB0_707 NB0_719), (Zbq GE707 GE719), (Zbs GW707 GW719)⟩
  ·have H := HS_.out
   clear HS_; rw [if_neg c4] at H; have c4b0 := beq_eq_false_iff_ne.mpr c4; have c4b1 := bne_iff_ne.mpr c4; have HS_ := am_ H; clear H
   by_cases c21 : t720 = 1
   ·have H := HS_.out
    clear HS_; rw [if_pos c21] at H; have c21b0 := beq_iff_eq.mpr c21; have c21b1 := bne_eq_false_iff_eq.mpr c21; clear c21; obtain ⟨⟨t728, t731, t732⟩, A22, H⟩ := bE_ H
    dsimp only at H
    simp only [Option.some.injEq, Prod.mk.injEq] at H; obtain ⟨rfl, rfl, rfl, rfl, rfl⟩ := H
    go_wp2_with (first | ((with_reducible refine gate_callee (f := 72) rfl ?_); refine gZ 17 Try.func72 #[.pointer (some ⟨g, 0, none⟩)] ?_; (with_reducible refine (spec_l03List.calls k g s0_0 t721 t722 t728 t731 t732 w0 _ ?_ ?_ A22.out).mono ?_); exact (Zbp NB0_707 NB0_719); exact (Zbq GE707 GE719); rintro e w33 ⟨v729, rfl, ho0, hi, hb, hk⟩; refine ⟨_, rfl, ?_⟩; replace BK707 := (kbZ BK707 hk NB707_0); replace HO710 := (hoZ (IsS99.apart (show IsS99 w0 _ g s0_0 t721 t722 from (Zbp NB0_707 NB0_719)) (Zr HO710) (by decide)) hk); replace HO716 := (hoZ (IsS99.apart (show IsS99 w0 _ g s0_0 t721 t722 from (Zbp NB0_707 NB0_719)) (Zr HO716) (by decide)) hk); replace BK719 := (kbZ BK719 hk NB719_0); replace HO730 := am_ (Kd.R_lower (Kd.R_new' ho0 (Kd.R_lt (Zr HO713))) (keep_size (w := w) (g := g) (row := none) (Zbs GW707 GW719))); replace HO713 := am_ (Kd.R_mono (Kd.R_told (Kd.R_oldK (IsS99.apart (show IsS99 w0 _ g s0_0 t721 t722 from (Zbp NB0_707 NB0_719)) (Zr HO713) (by decide)) hk) (Kd.R_base ho0)) (fun _ h_ => h_.1)); replace HK := am_ (KeepBut.trans (Zbs GW707 GW719) hk (.inl rfl)); replace HB := am_ (hb); replace HI0 := am_ (hi); clear hb hk hi ho0; obtain ⟨Ao34, co34, eo34⟩ := Kd.R_slice HO730.out; subst eo34; refine ci3 BK719 ?_; intros; have hnb36 := NB707_0.out; have hnc36 := NB0_707.out; refine ci3 BK707 ?_; intros))
    refine bodyPost_ret (results_cell_row rfl _ _ gb707 35 #[.slice Ao9 t708.length co9, .slice Ao34 t728.length co34, .slice Ao14 t714.length co14] (0, 0) _ rfl (bmZ BK707 NB707_719) Try.underlying35 rfl Zi) rfl ?_; exact ⟨_, _, _, Zg, (Zde HO710 BK719 BK707), (Zde HO730 BK719 BK707), (Zde HO716 BK719 BK707), (Zbp NB0_707 NB0_719), (Zbq GE707 GE719), (Zbs GW707 GW719)⟩
   ·have H := HS_.out
    clear HS_; rw [if_neg c21] at H; have c21b0 := beq_eq_false_iff_ne.mpr c21; have c21b1 := bne_iff_ne.mpr c21; have HS_ := am_ H; clear H
    by_cases c38 : t720 = 2
    ·have H := HS_.out
     clear HS_; rw [if_pos c38] at H; have c38b0 := beq_iff_eq.mpr c38; have c38b1 := bne_eq_false_iff_eq.mpr c38; clear c38; obtain ⟨⟨t733, t734, t735⟩, A39, H⟩ := bE_ H
     dsimp only at H
     obtain ⟨⟨t736, t737, t738⟩, A40, H⟩ := bE_ H
     dsimp only at H
     obtain ⟨⟨t739, t740, t741⟩, A41, H⟩ := bE_ H
     dsimp only at H
     by_cases c42 : t714.length < 3518437208883
     ·rw [if_pos c42] at H
      have LMc42 := am_ c42; clear c42; obtain ⟨y742, hy742⟩ : ∃ y_ : List (S80), y_ = (t714 ++ [(⟨wrap64 (t733 - 1), t736, (⟨#[112, 101, 111, 110, 121]⟩ : ByteArray), wrap64 (t739 - 1)⟩ : S80)]) := ⟨_, rfl⟩
      (first | (rw [← hy742] at H; with_reducible replace H := bindZ H) | rw [← hy742] at H | skip)
      have Ny742 := am_ hy742; clear hy742; simp only [Option.some.injEq, Prod.mk.injEq] at H; obtain ⟨rfl, rfl, rfl, rfl, rfl⟩ := H
      try go_wp2_with (first | fail)
      replace HO710 := am_ (Kd.R_drew HO710.out); replace HO713 := am_ (Kd.R_drew HO713.out); replace HO716 := am_ (Kd.R_drew HO716.out); replace BK707 := am_ (blk_drew BK707.out); replace BK719 := am_ (blk_drew BK719.out); replace HI0 := am_ (IsS99.drew HI0.out); replace HK := am_ (keep_drew HK.out); replace HB := am_ (below_drew1 HB.out); refine start_ (n := 15) (S := fun w' => w'.cell? ⟨gb719, 0, none⟩ = some (.slice Ao9 t708.length co9) ∧ w'.cell? ⟨gb719, 1, none⟩ = some (.slice Ao13 t711.length co13) ∧ w'.cell? ⟨gb719, 2, none⟩ = some (.slice Ao14 t714.length co14)) (ds := [14]) (bT 15 0) Zi rfl rfl ⟨(blk_cell BK719.out 0).trans rfl, (blk_cell BK719.out 1).trans rfl, (blk_cell BK719.out 2).trans rfl⟩ (fun hHeld => ?_); refine with_tabW spec_l08Draw.tab8 spec_l08Draw.bits8 (fun HT_ HW_ => ?_); generalize w15.drew = w53 at HO710 HO713 HO716 BK707 BK719 HI0 HK HB hHeld ⊢; refine pureZ HT_ 0 (some 21) (bT 15 1) ?_; refine pureZ HT_ 2 (some 23) (bB 15 5) ?_; refine pureZ HT_ 5 (some 26) (bB 15 37) ?_; refine pureZ HT_ 7 (some 28) (bB 15 165) ?_; refine takeZ3 HT_ HW_ 1 (some 22) (bB 15 167) hHeld ?_; refine one_ (i := 3) (N := some 24) (bB 15 175) rfl rfl (one_of HT_.out Zi) (by decide) (fun K hK => ?_); refine goes_ Try.func45 Zi rfl #[.pointer (some ⟨g, 0, none⟩), .int .i64 8] (by rfl) rfl rfl Zj ?_
      with_reducible refine (spec_l01Next.calls g s0_0 t721 t722 8 t733 t734 t735 w0 _ ?side1 ?side2 A39.out).mono ?_
      (case side1 => exact (Zbp NB0_707 NB0_719))
      (case side2 => exact (Zbq GE707 GE719))
      rintro e w54 ⟨rfl, hi, hb, hk⟩; refine ⟨_, rfl, ?_⟩; replace BK707 := (kbZ BK707 hk NB707_0); replace HO710 := (hoZ (IsS99.apart (show IsS99 w0 _ g s0_0 t721 t722 from (Zbp NB0_707 NB0_719)) (Zr HO710) (by decide)) hk); replace HO713 := (hoZ (IsS99.apart (show IsS99 w0 _ g s0_0 t721 t722 from (Zbp NB0_707 NB0_719)) (Zr HO713) (by decide)) hk); replace HO716 := (hoZ (IsS99.apart (show IsS99 w0 _ g s0_0 t721 t722 from (Zbp NB0_707 NB0_719)) (Zr HO716) (by decide)) hk); replace BK719 := (kbZ BK719 hk NB719_0); replace HK := am_ (KeepBut.trans (Zbs GW707 GW719) hk (.inl rfl)); replace HB := am_ (hb); replace HI0 := am_ (hi)
      (try clear hb)
      (try clear hb2)
      (try clear hk)
      (try clear hi)
      refine hK.out _ _ (Zbu BK719) (fun hHeld => ?_); clear hK K; refine normZ 24 ?_; refine pureZ HT_ 4 (some 25) (bB 15 191) ?_; refine one_ (i := 6) (N := some 27) (bT 15 8) rfl rfl (one_of HT_.out Zi) (by decide) (fun K hK => ?_); refine goes_ Try.func45 Zi rfl #[.pointer (some ⟨g, 0, none⟩), .int .i64 5] (by rfl) rfl rfl Zj ?_
      with_reducible refine (spec_l01Next.calls g s0_0 t734 t735 5 t736 t737 t738 w0 _ ?side1 ?side2 A40.out).mono ?_
      (case side1 => exact (Zbp NB0_707 NB0_719))
      (case side2 => exact (Zbq GE707 GE719))
      rintro e w55 ⟨rfl, hi, hb, hk⟩; refine ⟨_, rfl, ?_⟩; replace BK707 := (kbZ BK707 hk NB707_0); replace HO710 := (hoZ (IsS99.apart (show IsS99 w0 _ g s0_0 t734 t735 from (Zbp NB0_707 NB0_719)) (Zr HO710) (by decide)) hk); replace HO713 := (hoZ (IsS99.apart (show IsS99 w0 _ g s0_0 t734 t735 from (Zbp NB0_707 NB0_719)) (Zr HO713) (by decide)) hk); replace HO716 := (hoZ (IsS99.apart (show IsS99 w0 _ g s0_0 t734 t735 from (Zbp NB0_707 NB0_719)) (Zr HO716) (by decide)) hk); replace BK719 := (kbZ BK719 hk NB719_0); replace HK := am_ (KeepBut.trans (Zbs GW707 GW719) hk (.inl rfl)); replace HB := am_ (hb); replace HI0 := am_ (hi)
      (try clear hb)
      (try clear hb2)
      (try clear hk)
      (try clear hi)
      refine hK.out _ _ (Zbu BK719) (fun hHeld => ?_); clear hK K; refine normZ 27 ?_; refine one_ (i := 8) (N := some 29) (bT 15 9) rfl rfl (one_of HT_.out Zi) (by decide) (fun K hK => ?_); refine goes_ Try.func45 Zi rfl #[.pointer (some ⟨g, 0, none⟩), .int .i64 14] (by rfl) rfl rfl Zj ?_
      with_reducible refine (spec_l01Next.calls g s0_0 t737 t738 14 t739 t740 t741 w0 _ ?side1 ?side2 A41.out).mono ?_
      (case side1 => exact (Zbp NB0_707 NB0_719))
      (case side2 => exact (Zbq GE707 GE719))
      rintro e w56 ⟨rfl, hi, hb, hk⟩; refine ⟨_, rfl, ?_⟩; replace BK707 := (kbZ BK707 hk NB707_0); replace HO710 := (hoZ (IsS99.apart (show IsS99 w0 _ g s0_0 t737 t738 from (Zbp NB0_707 NB0_719)) (Zr HO710) (by decide)) hk); replace HO713 := (hoZ (IsS99.apart (show IsS99 w0 _ g s0_0 t737 t738 from (Zbp NB0_707 NB0_719)) (Zr HO713) (by decide)) hk); replace HO716 := (hoZ (IsS99.apart (show IsS99 w0 _ g s0_0 t737 t738 from (Zbp NB0_707 NB0_719)) (Zr HO716) (by decide)) hk); replace BK719 := (kbZ BK719 hk NB719_0); replace HK := am_ (KeepBut.trans (Zbs GW707 GW719) hk (.inl rfl)); replace HB := am_ (hb); replace HI0 := am_ (hi)
      (try clear hb)
      (try clear hb2)
      (try clear hk)
      (try clear hi)
      refine hK.out _ _ (Zbu BK719) (fun hHeld => ?_); clear hK K; refine normZ 29 ?_; refine pureZ HT_ 9 (some 30) (bT 15 10) ?_; refine pureZ HT_ 10 (some 31) (bT 15 11) ?_; refine one_ (i := 11) (N := some 32) (bT 15 12) rfl rfl (one_of HT_.out Zi) (by decide) (fun K hK => ?_); refine value_ (w1 := ?_) (v := ?_) (by rfl) rfl ?_ ?_; rotate_left 2
      ·go_simp
       constructor
       ·rfl
       ·rfl
      refine hK.out _ _ ⟨(blk_cell (blk_alloc BK719.out _) 0).trans rfl, (blk_cell (blk_alloc BK719.out _) 1).trans rfl, (blk_cell (blk_alloc BK719.out _) 2).trans rfl⟩ (fun hHeld => ?_); clear hK K; refine normZ 32 ?_; refine one_ (i := 12) (N := some 33) (bT 15 13) rfl rfl (one_of HT_.out Zi) (by decide) (fun K hK => ?_); refine Kd.R_append_step k80 w.heap.size (by rfl) (.tmp 22) (.tmp 32) 33 80 (.agg #[(.int .i64 0), (.int .i64 0), (.string ⟨#[]⟩), (.int .i64 0)]) 40 rfl Try.underlying33 info80 rfl (by decide) (by omega) (.slice Ao14 t714.length co14) t714 (⟨wrap64 (t733 - 1), t736, (⟨#[112, 101, 111, 110, 121]⟩ : ByteArray), wrap64 (t739 - 1)⟩ : S80) [.int .i64 (wrap64 (t733 - 1)), .int .i64 t736, .string (⟨#[112, 101, 111, 110, 121]⟩ : ByteArray), .int .i64 (wrap64 (t739 - 1))] (fun _ => True) (fun _ => False) rfl rfl ?aP (fun _ hk => hk.elim) ?aF ?aO (Below.refl _ _) ?aS ?aL ?_
      (case aP => exact k80_mkM _ _ _ (⟨wrap64 (t733 - 1), t736, (⟨#[112, 101, 111, 110, 121]⟩ : ByteArray), wrap64 (t739 - 1)⟩ : S80))
      (case aF => exact (fun _ _ => trivial))
      (case aO => exact (Zr HO716))
      (case aS => exact (keep_size (w := w) (g := g) (row := none) (Zbs GW707 GW719)))
      (case aL => have := LMc42.out; omega)
      intro v743 w57 ho hb hg hat; rw [← Ny742.out] at ho; replace BK707 := am_ (blk_grown (g := gb707) (b0Z BK707) hg (Kd.R_ne HO716.out BK707.out (by decide))); replace HO710 := am_ (Kd.R_over' (Zr HO710) (Kd.R_typed (Zr HO716)) (by decide) hg); replace HO713 := am_ (Kd.R_over' (Zr HO713) (Kd.R_typed (Zr HO716)) (by decide) hg); replace BK719 := am_ (blk_grown (g := gb719) (b0Z BK719) hg (Kd.R_ne HO716.out BK719.out (by decide))); replace HB := am_ (below_weaken (Zbq GE707 GE719) HL.out hb); replace HI0 := am_ (IsS99.grown (Zbp NB0_707 NB0_719) hg (IsS99.own_ne HI0.out HO716.out (by decide))); replace HK := am_ (KeepBut.trans (Zbs GW707 GW719) (KeepBut.of_grown hg g) (Kd.R_base2 HO716.out)); replace HO744 := am_ (ho); clear HO716; clear ho hb hg hat; obtain ⟨Ao58, co58, eo58⟩ := Kd.R_slice HO744.out
      (first | subst eo58 | (injection eo58 with f1_ f2_ f3_; have f4_ := f1_.symm; have f5_ := f3_.symm; clear f1_ f2_ f3_; subst f4_; subst f5_))
      refine hK.out _ _ (Zbu BK719) (fun hHeld => ?_); clear hK K; refine normZ 33 ?_; refine pureZ HT_ 13 (some 34) (bT 15 14) ?_; refine last_ (i := 14) (N := none) (bT 15 15) rfl rfl (one_of HT_.out Zi) (by decide) (fun K hK => ?_); have hs59 : w57.cell? ⟨gb719, 2, none⟩ = some (.slice Ao14 t714.length co14) := (blk_cell BK719.out 2).trans rfl; have hfs59 := blk_frozen BK719.out 2; have hns59_0 := NB707_719.out; have hms59_0 := NB719_707.out; refine skip_ (w1 := ?_) (by rfl) rfl ?_ ?_; rotate_left
      ·go_simp
       rfl
      refine hK.out _ _ ?_; clear hK K; refine done_ (done_of HT_.out Zi) ?_; refine ci3 BK719 ?_; intros; have hnb61 := NB707_0.out; have hnc61 := NB0_707.out; refine ci3 BK707 ?_; intros
      try go_wp2
      refine bodyPost_ret (results_cell_row rfl _ _ gb707 35 #[.slice Ao9 t708.length co9, .slice Ao13 t711.length co13, .slice Ao58 y742.length co58] (0, 0) _ rfl (bmZ BK707 NB707_719) Try.underlying35 rfl Zi) rfl ?_; exact ⟨_, _, _, Zg, (Zdf HO710 BK719 BK707), (Zdf HO713 BK719 BK707), (Zdf HO744 BK719 BK707), (Zbp NB0_707 NB0_719), (Zbq GE707 GE719), (Zbs GW707 GW719)⟩
     ·exact nN c42 H
    ·have H := HS_.out
     clear HS_; rw [if_neg c38] at H; have c38b0 := beq_eq_false_iff_ne.mpr c38; have c38b1 := bne_iff_ne.mpr c38; have HS_ := am_ H; clear H; refine ci3 BK719 ?_; intros
     by_cases c63 : t720 = 3
     ·have H := HS_.out
      clear HS_; rw [if_pos c63] at H; have c63b0 := beq_iff_eq.mpr c63; have c63b1 := bne_eq_false_iff_eq.mpr c63; clear c63; have HS_ := am_ H; clear H
      by_cases c64 : (t714.length : Int) > 0
      ·have H := HS_.out
       clear HS_; rw [if_pos c64] at H; have c64b0 : decide (0 < (t714.length : Int)) = true := decide_eq_true c64; have c64b1 : decide (0 < t714.length) = true := decide_eq_true (by omega); clear c64
       by_cases c65 : 0 < (t714.length : Int)
       ·rw [if_pos c65] at H
        have c65b0 := decide_eq_true c65; have c65b1 : decide (0 < t714.length) = true := decide_eq_true (by omega); clear c65; have H' := am_ H; clear H; have p745 : 0 ≤ (0 : Int) := (by omega); have q745 : 0 < (t714.length : Int) := of_decide_eq_true Zc; obtain ⟨ad745, e745, hx745_0, hx745_1, hx745_2, hx745_3⟩ := at_T80 (Kd.R_reads' HO716.out).2.2 0 p745 q745
        cases e745
        have qi745 : (0 < t714.length) = True := eq_true (by omega)
        (try rw [show ((0 : Int)).toNat = 0 from rfl] at hx745_0)
        (try rw [show 0 * 4 = 0 from rfl] at hx745_0)
        (try rw [Addr.add_zero'] at hx745_0)
        (try rw [show ((0 : Int)).toNat = 0 from rfl] at hx745_1)
        (try rw [show 0 * 4 = 0 from rfl] at hx745_1)
        (try rw [Addr.add_zero'] at hx745_1)
        (try rw [show ((0 : Int)).toNat = 0 from rfl] at hx745_2)
        (try rw [show 0 * 4 = 0 from rfl] at hx745_2)
        (try rw [Addr.add_zero'] at hx745_2)
        (try rw [show ((0 : Int)).toNat = 0 from rfl] at hx745_3)
        (try rw [show 0 * 4 = 0 from rfl] at hx745_3)
        (try rw [Addr.add_zero'] at hx745_3)
        replace p745 := eq_true p745; replace q745 := eq_true q745
        go_wp2_with (first | ((with_reducible refine gate_dst (N := 4) rfl ?_); refine boxZ 4 #[.int .i64 0, .int .i64 0, .string (⟨#[]⟩ : ByteArray), .int .i64 0] 80 ?_; intro gb746 hg w77 hbox hb; replace HO710 := (hbZ HO710 hb); replace HO713 := (hbZ HO713 hb); replace HO716 := am_ (Kd.R_below (Kd.R_elderB (Zr HO716) gb746 (Nat.le_of_eq hg.symm)) hb); replace HB := (bsZ (Zbq GE707 GE719) hb); replace BK746 := am_ (hbox); replace GW746 := am_ (((Zcj GW707 GW719) : w.heap.size ≤ gb746)); replace GE746 := am_ ((Nat.le_trans HW0.out ((Zcj GW707 GW719) : w.heap.size ≤ gb746) : w0.heap.size ≤ gb746)); replace HK := am_ (KeepBut.trans (Zbs GW707 GW719) (KeepBut.of_below hb g none) (.inl rfl)); replace NB707_746 := am_ ((by rw [hg]; exact Nat.ne_of_lt (blk_lt (g := gb707) (b0Z BK707)) : gb707 ≠ gb746)); replace NB746_707 := am_ ((by rw [hg]; exact Nat.ne_of_gt (blk_lt (g := gb707) (b0Z BK707)) : gb746 ≠ gb707)); replace BK707 := (bkZ BK707 hb); replace NB719_746 := am_ ((by rw [hg]; exact Nat.ne_of_lt (blk_lt (g := gb719) (b0Z BK719)) : gb719 ≠ gb746)); replace NB746_719 := am_ ((by rw [hg]; exact Nat.ne_of_gt (blk_lt (g := gb719) (b0Z BK719)) : gb746 ≠ gb719)); replace BK719 := (bkZ BK719 hb); replace NB0_746 := am_ ((by rw [hg]; exact Nat.ne_of_lt (IsS99.lt (show IsS99 w0 _ g s0_0 t721 t722 from (Zbp NB0_707 NB0_719))) : g ≠ gb746)); replace NB746_0 := am_ ((by rw [hg]; exact Nat.ne_of_gt (IsS99.lt (show IsS99 w0 _ g s0_0 t721 t722 from (Zbp NB0_707 NB0_719))) : gb746 ≠ g)); replace HI0 := am_ (IsS99.below (Zbp NB0_707 NB0_719) hb); clear hb hbox hg; have hnb78 := NB746_707.out; have hnc78 := NB707_746.out; have hnb79 := NB746_719.out; have hnc79 := NB719_746.out; have hnb80 := NB746_0.out; have hnc80 := NB0_746.out; refine ci4 BK746 ?_; intros))
        go_loopg [] k (fun kq w' => ∃ (x1001_1 : Int) (x1002_1 : Int) (x720002_1 : List (S80)) (u720002 : Value), Aside0 (spec_l08Draw.l0 kq s0_0 x1001_1 x1002_1 t708 t711 x720002_1 ((rd_T80 t714 0).f0) ((rd_T80 t714 0).f1) ((rd_T80 t714 0).f2) ((rd_T80 t714 0).f3) = some (r1, r2, r3, r4, r5)) ∧ Aside0 (kq ≤ k) ∧ Aside0 (Kd.R k87 87 w' w.heap.size (fun _ => True) (.slice Ao9 t708.length co9) t708) ∧ Aside0 (Kd.R k91 91 w' w.heap.size (fun _ => True) (.slice Ao13 t711.length co13) t711) ∧ Aside0 (Kd.R k80 80 w' w.heap.size (fun k_ => k_ ≠ gb746) u720002 x720002_1) ∧ Aside0 (w'.heap[gb707]? = some (.cells #[(.slice none 0 0), (.slice none 0 0), (.slice none 0 0)] 35 (0, 0))) ∧ Aside0 (w'.heap[gb719]? = some (.cells #[(.slice Ao9 t708.length co9), (.slice Ao13 t711.length co13), u720002] 35 (0, 0))) ∧ Aside0 (w'.heap[gb746]? = some (.cells #[.int .i64 ((rd_T80 t714 0).f0), .int .i64 ((rd_T80 t714 0).f1), .string ((rd_T80 t714 0).f2), .int .i64 ((rd_T80 t714 0).f3)] 80 (0, 0))) ∧ Aside0 (IsS99 w0 w' g s0_0 x1001_1 x1002_1) ∧ Aside0 (KeepBut w w' g none) ∧ Aside0 (Below w0.heap.size w0 w'))
        case atStart => exact ⟨(t721), (t722), (t714), (.slice (some ad745) t714.length co14), H', ⟨Nat.le_refl _⟩, ⟨(Zbw HO710 BK746)⟩, ⟨(Zbw HO713 BK746)⟩, ⟨by (with_reducible repeat (first | apply Kd.R_alloc | apply Kd.R_drewN | apply Kd.R_drew)); exact Kd.R_mono (rfZ (Kd.R_mono HO716.out (fun k_ hk => (⟨hk, hk.2⟩ : _ ∧ k_ ≠ gb746)))) (fun _ hk => hk.1.2)⟩, ⟨(Zdg NB707_746 BK707)⟩, ⟨(Zdg NB719_746 BK719)⟩, ⟨by (with_reducible repeat (first | refine blk_drewN ?_ _ | refine blk_drew ?_ | refine blk_alloc ?_ _)); refine blk_put (cs := #[.int .i64 ((rd_T80 t714 0).f0), .int .i64 ((rd_T80 t714 0).f1), .string ((rd_T80 t714 0).f2), .int .i64 0]) ?_ 3 _ rfl; refine blk_put (cs := #[.int .i64 ((rd_T80 t714 0).f0), .int .i64 ((rd_T80 t714 0).f1), .string (⟨#[]⟩ : ByteArray), .int .i64 0]) ?_ 2 _ rfl; refine blk_put (cs := #[.int .i64 ((rd_T80 t714 0).f0), .int .i64 0, .string (⟨#[]⟩ : ByteArray), .int .i64 0]) ?_ 1 _ rfl; refine blk_put (cs := #[.int .i64 0, .int .i64 0, .string (⟨#[]⟩ : ByteArray), .int .i64 0]) ?_ 0 _ rfl; (with_reducible repeat (first | refine blk_drewN ?_ _ | refine blk_drew ?_ | refine blk_alloc ?_ _)); exact BK746.out⟩, ⟨(Zcp NB0_707 NB0_719 NB0_746)⟩, ⟨(Zcm GW707 GW719 GW746)⟩, ⟨(Zco GE707 GE719 GE746)⟩⟩
        case round =>
         clear H'
         try clear c1
         try clear c2
         try clear p2
         try clear c3
         try clear c4
         try clear c4b0
         try clear c4b1
         try clear c6
         try clear p6
         try clear c7
         try clear p7
         try clear q7
         try clear hx7
         try clear qi7
         try clear c8
         try clear c10
         try clear c11
         try clear c19
         try clear c21
         try clear c21b0
         try clear c21b1
         try clear c27
         try clear c28
         try clear c36
         try clear c38
         try clear c38b0
         try clear c38b1
         try clear c42
         try clear c43
         try clear c45
         try clear c47
         try clear c48
         try clear c61
         try clear c63
         try clear c63b0
         try clear c63b1
         try clear c64
         try clear c64b0
         try clear c64b1
         try clear p64
         try clear c65
         try clear c65b0
         try clear c65b1
         try clear c70
         try clear c71
         try clear c72
         try clear p74
         try clear q74
         try clear hx74
         try clear qi74
         try clear c78
         try clear c79
         try clear c80
         try clear hx745_0
         try clear hx745_1
         try clear hx745_2
         try clear hx745_3
         try clear p745
         try clear q745
         obtain ⟨x1001_1, x1002_1, x720002_1, u720002, HA, HK1, HO_720000, HO_720001, HO_720002, BK707, BK719, BK746, HI0, HK, HB⟩ := hrel
         cases gk with
         | zero => exact absurd HA.out (by simp [spec_l08Draw.l0])
         | succ k1 =>
          have H := HA.out; clear HA; simp only [spec_l08Draw.l0] at H; obtain ⟨⟨t747, t748, t749⟩, A82, H⟩ := bE_ H
          dsimp only at H
          have HS_ := am_ H; clear H
          try go_wp2
          replace HO_720000 := am_ (Kd.R_drew HO_720000.out); replace HO_720001 := am_ (Kd.R_drew HO_720001.out); replace HO_720002 := am_ (Kd.R_drew HO_720002.out); replace BK707 := am_ (blk_drew BK707.out); replace BK719 := am_ (blk_drew BK719.out); replace BK746 := am_ (blk_drew BK746.out); replace HI0 := am_ (IsS99.drew HI0.out); replace HK := am_ (keep_drew HK.out); replace HB := am_ (below_drew1 HB.out); obtain ⟨Ao86, co86, eo86⟩ := Kd.R_slice HO_720002.out
          (first | subst eo86 | (injection eo86 with f1_ f2_ f3_; have f4_ := f1_.symm; have f5_ := f3_.symm; clear f1_ f2_ f3_; subst f4_; subst f5_))
          refine start_ (n := 7) (S := fun w' => w'.cell? ⟨gb719, 0, none⟩ = some (.slice Ao9 t708.length co9) ∧ w'.cell? ⟨gb719, 1, none⟩ = some (.slice Ao13 t711.length co13) ∧ w'.cell? ⟨gb719, 2, none⟩ = some (.slice Ao86 x720002_1.length co86)) (ds := []) (bT 7 0) Zi rfl rfl ⟨(blk_cell BK719.out 0).trans rfl, (blk_cell BK719.out 1).trans rfl, (blk_cell BK719.out 2).trans rfl⟩ (fun hHeld => ?_); generalize wr.drew = w85 at HO_720000 HO_720001 HO_720002 BK707 BK719 BK746 HI0 HK HB hHeld ⊢; refine pure_ (i := 0) (N := some 45) (v := ?_) (a' := ?_) (bT 7 1) rfl rfl Zi (fun _ _ _ h => h) (Or.inl ⟨by rfl, ?_⟩) ?_ ?_; rotate_left
          ·intro w'
           go_simp
           with_reducible rfl
          rotate_left
          ·exact Zput
          refine pure_ (i := 3) (N := some 48) (v := ?_) (a' := ?_) (bB 7 9) rfl rfl Zi (fun _ _ _ h => h) (Or.inl ⟨by rfl, ?_⟩) ?_ ?_; rotate_left
          ·intro w'
           go_simp
           with_reducible rfl
          rotate_left
          ·exact Zput
          refine take_ (i := 1) (N := some 46) (v := ?_) (a' := ?_) (bB 7 11) rfl rfl Zi (fun _ _ _ h => h) (Or.inl ⟨by rfl, ?_⟩) hHeld ?_ ?_; rotate_left
          ·rintro w' ⟨s0, s1, s2⟩
           go_simp
           with_reducible rfl
          rotate_left
          ·exact Zput
          refine pure_ (i := 2) (N := some 47) (v := ?_) (a' := ?_) (bT 7 4) rfl rfl Zi (fun _ _ _ h => h) (Or.inl ⟨by rfl, ?_⟩) ?_ ?_; rotate_left
          ·intro w'
           go_simp
           with_reducible rfl
          rotate_left
          ·exact Zput
          refine one_ (i := 4) (N := some 49) (bT 7 5) rfl rfl Zi (by decide) (fun K hK => ?_); refine goes_ Try.func45 Zi rfl #[.pointer (some ⟨g, 0, none⟩), .int .i64 2] (by rfl) rfl rfl Zj ?_
          with_reducible refine (spec_l01Next.calls g s0_0 x1001_1 x1002_1 2 t747 t748 t749 w0 _ ?side1 ?side2 A82.out).mono ?_
          (case side1 => exact (Zcp NB0_707 NB0_719 NB0_746))
          (case side2 => exact (Zco GE707 GE719 GE746))
          rintro e w87 ⟨rfl, hi, hb, hk⟩; refine ⟨_, rfl, ?_⟩; replace HO_720000 := (hoZ (IsS99.apart (show IsS99 w0 _ g s0_0 x1001_1 x1002_1 from (Zcp NB0_707 NB0_719 NB0_746)) (Zr HO_720000) (by decide)) hk); replace HO_720001 := (hoZ (IsS99.apart (show IsS99 w0 _ g s0_0 x1001_1 x1002_1 from (Zcp NB0_707 NB0_719 NB0_746)) (Zr HO_720001) (by decide)) hk); replace HO_720002 := (hoZ (IsS99.apart (show IsS99 w0 _ g s0_0 x1001_1 x1002_1 from (Zcp NB0_707 NB0_719 NB0_746)) (Zr HO_720002) (by decide)) hk); replace BK707 := (kbZ BK707 hk NB707_0); replace BK719 := (kbZ BK719 hk NB719_0); replace BK746 := (kbZ BK746 hk NB746_0); replace HK := am_ (KeepBut.trans (Zcm GW707 GW719 GW746) hk (.inl rfl)); replace HB := am_ (hb); replace HI0 := am_ (hi)
          (try clear hb)
          (try clear hb2)
          (try clear hk)
          (try clear hi)
          refine hK.out _ _ (Zbu BK719) (fun hHeld => ?_); clear hK K; refine normZ 49 ?_; refine pure_ (i := 5) (N := some 50) (v := ?_) (a' := ?_) (bT 7 6) rfl rfl Zi (fun _ _ _ h => h) (Or.inl ⟨by rfl, ?_⟩) ?_ ?_; rotate_left
          ·intro w'
           go_simp
           with_reducible rfl
          rotate_left
          ·exact Zput
          refine pure_ (i := 6) (N := some 51) (v := ?_) (a' := ?_) (bT 7 7) rfl rfl Zi (fun _ _ _ h => h) (Or.inl ⟨by rfl, ?_⟩) ?_ ?_; rotate_left
          ·intro w'
           go_simp
           with_reducible rfl
          rotate_left
          ·exact Zput
          refine done_ Zi ?_; have hnb88 := NB719_707.out; have hnc88 := NB707_719.out; have hnb89 := NB719_746.out; have hnc89 := NB746_719.out; have hnb90 := NB719_0.out; have hnc90 := NB0_719.out; refine ci3 BK719 ?_; intros; have hnb92 := NB746_707.out; have hnc92 := NB707_746.out
          by_cases c83 : (x720002_1.length : Int) < (wrap64 (20 + t747))
          ·have H := HS_.out
           clear HS_; rw [if_pos c83] at H; have c83b0 := decide_eq_true c83; clear c83
           by_cases c84 : x720002_1.length < 3518437208883
           ·rw [if_pos c84] at H
            have LMc84 := am_ c84; clear c84; obtain ⟨y750, hy750⟩ : ∃ y_ : List (S80), y_ = (x720002_1 ++ [(⟨((rd_T80 t714 0).f0), ((rd_T80 t714 0).f1), ((rd_T80 t714 0).f2), ((rd_T80 t714 0).f3)⟩ : S80)]) := ⟨_, rfl⟩
            (first | (rw [← hy750] at H; with_reducible replace H := bindZ H) | rw [← hy750] at H | skip)
            have Ny750 := am_ hy750; clear hy750; have H' := am_ H; clear H
            (try simp only [c83b0, Bool.not_true, Bool.not_false])
            have hnb93 := NB746_0.out; have hnc93 := NB0_746.out; refine ci4 BK746 ?_; intros
            try go_wp2_with (first | ((with_reducible refine gate_builtin (b := .append) (xs := #[.tmp 53, .tmp 55]) rfl ?_); at_builtin; refine Kd.R_append k80 w.heap.size rfl (.tmp 53) (.tmp 55) 33 80 (.agg #[(.int .i64 0), (.int .i64 0), (.string ⟨#[]⟩), (.int .i64 0)]) 40 rfl Try.underlying33 info80 rfl (by decide) (by omega) (.slice Ao86 x720002_1.length co86) x720002_1 (⟨((rd_T80 t714 0).f0), ((rd_T80 t714 0).f1), ((rd_T80 t714 0).f2), ((rd_T80 t714 0).f3)⟩ : S80) [.int .i64 ((rd_T80 t714 0).f0), .int .i64 ((rd_T80 t714 0).f1), .string ((rd_T80 t714 0).f2), .int .i64 ((rd_T80 t714 0).f3)] (fun k_ => k_ ≠ gb746) (fun _ => False) rfl rfl ?aP (fun _ hk => hk.elim) ?aF ?aO (Below.refl _ _) ?aS ?aL ?_; (case aP => exact k80_mkM _ _ _ (⟨((rd_T80 t714 0).f0), ((rd_T80 t714 0).f1), ((rd_T80 t714 0).f2), ((rd_T80 t714 0).f3)⟩ : S80)); (case aF => exact (fun k_ hk => Kd.freshB (g := gb746) (b0Z BK746) k_ hk)); (case aO => exact (Zr HO_720002)); (case aS => exact (keep_size (w := w) (g := g) (row := none) (Zcm GW707 GW719 GW746))); (case aL => have := LMc84.out; omega); intro v751 w95 ho hb hg hat; rw [← Ny750.out] at ho; replace HO_720000 := am_ (Kd.R_over' (Zr HO_720000) (Kd.R_typed (Zr HO_720002)) (by decide) hg); replace HO_720001 := am_ (Kd.R_over' (Zr HO_720001) (Kd.R_typed (Zr HO_720002)) (by decide) hg); replace BK707 := am_ (blk_grown (g := gb707) (b0Z BK707) hg (Kd.R_ne HO_720002.out BK707.out (by decide))); replace BK719 := am_ (blk_grown (g := gb719) (b0Z BK719) hg (Kd.R_ne HO_720002.out BK719.out (by decide))); replace BK746 := am_ (blk_grown (g := gb746) (b0Z BK746) hg (Kd.R_away HO_720002.out (fun _ hk => hk))); replace HB := am_ (below_weaken (Zco GE707 GE719 GE746) HL.out hb); replace HI0 := am_ (IsS99.grown (Zcp NB0_707 NB0_719 NB0_746) hg (IsS99.own_ne HI0.out HO_720002.out (by decide))); replace HK := am_ (KeepBut.trans (Zcm GW707 GW719 GW746) (KeepBut.of_grown hg g) (Kd.R_base2 HO_720002.out)); replace HO752 := am_ (ho); clear HO_720002; clear ho hb hg hat; obtain ⟨Ao96, co96, eo96⟩ := Kd.R_slice HO752.out; subst eo96; refine ci3 BK719 ?_; intros))
            go_roundg k1
            case measure => have := HK1.out; omega
            case rel => exact ⟨(t748), (t749), (y750), (.slice Ao96 y750.length co96), H', ⟨Zd⟩, ⟨(Zbw HO_720000 BK719)⟩, ⟨(Zbw HO_720001 BK719)⟩, ⟨by (with_reducible repeat (first | apply Kd.R_alloc | apply Kd.R_drewN | apply Kd.R_drew)); exact Kd.R_mono (rfZ (Kd.R_types HO752.out BK719.out (by decide))) (fun _ hk => hk.1)⟩, ⟨(Zcq NB707_719 BK707)⟩, ⟨by (with_reducible repeat (first | refine blk_drewN ?_ _ | refine blk_drew ?_ | refine blk_alloc ?_ _)); refine blk_put (cs := #[.slice Ao9 t708.length co9, .slice Ao13 t711.length co13, .slice Ao86 x720002_1.length co86]) ?_ 2 _ rfl; (with_reducible repeat (first | refine blk_drewN ?_ _ | refine blk_drew ?_ | refine blk_alloc ?_ _)); exact BK719.out⟩, ⟨(Zcq NB746_719 BK746)⟩, ⟨(Zcp NB0_707 NB0_719 NB0_746)⟩, ⟨(Zcm GW707 GW719 GW746)⟩, ⟨(Zco GE707 GE719 GE746)⟩⟩
           ·exact nN c84 H
          ·have H := HS_.out
           clear HS_; rw [if_neg c83] at H; have c83b0 := decide_eq_false c83; clear c83; simp only [Option.some.injEq, Prod.mk.injEq] at H; obtain ⟨rfl, rfl, rfl, rfl, rfl⟩ := H
           (try simp only [c83b0, Bool.not_true, Bool.not_false])
           have hnb106 := NB707_0.out; have hnc106 := NB0_707.out; refine ci3 BK707 ?_; intros
           try go_wp2
           refine bodyPost_ret (results_cell_row rfl _ _ gb707 35 #[.slice Ao9 t708.length co9, .slice Ao13 t711.length co13, .slice Ao86 x720002_1.length co86] (0, 0) _ rfl (bpZ BK707) Try.underlying35 rfl Zi) rfl ?_; exact ⟨_, _, _, Zg, (Zbw HO_720000 BK707), (Zbw HO_720001 BK707), (Zbw HO_720002 BK707), (Zcp NB0_707 NB0_719 NB0_746), (Zco GE707 GE719 GE746), (Zcm GW707 GW719 GW746)⟩
       ·exact nN c65 H
      ·have H := HS_.out
       clear HS_; rw [if_neg c64] at H; have c64b0 : decide (0 < (t714.length : Int)) = false := decide_eq_false c64; have c64b1 : decide (0 < t714.length) = false := decide_eq_false (by omega); clear c64; simp only [Option.some.injEq, Prod.mk.injEq] at H; obtain ⟨rfl, rfl, rfl, rfl, rfl⟩ := H; have hnb119 := NB707_0.out; have hnc119 := NB0_707.out; refine ci3 BK707 ?_; intros
       go_wp2_with (first | fail)
       refine bodyPost_ret (results_cell_row rfl _ _ gb707 35 #[.slice Ao9 t708.length co9, .slice Ao13 t711.length co13, .slice Ao14 t714.length co14] (0, 0) _ rfl (bpZ BK707) Try.underlying35 rfl Zi) rfl ?_; exact ⟨_, _, _, Zg, (Zbw HO710 BK707), (Zbw HO713 BK707), (Zbw HO716 BK707), (Zbp NB0_707 NB0_719), (Zbq GE707 GE719), (Zbs GW707 GW719)⟩
     ·have H := HS_.out
      clear HS_; rw [if_neg c63] at H; have c63b0 := beq_eq_false_iff_ne.mpr c63; have c63b1 := bne_iff_ne.mpr c63; simp only [Option.some.injEq, Prod.mk.injEq] at H; obtain ⟨rfl, rfl, rfl, rfl, rfl⟩ := H; have hnb132 := NB707_0.out; have hnc132 := NB0_707.out; refine ci3 BK707 ?_; intros
      go_wp2_with (first | fail)
      refine bodyPost_ret (results_cell_row rfl _ _ gb707 35 #[.slice Ao9 t708.length co9, .slice Ao13 t711.length co13, .slice Ao14 t714.length co14] (0, 0) _ rfl (bpZ BK707) Try.underlying35 rfl Zi) rfl ?_; exact ⟨_, _, _, Zg, (Zbw HO710 BK707), (Zbw HO713 BK707), (Zbw HO716 BK707), (Zbp NB0_707 NB0_719), (Zbq GE707 GE719), (Zbs GW707 GW719)⟩
def spec_DrawDarkGaps.f (k : Nat) (l0 : List Int) : Option ((List (S87)) × (List (S91)) × (List (S80)) × Int) := (spec_l01From.f k l0).bind fun bt754 => ((spec_l08Draw.f k bt754.1 bt754.2.1 bt754.2.2).bind fun bt758 => ((spec_l01Next.f bt754.1 bt758.2.2.2.1 bt758.2.2.2.2 500).bind fun bt770 => ((spec_l01Pick.f bt754.1 bt770.2.1 bt770.2.2 (([1, bt770.1, 300, 0, 10000000, 10000001] : List Int))).bind fun bt776 => (some (bt758.1, bt758.2.1, bt758.2.2.1, bt776.1)))))
def spec_DrawDarkGaps.T3 : Bool × List (List Nat × List Nat) := (true, [([], []), ([], []), ([], []), ([2], [2]), ([3], [3]), ([1, 4, 3], [1, 4]), ([0, 5, 0], [0]), ([5, 6, 0, 1, 2, 3, 4, 5, 6], [5])])
def spec_DrawDarkGaps.B3 : List Nat := [0, 0, 0, 4, 12, 30, 63, 127]
theorem spec_DrawDarkGaps.tab3 : rtab .any (opsOf Try.f15 3) = spec_DrawDarkGaps.T3 := by kernel_rfl
theorem spec_DrawDarkGaps.bits3 : waitsOk spec_DrawDarkGaps.T3.2 spec_DrawDarkGaps.B3 = true := by kernel_rfl
theorem spec_DrawDarkGaps.calls (k : Nat) (A0 : Option Addr) (c0 : Nat) (l0 : List Int) (r1 : List (S87)) (r2 : List (S91)) (r3 : List (S80)) (r4 : Int) (w : World) (hr0 : Kd.C (Kd.int .u8) w A0 l0.length l0) (hc0 : l0.length ≤ c0) (h : spec_DrawDarkGaps.f k l0 = some (r1, r2, r3, r4)) :
  Calls Try.prog 15 #[.slice A0 l0.length c0] w fun e w' => ∃ v0_ v1_ v2_ : Value, e = .returned (.tuple #[.agg #[v0_, v1_, v2_], .int .i64 r4]) ∧ Kd.R k87 87 w' w.heap.size (fun _ => True) v0_ r1 ∧ Kd.R k91 91 w' w.heap.size (fun _ => True) v1_ r2 ∧ Kd.R k80 80 w' w.heap.size (fun _ => True) v2_ r3 ∧ Below w.heap.size w w' := by
 have hu35 := Try.underlying35; have HR0 := am_ hr0; have HC0 := am_ hc0; clear hr0 hc0; have HB := am_ (Below.refl w.heap.size w); have H : ((spec_l01From.f k l0).bind fun bt754 => ((spec_l08Draw.f k bt754.1 bt754.2.1 bt754.2.2).bind fun bt758 => ((spec_l01Next.f bt754.1 bt758.2.2.2.1 bt758.2.2.2.2 500).bind fun bt770 => ((spec_l01Pick.f bt754.1 bt770.2.1 bt770.2.2 (([1, bt770.1, 300, 0, 10000000, 10000001] : List Int))).bind fun bt776 => (some (bt758.1, bt758.2.1, bt758.2.2.1, bt776.1)))))) = some (r1, r2, r3, r4) := h; clear h; obtain ⟨⟨t754, t755, t756⟩, A2, H⟩ := bE_ H
 dsimp only at H
 obtain ⟨⟨t758, t761, t764, t767, t768⟩, A3, H⟩ := bE_ H
 dsimp only at H
 obtain ⟨⟨t770, t771, t772⟩, A4, H⟩ := bE_ H
 dsimp only at H
 obtain ⟨y773, hy773⟩ : ∃ y_ : List Int, y_ = (([1, t770, 300, 0, 10000000, 10000001] : List Int)) := ⟨_, rfl⟩
 (first | (rw [← hy773] at H; with_reducible replace H := bindZ H) | rw [← hy773] at H | skip)
 have Ny773 := am_ hy773; clear hy773; obtain ⟨⟨t776, t777, t778⟩, A5, H⟩ := bE_ H
 dsimp only at H
 simp only [Option.some.injEq, Prod.mk.injEq] at H; obtain ⟨rfl, rfl, rfl, rfl⟩ := H
 go_enter Try.func15, Try.ntmps15
 try go_wp2_with (first | ((with_reducible refine gate_dst (N := 2) rfl ?_); refine boxZ 2 #[.slice none 0 0, .slice none 0 0, .slice none 0 0] 35 ?_; intro gb753 hg w6 hbox hb; replace BK753 := am_ (hbox); replace GW753 := am_ ((Ze : w.heap.size ≤ gb753)); replace GE753 := GW753; replace HB := (bsZ Zf hb); clear hb hbox hg) | ((with_reducible refine gate_callee (f := 42) rfl ?_); refine gZ 7 Try.func42 #[.slice A0 l0.length c0] ?_; (with_reducible refine (spec_l01From.calls k _ _ l0 t754 t755 t756 w _ ?_ ?_ ?_ A2.out).mono ?_); exact (Zh GE753); exact HR0.out; exact HC0.out; rintro e w7 ⟨g757, rfl, hi, hb, hb2⟩; refine ⟨_, rfl, ?_⟩; replace HB := am_ (hb); replace HI757 := am_ (hi); replace NB757_753 := am_ (IsS99.ne_blk hi (blk_below (g := gb753) (b0Z BK753) hb2) (by decide)); replace NB753_757 := am_ (Ne.symm (IsS99.ne_blk hi (blk_below (g := gb753) (b0Z BK753) hb2) (by decide))); replace BK753 := am_ (blk_below (g := gb753) (b0Z BK753) hb2); clear hb hb2 hi) | ((with_reducible refine gate_callee (f := 43) rfl ?_); refine gZ 9 Try.func43 #[.pointer (some ⟨g757, 0, none⟩)] ?_; (with_reducible refine (spec_l08Draw.calls k g757 t754 t755 t756 t758 t761 t764 t767 t768 w _ ?_ ?_ A3.out).mono ?_); exact (Zdh NB757_753); exact (Zdi GE753); rintro e w8 ⟨v759, v762, v765, rfl, ho0, ho1, ho2, hi, hb, hk⟩; refine ⟨_, rfl, ?_⟩; replace BK753 := (kbZ BK753 hk NB753_757); replace HO760 := am_ (Kd.R_lower ho0 (below_size (Zdi GE753))); replace HO763 := am_ (Kd.R_lower ho1 (below_size (Zdi GE753))); replace HO766 := am_ (Kd.R_lower ho2 (below_size (Zdi GE753))); replace HB := am_ (hb); replace HI757 := am_ (hi); clear hb hk hi ho0 ho1 ho2) | ((with_reducible refine gate_dst (N := 5) rfl ?_); refine boxZ 5 #[.slice none 0 0, .slice none 0 0, .slice none 0 0] 35 ?_; intro gb769 hg w9 hbox hb; replace HO760 := (hbZ HO760 hb); replace HO763 := (hbZ HO763 hb); replace HO766 := (hbZ HO766 hb); replace BK769 := am_ (hbox); replace GW769 := am_ ((by rw [hg]; exact (below_size (Zdi GE753)) : w.heap.size ≤ gb769)); replace GE769 := GW769; replace HB := (bsZ (Zdi GE753) hb); replace NB753_769 := am_ ((by rw [hg]; exact Nat.ne_of_lt (blk_lt (g := gb753) (b0Z BK753)) : gb753 ≠ gb769)); replace NB769_753 := am_ ((by rw [hg]; exact Nat.ne_of_gt (blk_lt (g := gb753) (b0Z BK753)) : gb769 ≠ gb753)); replace BK753 := (bkZ BK753 hb); replace NB757_769 := am_ ((by rw [hg]; exact Nat.ne_of_lt (IsS99.lt (show IsS99 w _ g757 t754 t767 t768 from (Zdh NB757_753))) : g757 ≠ gb769)); replace NB769_757 := am_ ((by rw [hg]; exact Nat.ne_of_gt (IsS99.lt (show IsS99 w _ g757 t754 t767 t768 from (Zdh NB757_753))) : gb769 ≠ g757)); replace HI757 := am_ (IsS99.below (Zdh NB757_753) hb); clear hb hbox hg; obtain ⟨Ao10, co10, eo10⟩ := Kd.R_slice HO760.out; subst eo10; have hnb11 := NB769_753.out; have hnc11 := NB753_769.out; have hnb12 := NB769_757.out; have hnc12 := NB757_769.out; refine ci3 BK769 ?_; intros; obtain ⟨Ao14, co14, eo14⟩ := Kd.R_slice HO763.out; subst eo14; obtain ⟨Ao15, co15, eo15⟩ := Kd.R_slice HO766.out; subst eo15))
 have n0_ : Aside0 (Kd.R k87 87 (((w9.setCell ⟨gb769, 0, none⟩ (.slice Ao10 t758.length co10)).setCell ⟨gb769, 1, none⟩ (.slice Ao14 t761.length co14)).setCell ⟨gb769, 2, none⟩ (.slice Ao15 t764.length co15)) w.heap.size (fun _ => True) (.slice Ao10 t758.length co10) t758) := ⟨(Zbw HO760 BK769)⟩; have n1_ : Aside0 (Kd.R k91 91 (((w9.setCell ⟨gb769, 0, none⟩ (.slice Ao10 t758.length co10)).setCell ⟨gb769, 1, none⟩ (.slice Ao14 t761.length co14)).setCell ⟨gb769, 2, none⟩ (.slice Ao15 t764.length co15)) w.heap.size (fun _ => True) (.slice Ao14 t761.length co14) t761) := ⟨(Zbw HO763 BK769)⟩; have n2_ : Aside0 (Kd.R k80 80 (((w9.setCell ⟨gb769, 0, none⟩ (.slice Ao10 t758.length co10)).setCell ⟨gb769, 1, none⟩ (.slice Ao14 t761.length co14)).setCell ⟨gb769, 2, none⟩ (.slice Ao15 t764.length co15)) w.heap.size (fun _ => True) (.slice Ao15 t764.length co15) t764) := ⟨(Zbw HO766 BK769)⟩; have n3_ : Aside0 ((((w9.setCell ⟨gb769, 0, none⟩ (.slice Ao10 t758.length co10)).setCell ⟨gb769, 1, none⟩ (.slice Ao14 t761.length co14)).setCell ⟨gb769, 2, none⟩ (.slice Ao15 t764.length co15)).heap[gb753]? = some (.cells #[.slice none 0 0, .slice none 0 0, .slice none 0 0] 35 (0, 0))) := ⟨by refine blk_far ?_ NB753_769.out _; refine blk_far ?_ NB753_769.out _; refine blk_far ?_ NB753_769.out _; exact BK753.out⟩; have n4_ : Aside0 ((((w9.setCell ⟨gb769, 0, none⟩ (.slice Ao10 t758.length co10)).setCell ⟨gb769, 1, none⟩ (.slice Ao14 t761.length co14)).setCell ⟨gb769, 2, none⟩ (.slice Ao15 t764.length co15)).heap[gb769]? = some (.cells #[.slice Ao10 t758.length co10, .slice Ao14 t761.length co14, .slice Ao15 t764.length co15] 35 (0, 0))) := ⟨by refine blk_put (cs := #[.slice Ao10 t758.length co10, .slice Ao14 t761.length co14, .slice none 0 0]) ?_ 2 _ rfl; refine blk_put (cs := #[.slice Ao10 t758.length co10, .slice none 0 0, .slice none 0 0]) ?_ 1 _ rfl; refine blk_put (cs := #[.slice none 0 0, .slice none 0 0, .slice none 0 0]) ?_ 0 _ rfl; exact BK769.out⟩; have n5_ : Aside0 (IsS99 w (((w9.setCell ⟨gb769, 0, none⟩ (.slice Ao10 t758.length co10)).setCell ⟨gb769, 1, none⟩ (.slice Ao14 t761.length co14)).setCell ⟨gb769, 2, none⟩ (.slice Ao15 t764.length co15)) g757 t754 t767 t768) := ⟨(Zdj NB757_753 NB757_769)⟩; have n6_ : Aside0 (Below w.heap.size w (((w9.setCell ⟨gb769, 0, none⟩ (.slice Ao10 t758.length co10)).setCell ⟨gb769, 1, none⟩ (.slice Ao14 t761.length co14)).setCell ⟨gb769, 2, none⟩ (.slice Ao15 t764.length co15))) := ⟨(Zdk GE753 GE769)⟩
 (try clear HO760)
 (try clear HO763)
 (try clear HO766)
 (try clear BK753)
 (try clear BK769)
 (try clear HI757)
 (try clear HB)
 generalize (((w9.setCell ⟨gb769, 0, none⟩ (.slice Ao10 t758.length co10)).setCell ⟨gb769, 1, none⟩ (.slice Ao14 t761.length co14)).setCell ⟨gb769, 2, none⟩ (.slice Ao15 t764.length co15)) = w16 at n0_ n1_ n2_ n3_ n4_ n5_ n6_ ⊢; have HO760 := n0_; have HO763 := n1_; have HO766 := n2_; have BK753 := n3_; have BK769 := n4_; have HI757 := n5_; have HB := n6_; clear n0_ n1_ n2_ n3_ n4_ n5_ n6_; replace HO760 := am_ (Kd.R_drew HO760.out); replace HO763 := am_ (Kd.R_drew HO763.out); replace HO766 := am_ (Kd.R_drew HO766.out); replace BK753 := am_ (blk_drew BK753.out); replace BK769 := am_ (blk_drew BK769.out); replace HI757 := am_ (IsS99.drew HI757.out); replace HB := am_ (below_drew1 HB.out); refine start_ (n := 8) (S := fun w' => w'.cell? ⟨gb769, 0, none⟩ = some (.slice Ao10 t758.length co10) ∧ w'.cell? ⟨gb769, 1, none⟩ = some (.slice Ao14 t761.length co14) ∧ w'.cell? ⟨gb769, 2, none⟩ = some (.slice Ao15 t764.length co15)) (ds := []) (bT 8 0) Zi rfl rfl ⟨(blk_cell BK769.out 0).trans rfl, (blk_cell BK769.out 1).trans rfl, (blk_cell BK769.out 2).trans rfl⟩ (fun hHeld => ?_); refine with_tabW spec_DrawDarkGaps.tab3 spec_DrawDarkGaps.bits3 (fun HT_ HW_ => ?_); generalize w16.drew = w17 at HO760 HO763 HO766 BK753 BK769 HI757 HB hHeld ⊢; refine pureZ HT_ 1 (some 11) (bB 8 2) ?_; refine pureZ HT_ 2 (some 12) (bB 8 6) ?_; refine takeZ3 HT_ HW_ 0 (some 10) (bT 8 3) hHeld ?_; refine one_ (i := 3) (N := some 13) (bT 8 4) rfl rfl (one_of HT_.out Zi) (by decide) (fun K hK => ?_); refine goes_ Try.func45 Zi rfl #[.pointer (some ⟨g757, 0, none⟩), .int .i64 500] (by rfl) rfl rfl Zj ?_
 with_reducible refine (spec_l01Next.calls g757 t754 t767 t768 500 t770 t771 t772 w _ ?side1 ?side2 A4.out).mono ?_
 (case side1 => exact (Zdj NB757_753 NB757_769))
 (case side2 => exact (Zdk GE753 GE769))
 rintro e w18 ⟨rfl, hi, hb, hk⟩; refine ⟨_, rfl, ?_⟩; replace BK753 := (kbZ BK753 hk NB753_757); replace HO760 := (hoZ (IsS99.apart (show IsS99 w _ g757 t754 t767 t768 from (Zdj NB757_753 NB757_769)) (Zr HO760) (by decide)) hk); replace HO763 := (hoZ (IsS99.apart (show IsS99 w _ g757 t754 t767 t768 from (Zdj NB757_753 NB757_769)) (Zr HO763) (by decide)) hk); replace HO766 := (hoZ (IsS99.apart (show IsS99 w _ g757 t754 t767 t768 from (Zdj NB757_753 NB757_769)) (Zr HO766) (by decide)) hk); replace BK769 := (kbZ BK769 hk NB769_757); replace HB := am_ (hb); replace HI757 := am_ (hi)
 (try clear hb)
 (try clear hb2)
 (try clear hk)
 (try clear hi)
 refine hK.out _ _ (Zbu BK769) (fun hHeld => ?_); clear hK K; refine normZ 13 ?_; refine one_ (i := 4) (N := some 14) (bT 8 5) rfl rfl (one_of HT_.out Zi) (by decide) (fun K hK => ?_); refine Kd.R_lit_step (Kd.int .i64) _ 2 ?hg (N := 14) ?hd (xs := ([1, t770, 300, 0, 10000000, 10000001] : List Int)) (inner := [.int .i64 1, .int .i64 t770, .int .i64 300, .int .i64 0, .int .i64 10000000, .int .i64 10000001]) (ok := fun _ => True) (okp := fun _ => True) ?hr ?hp (fun _ hk => hk) trivial (Below.refl _ _) (Nat.le_refl _) (by simp) ?_; (case hd => rfl); (case hg => rfl); (case hr => first | (go_simp; done) | (go_simp; rfl)); (case hp => exact (Reps.one (show Kd.M (Kd.int .i64) _ _ _ 1 [.int .i64 1] from rfl) (Reps.one (show Kd.M (Kd.int .i64) _ _ _ t770 [.int .i64 t770] from rfl) (Reps.one (show Kd.M (Kd.int .i64) _ _ _ 300 [.int .i64 300] from rfl) (Reps.one (show Kd.M (Kd.int .i64) _ _ _ 0 [.int .i64 0] from rfl) (Reps.one (show Kd.M (Kd.int .i64) _ _ _ 10000000 [.int .i64 10000000] from rfl) (Reps.one (show Kd.M (Kd.int .i64) _ _ _ 10000001 [.int .i64 10000001] from rfl) (Reps.none _ _)))))))); intro v774 w19 ho20 hb hg_ hnew_; clear hg_ hnew_
 (first | rw [← Ny773.out] at ho20 | (simp only [Int.reduceToNat] at ho20; rw [← Ny773.out] at ho20))
 replace HO760 := (hbZ HO760 hb); replace HO763 := (hbZ HO763 hb); replace HO766 := (hbZ HO766 hb); replace HO775 := am_ (Kd.R_lower ho20 (below_size (Zdk GE753 GE769))); replace BK753 := (bkZ BK753 hb); replace BK769 := (bkZ BK769 hb); replace HB := (bsZ (Zdk GE753 GE769) hb); replace HI757 := am_ (IsS99.below (Zdj NB757_753 NB757_769) hb); clear hb ho20; obtain ⟨Ao21, co21, eo21⟩ := Kd.R_slice HO775.out
 (first | subst eo21 | (injection eo21 with f1_ f2_ f3_; have f4_ := f1_.symm; have f5_ := f3_.symm; clear f1_ f2_ f3_; subst f4_; subst f5_))
 refine hK.out _ _ (Zbu BK769) (fun hHeld => ?_); clear hK K; refine normZ 14 ?_; refine one_ (i := 5) (N := some 15) (bT 8 6) rfl rfl (one_of HT_.out Zi) (by decide) (fun K hK => ?_); refine goes_ Try.func44 Zi rfl #[.pointer (some ⟨g757, 0, none⟩), .slice Ao21 y773.length co21] (by rfl) rfl rfl Zj ?_
 with_reducible refine (spec_l01Pick.calls g757 t754 t771 t772 _ _ y773 t776 t777 t778 w _ ?side1 ?side2 ?side3 ?side4 ?side5 A5.out).mono ?_
 (case side1 => exact (Zdj NB757_753 NB757_769))
 (case side2 => exact (Zdk GE753 GE769))
 (case side3 => exact (Zak HO775))
 (case side4 => exact (Kd.R_reads' HO775.out).2.1)
 (case side5 => exact far_slice (IsS99.own_ne HI757.out HO775.out (by decide)))
 rintro e w22 ⟨rfl, hi, hb, hk⟩; refine ⟨_, rfl, ?_⟩; replace BK753 := (kbZ BK753 hk NB753_757); replace HO760 := (hoZ (IsS99.apart (show IsS99 w _ g757 t754 t771 t772 from (Zdj NB757_753 NB757_769)) (Zr HO760) (by decide)) hk); replace HO763 := (hoZ (IsS99.apart (show IsS99 w _ g757 t754 t771 t772 from (Zdj NB757_753 NB757_769)) (Zr HO763) (by decide)) hk); replace HO766 := (hoZ (IsS99.apart (show IsS99 w _ g757 t754 t771 t772 from (Zdj NB757_753 NB757_769)) (Zr HO766) (by decide)) hk); replace BK769 := (kbZ BK769 hk NB769_757); replace HO775 := (hoZ (IsS99.apart (show IsS99 w _ g757 t754 t771 t772 from (Zdj NB757_753 NB757_769)) (Zr HO775) (by decide)) hk); replace HB := am_ (hb); replace HI757 := am_ (hi)
 (try clear hb)
 (try clear hb2)
 (try clear hk)
 (try clear hi)
 refine hK.out _ _ (Zbu BK769) (fun hHeld => ?_); clear hK K; refine normZ 15 ?_; refine one_ (i := 6) (N := none) (bT 8 7) rfl rfl (one_of HT_.out Zi) (by decide) (fun K hK => ?_); have hs23 : w22.cell? ⟨gb753, 0, none⟩ = some (.slice none 0 0) := (blk_cell BK753.out 0).trans rfl; have hfs23 := blk_frozen BK753.out 0; have hns23_1 := NB769_753.out; have hms23_1 := NB753_769.out; have hs24 : w22.cell? ⟨gb753, 1, none⟩ = some (.slice none 0 0) := (blk_cell BK753.out 1).trans rfl; have hfs24 := blk_frozen BK753.out 1; have hns24_1 := NB769_753.out; have hms24_1 := NB753_769.out; have hs25 : w22.cell? ⟨gb753, 2, none⟩ = some (.slice none 0 0) := (blk_cell BK753.out 2).trans rfl; have hfs25 := blk_frozen BK753.out 2; have hns25_1 := NB769_753.out; have hms25_1 := NB753_769.out; refine skip_ (w1 := ?_) (by rfl) rfl ?_ ?_; rotate_left
 ·go_simp
  rfl
 refine hK.out _ _ ⟨(cg1 (hHeld.1) NB769_753), (cg1 (hHeld.2.1) NB769_753), (cg1 (hHeld.2.2) NB769_753)⟩ (fun hHeld => ?_); clear hK K; refine pureZ HT_ 7 (some 3) (bT 8 8) ?_; refine done_ (done_of HT_.out Zi) ?_
 try go_wp2
 refine bodyPost_ret (results_ct rfl _ _ gb753 35 #[.slice Ao10 t758.length co10, .slice Ao14 t761.length co14, .slice Ao15 t764.length co15] (0, 0) _ rfl (bpZ BK753) Try.underlying35 rfl Zi) rfl ?_; exact ⟨_, _, _, Zg, (Zbw HO760 BK753), (Zbw HO763 BK753), (Zbw HO766 BK753), (Zdk GE753 GE769)⟩
def laws_likeInts.l0 : Nat → List Int → List Int → Int → Option (Bool)
 | 0, _, _, _ => none
 | k + 1, x0, x1, x5 => if x5 < (x0.length : Int) then (if 0 ≤ x5 then (if x5 < (x1.length : Int) then (if (rd x0 x5) = (rd x1 x5) then (laws_likeInts.l0 k x0 x1 (wrap64 (x5 + 1))) else (some false)) else (none)) else (none)) else (some true)
def laws_likeInts.f (k : Nat) (l0 : List Int) (l1 : List Int) : Option (Bool) := if (l0.length : Int) = (l1.length : Int) then (laws_likeInts.l0 k l0 l1 0) else (some false)
theorem laws_likeInts.calls (k : Nat) (A0 : Option Addr) (c0 : Nat) (l0 : List Int) (A1 : Option Addr) (c1 : Nat) (l1 : List Int) (r : Bool) (w : World) (hr0 : Kd.C (Kd.int .i64) w A0 l0.length l0) (hc0 : l0.length ≤ c0) (hr1 : Kd.C (Kd.int .i64) w A1 l1.length l1) (hc1 : l1.length ≤ c1) (h : laws_likeInts.f k l0 l1 = some r) :
  Calls Try.prog 46 #[.slice A0 l0.length c0, .slice A1 l1.length c1] w fun e w' => e = .returned (.bool r) ∧ Drawn0 w w' := by
 have HR0 := am_ hr0; have HC0 := am_ hc0; clear hr0 hc0; have HR1 := am_ hr1; have HC1 := am_ hc1; clear hr1 hc1; have H : (if (l0.length : Int) = (l1.length : Int) then (laws_likeInts.l0 k l0 l1 0) else (some false)) = some r := h; clear h
 by_cases c3 : (l0.length : Int) = (l1.length : Int)
 ·rw [if_pos c3] at H
  have c3b0 := beq_iff_eq.mpr c3; have c3b1 := bne_eq_false_iff_eq.mpr c3
  have c3b2 : (l0.length == l1.length) = true := by first | simpa using c3 | (simp at c3 ⊢; omega)
  clear c3; have H' := am_ H; clear H
  go_enter Try.func46, Try.ntmps46
  go_wp2
  repeat (go_quiet (fail); try go_wp2)
  go_loopg [5] k (fun kq v5 w' => ∃ (x5_1 : Int), v5 = .int .i64 x5_1 ∧ Aside0 (laws_likeInts.l0 kq l0 l1 x5_1 = some r) ∧ Aside0 (kq ≤ k) ∧ Drawn0 w w')
  case atStart => exact ⟨(0), Za, H', ⟨Nat.le_refl _⟩, Zb⟩
  case round =>
   clear H'
   try clear c1
   try clear p2
   try clear c3
   try clear c3b0
   try clear c3b1
   try clear c3b2
   obtain ⟨x5_1, rfl, HA, HK1, ⟨m1, rfl⟩⟩ := hrel
   cases gk with
   | zero => exact absurd HA.out (by simp [laws_likeInts.l0])
   | succ k1 =>
    have H := HA.out; clear HA; simp only [laws_likeInts.l0] at H
    by_cases c4 : x5_1 < (l0.length : Int)
    ·rw [if_pos c4] at H
     have c4b0 := decide_eq_true c4; clear c4
     by_cases c5 : 0 ≤ x5_1
     ·rw [if_pos c5] at H
      have c5b0 := decide_eq_true c5; clear c5
      by_cases c6 : x5_1 < (l1.length : Int)
      ·rw [if_pos c6] at H
       have c6b0 := decide_eq_true c6; clear c6
       by_cases c7 : (rd l0 x5_1) = (rd l1 x5_1)
       ·rw [if_pos c7] at H
        have c7b0 := beq_iff_eq.mpr c7; have c7b1 := bne_eq_false_iff_eq.mpr c7; clear c7; have H' := am_ H; clear H; have p779 : 0 ≤ (x5_1 : Int) := of_decide_eq_true Zc; have q779 : x5_1 < (l0.length : Int) := of_decide_eq_true Zc; obtain ⟨ad779, e779, hx779_0⟩ := Kd.at_int HR0.out x5_1 p779 q779
        cases e779
        replace p779 := eq_true p779; replace q779 := eq_true q779; have p780 : 0 ≤ (x5_1 : Int) := of_decide_eq_true Zc; have q780 : x5_1 < (l1.length : Int) := of_decide_eq_true Zc; obtain ⟨ad780, e780, hx780_0⟩ := Kd.at_int HR1.out x5_1 p780 q780
        cases e780
        replace p780 := eq_true p780; replace q780 := eq_true q780
        go_wp2
        repeat (go_quiet (fail); try go_wp2)
        go_roundg k1
        case measure => have := HK1.out; omega
        case rel => exact ⟨(wrap64 (x5_1 + 1)), Za, H', ⟨Zd⟩, Zb⟩
       ·rw [if_neg c7] at H
        have c7b0 := beq_eq_false_iff_ne.mpr c7; have c7b1 := bne_iff_ne.mpr c7; obtain rfl := Option.some.inj H; have p779 : 0 ≤ (x5_1 : Int) := of_decide_eq_true Zc; have q779 : x5_1 < (l0.length : Int) := of_decide_eq_true Zc; obtain ⟨ad779, e779, hx779_0⟩ := Kd.at_int HR0.out x5_1 p779 q779
        cases e779
        replace p779 := eq_true p779; replace q779 := eq_true q779; have p780 : 0 ≤ (x5_1 : Int) := of_decide_eq_true Zc; have q780 : x5_1 < (l1.length : Int) := of_decide_eq_true Zc; obtain ⟨ad780, e780, hx780_0⟩ := Kd.at_int HR1.out x5_1 p780 q780
        cases e780
        replace p780 := eq_true p780; replace q780 := eq_true q780
        go_wp2
        repeat (go_quiet (fail); try go_wp2)
        go_ret
        exact ⟨Za, Zb⟩
      ·exact nN c6 H
     ·exact nN c5 H
    ·rw [if_neg c4] at H
     have c4b0 := decide_eq_false c4; clear c4; obtain rfl := Option.some.inj H
     go_wp2
     repeat (go_quiet (fail); try go_wp2)
     go_ret
     exact ⟨Za, Zb⟩
 ·rw [if_neg c3] at H
  have c3b0 := beq_eq_false_iff_ne.mpr c3; have c3b1 := bne_iff_ne.mpr c3
  have c3b2 : (l0.length == l1.length) = false := by first | simpa using c3 | (simp at c3 ⊢; omega)
  obtain rfl := Option.some.inj H
  go_enter Try.func46, Try.ntmps46
  go_wp2
  repeat (go_quiet (fail); try go_wp2)
  go_ret
  exact ⟨Za, Zb⟩
def laws_likeRows.l0 : Nat → List (List Int) → List (List Int) → Int → Option (Bool)
 | 0, _, _, _ => none
 | k + 1, x0, x1, x5 => if x5 < (x0.length : Int) then (if 0 ≤ x5 then (if x5 < (x1.length : Int) then ((laws_likeInts.f k (rd_L5 x0 x5) (rd_L5 x1 x5)).bind fun t783 => (if t783 = true then (laws_likeRows.l0 k x0 x1 (wrap64 (x5 + 1))) else (some false))) else (none)) else (none)) else (some true)
def laws_likeRows.f (k : Nat) (l0 : List (List Int)) (l1 : List (List Int)) : Option (Bool) := if (l0.length : Int) = (l1.length : Int) then (laws_likeRows.l0 k l0 l1 0) else (some false)
theorem laws_likeRows.calls (k : Nat) (A0 : Option Addr) (c0 : Nat) (l0 : List (List Int)) (A1 : Option Addr) (c1 : Nat) (l1 : List (List Int)) (r : Bool) (w : World) (hr0 : Kd.C (Kd.slice 2 (Kd.int .i64)) w A0 l0.length l0) (hc0 : l0.length ≤ c0) (hr1 : Kd.C (Kd.slice 2 (Kd.int .i64)) w A1 l1.length l1) (hc1 : l1.length ≤ c1) (h : laws_likeRows.f k l0 l1 = some r) :
  Calls Try.prog 16 #[.slice A0 l0.length c0, .slice A1 l1.length c1] w fun e w' => e = .returned (.bool r) ∧ Drawn0 w w' := by
 have HR0 := am_ hr0; have HC0 := am_ hc0; clear hr0 hc0; have HR1 := am_ hr1; have HC1 := am_ hc1; clear hr1 hc1; have H : (if (l0.length : Int) = (l1.length : Int) then (laws_likeRows.l0 k l0 l1 0) else (some false)) = some r := h; clear h
 by_cases c3 : (l0.length : Int) = (l1.length : Int)
 ·rw [if_pos c3] at H
  have c3b0 := beq_iff_eq.mpr c3; have c3b1 := bne_eq_false_iff_eq.mpr c3
  have c3b2 : (l0.length == l1.length) = true := by first | simpa using c3 | (simp at c3 ⊢; omega)
  clear c3; have H' := am_ H; clear H
  go_enter Try.func16, Try.ntmps16
  go_wp2
  repeat (go_quiet (fail); try go_wp2)
  go_loopg [5] k (fun kq v5 w' => ∃ (x5_1 : Int), v5 = .int .i64 x5_1 ∧ Aside0 (laws_likeRows.l0 kq l0 l1 x5_1 = some r) ∧ Aside0 (kq ≤ k) ∧ Drawn0 w w')
  case atStart => exact ⟨(0), Za, H', ⟨Nat.le_refl _⟩, Zb⟩
  case round =>
   clear H'
   try clear c1
   try clear p2
   try clear c3
   try clear c3b0
   try clear c3b1
   try clear c3b2
   obtain ⟨x5_1, rfl, HA, HK1, ⟨m1, rfl⟩⟩ := hrel
   cases gk with
   | zero => exact absurd HA.out (by simp [laws_likeRows.l0])
   | succ k1 =>
    have H := HA.out; clear HA; simp only [laws_likeRows.l0] at H
    by_cases c4 : x5_1 < (l0.length : Int)
    ·rw [if_pos c4] at H
     have c4b0 := decide_eq_true c4; clear c4
     by_cases c5 : 0 ≤ x5_1
     ·rw [if_pos c5] at H
      have c5b0 := decide_eq_true c5; clear c5
      by_cases c6 : x5_1 < (l1.length : Int)
      ·rw [if_pos c6] at H
       have c6b0 := decide_eq_true c6; clear c6; obtain ⟨t783, A7, H⟩ := bE_ H
       by_cases c8 : t783 = true
       ·subst c8
        rw [if_pos rfl] at H; have H' := am_ H; clear H; have p781 : 0 ≤ (x5_1 : Int) := of_decide_eq_true Zc; have q781 : x5_1 < (l0.length : Int) := of_decide_eq_true Zc; obtain ⟨ad781, A781_0, c781_0, e781, hx781_0, hl781_0, hi781_0⟩ := at_L5 HR0.out x5_1 p781 q781
        cases e781
        have HR781_0 := am_ hi781_0; have HC781_0 := am_ hl781_0; clear hi781_0 hl781_0; replace p781 := eq_true p781; replace q781 := eq_true q781; have p782 : 0 ≤ (x5_1 : Int) := of_decide_eq_true Zc; have q782 : x5_1 < (l1.length : Int) := of_decide_eq_true Zc; obtain ⟨ad782, A782_0, c782_0, e782, hx782_0, hl782_0, hi782_0⟩ := at_L5 HR1.out x5_1 p782 q782
        cases e782
        have HR782_0 := am_ hi782_0; have HC782_0 := am_ hl782_0; clear hi782_0 hl782_0; replace p782 := eq_true p782; replace q782 := eq_true q782
        go_wp2_with (first | (go_at_call 46; (with_reducible refine (laws_likeInts.calls k1 _ _ (rd_L5 l0 x5_1) _ _ (rd_L5 l1 x5_1) true _ ?_ ?_ ?_ ?_ A7.out).mono ?_); exact (Zdl HR781_0); exact HC781_0.out; exact (Zdl HR782_0); exact HC782_0.out; rintro e w' ⟨rfl, ⟨nd, rfl⟩⟩; (try first | exact ⟨rfl, _, World.drewN_drewN _ _ _⟩ | exact ⟨rfl, _, Eq.trans (World.drewN_drewN _ _ _) (congrArg (World.drewN _) (Nat.add_assoc _ _ _))⟩)))
        repeat (go_quiet (first | (go_at_call 46; (with_reducible refine (laws_likeInts.calls k1 _ _ (rd_L5 l0 x5_1) _ _ (rd_L5 l1 x5_1) true _ ?_ ?_ ?_ ?_ A7.out).mono ?_); exact (Zdl HR781_0); exact HC781_0.out; exact (Zdl HR782_0); exact HC782_0.out; rintro e w' ⟨rfl, ⟨nd, rfl⟩⟩; (try first | exact ⟨rfl, _, World.drewN_drewN _ _ _⟩ | exact ⟨rfl, _, Eq.trans (World.drewN_drewN _ _ _) (congrArg (World.drewN _) (Nat.add_assoc _ _ _))⟩))); try go_wp2_with (first | (go_at_call 46; (with_reducible refine (laws_likeInts.calls k1 _ _ (rd_L5 l0 x5_1) _ _ (rd_L5 l1 x5_1) true _ ?_ ?_ ?_ ?_ A7.out).mono ?_); exact (Zdl HR781_0); exact HC781_0.out; exact (Zdl HR782_0); exact HC782_0.out; rintro e w' ⟨rfl, ⟨nd, rfl⟩⟩; (try first | exact ⟨rfl, _, World.drewN_drewN _ _ _⟩ | exact ⟨rfl, _, Eq.trans (World.drewN_drewN _ _ _) (congrArg (World.drewN _) (Nat.add_assoc _ _ _))⟩))))
        go_roundg k1
        case measure => have := HK1.out; omega
        case rel => exact ⟨(wrap64 (x5_1 + 1)), Za, H', ⟨Zd⟩, Zb⟩
       ·replace c8 := Bool.eq_false_iff.mpr c8
        subst c8; rw [if_neg fnt_] at H; obtain rfl := Option.some.inj H; have p781 : 0 ≤ (x5_1 : Int) := of_decide_eq_true Zc; have q781 : x5_1 < (l0.length : Int) := of_decide_eq_true Zc; obtain ⟨ad781, A781_0, c781_0, e781, hx781_0, hl781_0, hi781_0⟩ := at_L5 HR0.out x5_1 p781 q781
        cases e781
        have HR781_0 := am_ hi781_0; have HC781_0 := am_ hl781_0; clear hi781_0 hl781_0; replace p781 := eq_true p781; replace q781 := eq_true q781; have p782 : 0 ≤ (x5_1 : Int) := of_decide_eq_true Zc; have q782 : x5_1 < (l1.length : Int) := of_decide_eq_true Zc; obtain ⟨ad782, A782_0, c782_0, e782, hx782_0, hl782_0, hi782_0⟩ := at_L5 HR1.out x5_1 p782 q782
        cases e782
        have HR782_0 := am_ hi782_0; have HC782_0 := am_ hl782_0; clear hi782_0 hl782_0; replace p782 := eq_true p782; replace q782 := eq_true q782
        go_wp2_with (first | (go_at_call 46; (with_reducible refine (laws_likeInts.calls k1 _ _ (rd_L5 l0 x5_1) _ _ (rd_L5 l1 x5_1) false _ ?_ ?_ ?_ ?_ A7.out).mono ?_); exact (Zdl HR781_0); exact HC781_0.out; exact (Zdl HR782_0); exact HC782_0.out; rintro e w' ⟨rfl, ⟨nd, rfl⟩⟩; (try first | exact ⟨rfl, _, World.drewN_drewN _ _ _⟩ | exact ⟨rfl, _, Eq.trans (World.drewN_drewN _ _ _) (congrArg (World.drewN _) (Nat.add_assoc _ _ _))⟩)))
        repeat (go_quiet (first | (go_at_call 46; (with_reducible refine (laws_likeInts.calls k1 _ _ (rd_L5 l0 x5_1) _ _ (rd_L5 l1 x5_1) false _ ?_ ?_ ?_ ?_ A7.out).mono ?_); exact (Zdl HR781_0); exact HC781_0.out; exact (Zdl HR782_0); exact HC782_0.out; rintro e w' ⟨rfl, ⟨nd, rfl⟩⟩; (try first | exact ⟨rfl, _, World.drewN_drewN _ _ _⟩ | exact ⟨rfl, _, Eq.trans (World.drewN_drewN _ _ _) (congrArg (World.drewN _) (Nat.add_assoc _ _ _))⟩))); try go_wp2_with (first | (go_at_call 46; (with_reducible refine (laws_likeInts.calls k1 _ _ (rd_L5 l0 x5_1) _ _ (rd_L5 l1 x5_1) false _ ?_ ?_ ?_ ?_ A7.out).mono ?_); exact (Zdl HR781_0); exact HC781_0.out; exact (Zdl HR782_0); exact HC782_0.out; rintro e w' ⟨rfl, ⟨nd, rfl⟩⟩; (try first | exact ⟨rfl, _, World.drewN_drewN _ _ _⟩ | exact ⟨rfl, _, Eq.trans (World.drewN_drewN _ _ _) (congrArg (World.drewN _) (Nat.add_assoc _ _ _))⟩))))
        go_ret
        exact ⟨Za, Zb⟩
      ·exact nN c6 H
     ·exact nN c5 H
    ·rw [if_neg c4] at H
     have c4b0 := decide_eq_false c4; clear c4; obtain rfl := Option.some.inj H
     go_wp2
     repeat (go_quiet (fail); try go_wp2)
     go_ret
     exact ⟨Za, Zb⟩
 ·rw [if_neg c3] at H
  have c3b0 := beq_eq_false_iff_ne.mpr c3; have c3b1 := bne_iff_ne.mpr c3
  have c3b2 : (l0.length == l1.length) = false := by first | simpa using c3 | (simp at c3 ⊢; omega)
  obtain rfl := Option.some.inj H
  go_enter Try.func16, Try.ntmps16
  go_wp2
  repeat (go_quiet (fail); try go_wp2)
  go_ret
  exact ⟨Za, Zb⟩
def impl_WindowsOf.f (k : Nat) (l0_0 : List (S87)) (l0_1 : List (S91)) (l0_2 : List (S80)) : Option ((List (List Int)) × Int) := (impl_IsShow.f k l0_0 l0_1 l0_2).bind fun t785 => (if t785 = true then ((impl_windowsOf.f k l0_0 l0_1 l0_2).bind fun t786 => (some (t786, 0))) else (some (([] : List (List Int)), 1)))
theorem impl_WindowsOf.calls (k : Nat) (A0_0 : Option Addr) (c0_0 : Nat) (l0_0 : List (S87)) (A0_1 : Option Addr) (c0_1 : Nat) (l0_1 : List (S91)) (A0_2 : Option Addr) (c0_2 : Nat) (l0_2 : List (S80)) (r1 : List (List Int)) (r2 : Int) (w : World) (hr0_0 : Kd.C k87 w A0_0 l0_0.length l0_0) (hc0_0 : l0_0.length ≤ c0_0) (hr0_1 : Kd.C k91 w A0_1 l0_1.length l0_1) (hc0_1 : l0_1.length ≤ c0_1) (hr0_2 : Kd.C k80 w A0_2 l0_2.length l0_2) (hc0_2 : l0_2.length ≤ c0_2) (h : impl_WindowsOf.f k l0_0 l0_1 l0_2 = some (r1, r2)) :
  Calls Try.prog 17 #[.agg #[.slice A0_0 l0_0.length c0_0, .slice A0_1 l0_1.length c0_1, .slice A0_2 l0_2.length c0_2]] w fun e w' => ∃ v0_ : Value, e = .returned (.tuple #[v0_, .int .i64 r2]) ∧ Kd.S (Kd.slice 2 (Kd.int .i64)) 47 w' w.heap.size (fun _ => True) v0_ r1 ∧ Below w.heap.size w w' := by
 have hu35 := Try.underlying35; have HR0_0 := am_ hr0_0; have HC0_0 := am_ hc0_0; clear hr0_0 hc0_0; have HR0_1 := am_ hr0_1; have HC0_1 := am_ hc0_1; clear hr0_1 hc0_1; have HR0_2 := am_ hr0_2; have HC0_2 := am_ hc0_2; clear hr0_2 hc0_2; have HB := am_ (Below.refl w.heap.size w); have H : ((impl_IsShow.f k l0_0 l0_1 l0_2).bind fun t785 => (if t785 = true then ((impl_windowsOf.f k l0_0 l0_1 l0_2).bind fun t786 => (some (t786, 0))) else (some (([] : List (List Int)), 1)))) = some (r1, r2) := h; clear h; obtain ⟨t785, A2, H⟩ := bE_ H; have HS_ := am_ H; clear H
 go_enter Try.func17, Try.ntmps17
 go_wp2_with (first | ((with_reducible refine gate_dst (N := 1) rfl ?_); refine boxZ 1 #[.slice A0_0 l0_0.length c0_0, .slice A0_1 l0_1.length c0_1, .slice A0_2 l0_2.length c0_2] 35 ?_; intro gb784 hg w5 hbox hb; replace BK784 := am_ (hbox); replace GW784 := am_ ((Ze : w.heap.size ≤ gb784)); replace GE784 := GW784; replace HB := (bsZ Zf hb); clear hb hbox hg; refine ci3 BK784 ?_; intros) | ((with_reducible refine gate_callee (f := 30) rfl ?_); refine gZ 5 Try.func30 #[.agg #[.slice A0_0 l0_0.length c0_0, .slice A0_1 l0_1.length c0_1, .slice A0_2 l0_2.length c0_2]] ?_; (with_reducible refine (impl_IsShow.calls k _ _ l0_0 _ _ l0_1 _ _ l0_2 t785 _ ?_ ?_ ?_ ?_ ?_ ?_ A2.out).mono ?_); exact (Zl HR0_0); exact HC0_0.out; exact (Zl HR0_1); exact HC0_1.out; exact (Zl HR0_2); exact HC0_2.out; rintro e w7 ⟨rfl, hb⟩; refine ⟨_, rfl, ?_⟩; replace BK784 := (bkZ BK784 hb); replace HB := (bsZ (Zh GE784) hb); clear hb; refine ?roundEnd))
 case roundEnd =>
  by_cases c3 : t785 = true
  ·have H := HS_.out
   clear HS_; subst c3; rw [if_pos rfl] at H; obtain ⟨t786, A4, H⟩ := bE_ H; simp only [Option.some.injEq, Prod.mk.injEq] at H; obtain ⟨rfl, rfl⟩ := H; refine ci3 BK784 ?_; intros
   go_wp2_with (first | ((with_reducible refine gate_callee (f := 32) rfl ?_); refine gZ 8 Try.func32 #[.agg #[.slice A0_0 l0_0.length c0_0, .slice A0_1 l0_1.length c0_1, .slice A0_2 l0_2.length c0_2]] ?_; (with_reducible refine (impl_windowsOf.calls k _ _ l0_0 _ _ l0_1 _ _ l0_2 t786 _ ?_ ?_ ?_ ?_ ?_ ?_ A4.out).mono ?_); exact (Zl HR0_0); exact HC0_0.out; exact (Zl HR0_1); exact HC0_1.out; exact (Zl HR0_2); exact HC0_2.out; rintro e w9 ⟨v787, rfl, ho0, hb⟩; refine ⟨_, rfl, ?_⟩; replace HO788 := am_ (Kd.S_lower ho0 (below_size (Zh GE784))); replace BK784 := (bkZ BK784 hb); replace HB := (bsZ (Zh GE784) hb); clear hb ho0))
   go_ret2
   exact ⟨_, Zg, (Zx HO788), (Zh GE784)⟩
  ·have H := HS_.out
   clear HS_; replace c3 := Bool.eq_false_iff.mpr c3; subst c3; rw [if_neg fnt_] at H; simp only [Option.some.injEq, Prod.mk.injEq] at H; obtain ⟨rfl, rfl⟩ := H
   go_wp2_with (first | fail)
   go_ret2
   exact ⟨_, Zg, Zar, (Zh GE784)⟩
def spec_WindowsOf.f (k : Nat) (l0_0 : List (S87)) (l0_1 : List (S91)) (l0_2 : List (S80)) : Option ((List (List Int)) × Int) := (spec_IsShow.f k l0_0 l0_1 l0_2).bind fun t790 => (if t790 = true then ((spec_l09All.f k l0_0 l0_1 l0_2).bind fun t791 => (some (t791, 0))) else (some (([] : List (List Int)), 1)))
theorem spec_WindowsOf.calls (k : Nat) (A0_0 : Option Addr) (c0_0 : Nat) (l0_0 : List (S87)) (A0_1 : Option Addr) (c0_1 : Nat) (l0_1 : List (S91)) (A0_2 : Option Addr) (c0_2 : Nat) (l0_2 : List (S80)) (r1 : List (List Int)) (r2 : Int) (w : World) (hr0_0 : Kd.C k87 w A0_0 l0_0.length l0_0) (hc0_0 : l0_0.length ≤ c0_0) (hr0_1 : Kd.C k91 w A0_1 l0_1.length l0_1) (hc0_1 : l0_1.length ≤ c0_1) (hr0_2 : Kd.C k80 w A0_2 l0_2.length l0_2) (hc0_2 : l0_2.length ≤ c0_2) (h : spec_WindowsOf.f k l0_0 l0_1 l0_2 = some (r1, r2)) :
  Calls Try.prog 18 #[.agg #[.slice A0_0 l0_0.length c0_0, .slice A0_1 l0_1.length c0_1, .slice A0_2 l0_2.length c0_2]] w fun e w' => ∃ v0_ : Value, e = .returned (.tuple #[v0_, .int .i64 r2]) ∧ Kd.N (Kd.slice 2 (Kd.int .i64)) 47 w' w.heap.size (fun k_ => (w.heap.size ≤ k_)) v0_ r1 ∧ Below w.heap.size w w' := by
 have hu35 := Try.underlying35; have HR0_0 := am_ hr0_0; have HC0_0 := am_ hc0_0; clear hr0_0 hc0_0; have HR0_1 := am_ hr0_1; have HC0_1 := am_ hc0_1; clear hr0_1 hc0_1; have HR0_2 := am_ hr0_2; have HC0_2 := am_ hc0_2; clear hr0_2 hc0_2; have HB := am_ (Below.refl w.heap.size w); have H : ((spec_IsShow.f k l0_0 l0_1 l0_2).bind fun t790 => (if t790 = true then ((spec_l09All.f k l0_0 l0_1 l0_2).bind fun t791 => (some (t791, 0))) else (some (([] : List (List Int)), 1)))) = some (r1, r2) := h; clear h; obtain ⟨t790, A2, H⟩ := bE_ H; have HS_ := am_ H; clear H
 go_enter Try.func18, Try.ntmps18
 go_wp2_with (first | ((with_reducible refine gate_dst (N := 1) rfl ?_); refine boxZ 1 #[.slice A0_0 l0_0.length c0_0, .slice A0_1 l0_1.length c0_1, .slice A0_2 l0_2.length c0_2] 35 ?_; intro gb789 hg w5 hbox hb; replace BK789 := am_ (hbox); replace GW789 := am_ ((Ze : w.heap.size ≤ gb789)); replace GE789 := GW789; replace HB := (bsZ Zf hb); clear hb hbox hg; refine ci3 BK789 ?_; intros) | ((with_reducible refine gate_callee (f := 23) rfl ?_); refine gZ 5 Try.func23 #[.agg #[.slice A0_0 l0_0.length c0_0, .slice A0_1 l0_1.length c0_1, .slice A0_2 l0_2.length c0_2]] ?_; (with_reducible refine (spec_IsShow.calls k _ _ l0_0 _ _ l0_1 _ _ l0_2 t790 _ ?_ ?_ ?_ ?_ ?_ ?_ A2.out).mono ?_); exact (Zl HR0_0); exact HC0_0.out; exact (Zl HR0_1); exact HC0_1.out; exact (Zl HR0_2); exact HC0_2.out; rintro e w7 ⟨rfl, hb⟩; refine ⟨_, rfl, ?_⟩; replace BK789 := (bkZ BK789 hb); replace HB := (bsZ (Zh GE789) hb); clear hb; refine ?roundEnd))
 case roundEnd =>
  by_cases c3 : t790 = true
  ·have H := HS_.out
   clear HS_; subst c3; rw [if_pos rfl] at H; obtain ⟨t791, A4, H⟩ := bE_ H; simp only [Option.some.injEq, Prod.mk.injEq] at H; obtain ⟨rfl, rfl⟩ := H; refine ci3 BK789 ?_; intros
   go_wp2_with (first | ((with_reducible refine gate_callee (f := 25) rfl ?_); refine gZ 8 Try.func25 #[.agg #[.slice A0_0 l0_0.length c0_0, .slice A0_1 l0_1.length c0_1, .slice A0_2 l0_2.length c0_2]] ?_; (with_reducible refine (spec_l09All.calls k _ _ l0_0 _ _ l0_1 _ _ l0_2 t791 _ ?_ ?_ ?_ ?_ ?_ ?_ A4.out).mono ?_); exact (Zl HR0_0); exact HC0_0.out; exact (Zl HR0_1); exact HC0_1.out; exact (Zl HR0_2); exact HC0_2.out; rintro e w9 ⟨v792, rfl, ho0, hb⟩; refine ⟨_, rfl, ?_⟩; replace HO793 := am_ (Kd.N_lower (Kd.N_mono (ok' := fun k_ => (w.heap.size ≤ k_) ∧ k_ ≠ gb789) ho0 (fun k_ hk_ => ⟨(Nat.le_trans (below_size (Zh GE789)) hk_), (Kd.freshB (g := gb789) (b0Z BK789) k_ hk_)⟩)) (below_size (Zh GE789))); replace BK789 := (bkZ BK789 hb); replace HB := (bsZ (Zh GE789) hb); clear hb ho0))
   go_ret2
   exact ⟨_, Zg, (Zab HO793), (Zh GE789)⟩
  ·have H := HS_.out
   clear HS_; replace c3 := Bool.eq_false_iff.mpr c3; subst c3; rw [if_neg fnt_] at H; simp only [Option.some.injEq, Prod.mk.injEq] at H; obtain ⟨rfl, rfl⟩ := H
   go_wp2_with (first | fail)
   go_ret2
   exact ⟨_, Zg, Zar, (Zh GE789)⟩
def laws_hasRow.l0 : Nat → List (List Int) → Int → Int → Int → Option (Bool)
 | 0, _, _, _, _ => none
 | k + 1, x0, x1, x2, x7 => if x7 < (x0.length : Int) then (if 0 ≤ x7 then (if ((rd_L5 x0 x7).length : Int) = 2 then (if 0 < ((rd_L5 x0 x7).length : Int) then (if (rd (rd_L5 x0 x7) 0) = x1 then (if 1 < ((rd_L5 x0 x7).length : Int) then (if (rd (rd_L5 x0 x7) 1) = x2 then (some true) else (laws_hasRow.l0 k x0 x1 x2 (wrap64 (x7 + 1)))) else (none)) else (laws_hasRow.l0 k x0 x1 x2 (wrap64 (x7 + 1)))) else (none)) else (laws_hasRow.l0 k x0 x1 x2 (wrap64 (x7 + 1)))) else (none)) else (some false)
def laws_hasRow.f (k : Nat) (l0 : List (List Int)) (a1 : Int) (a2 : Int) : Option (Bool) := laws_hasRow.l0 k l0 a1 a2 0
theorem laws_hasRow.calls (k : Nat) (A0 : Option Addr) (c0 : Nat) (l0 : List (List Int)) (a1 : Int) (a2 : Int) (r : Bool) (w : World) (hr0 : Kd.C (Kd.slice 2 (Kd.int .i64)) w A0 l0.length l0) (hc0 : l0.length ≤ c0) (h : laws_hasRow.f k l0 a1 a2 = some r) :
  Calls Try.prog 19 #[.slice A0 l0.length c0, .int .i64 a1, .int .i64 a2] w fun e w' => e = .returned (.bool r) ∧ Drawn0 w w' := by
 have HR0 := am_ hr0; have HC0 := am_ hc0; clear hr0 hc0; have H : (laws_hasRow.l0 k l0 a1 a2 0) = some r := h; clear h; have H' := am_ H; clear H
 go_enter Try.func19, Try.ntmps19
 go_wp2
 go_loopg [7] k (fun kq v7 w' => ∃ (x7_1 : Int), v7 = .int .i64 x7_1 ∧ Aside0 (laws_hasRow.l0 kq l0 a1 a2 x7_1 = some r) ∧ Aside0 (kq ≤ k) ∧ Drawn0 w w')
 case atStart => exact ⟨(0), Za, H', ⟨Nat.le_refl _⟩, Zb⟩
 case round =>
  clear H'
  try clear c1
  try clear p2
  obtain ⟨x7_1, rfl, HA, HK1, ⟨m1, rfl⟩⟩ := hrel
  cases gk with
  | zero => exact absurd HA.out (by simp [laws_hasRow.l0])
  | succ k1 =>
   have H := HA.out; clear HA; simp only [laws_hasRow.l0] at H
   by_cases c4 : x7_1 < (l0.length : Int)
   ·rw [if_pos c4] at H
    have c4b0 := decide_eq_true c4; clear c4
    by_cases c5 : 0 ≤ x7_1
    ·rw [if_pos c5] at H
     have c5b0 := decide_eq_true c5; clear c5
     by_cases c6 : ((rd_L5 l0 x7_1).length : Int) = 2
     ·rw [if_pos c6] at H
      have c6b0 := beq_iff_eq.mpr c6; have c6b1 := bne_eq_false_iff_eq.mpr c6; clear c6
      by_cases c7 : 0 < ((rd_L5 l0 x7_1).length : Int)
      ·rw [if_pos c7] at H
       have c7b0 := decide_eq_true c7; have c7b1 : decide (0 < (rd_L5 l0 x7_1).length) = true := decide_eq_true (by omega); clear c7
       by_cases c8 : (rd (rd_L5 l0 x7_1) 0) = a1
       ·rw [if_pos c8] at H
        have c8b0 := beq_iff_eq.mpr c8; have c8b1 := bne_eq_false_iff_eq.mpr c8; clear c8
        by_cases c9 : 1 < ((rd_L5 l0 x7_1).length : Int)
        ·rw [if_pos c9] at H
         have c9b0 := decide_eq_true c9; have c9b1 : decide (1 < (rd_L5 l0 x7_1).length) = true := decide_eq_true (by omega); clear c9
         by_cases c10 : (rd (rd_L5 l0 x7_1) 1) = a2
         ·rw [if_pos c10] at H
          have c10b0 := beq_iff_eq.mpr c10; have c10b1 := bne_eq_false_iff_eq.mpr c10; clear c10; obtain rfl := Option.some.inj H; have p794 : 0 ≤ (x7_1 : Int) := of_decide_eq_true Zc; have q794 : x7_1 < (l0.length : Int) := of_decide_eq_true Zc; obtain ⟨ad794, A794_0, c794_0, e794, hx794_0, hl794_0, hi794_0⟩ := at_L5 HR0.out x7_1 p794 q794
          cases e794
          have HR794_0 := am_ hi794_0; have HC794_0 := am_ hl794_0; clear hi794_0 hl794_0; replace p794 := eq_true p794; replace q794 := eq_true q794; have p795 : 0 ≤ (x7_1 : Int) := of_decide_eq_true Zc; have q795 : x7_1 < (l0.length : Int) := of_decide_eq_true Zc; obtain ⟨ad795, A795_0, c795_0, e795, hx795_0, hl795_0, hi795_0⟩ := at_L5 HR0.out x7_1 p795 q795; obtain rfl : ad794 = ad795 := (by injection e795); have HR795_0 := am_ hi795_0; have HC795_0 := am_ hl795_0; clear hi795_0 hl795_0; replace p795 := eq_true p795; replace q795 := eq_true q795; have ea_ := Option.some.inj (hx794_0.symm.trans hx795_0); injection ea_ with ea_ en_ ec_; subst ea_; subst ec_; clear en_; have p796 : 0 ≤ (0 : Int) := (by omega); have q796 : 0 < ((rd_L5 l0 x7_1).length : Int) := of_decide_eq_true Zc; obtain ⟨ad796, e796, hx796_0⟩ := Kd.at_int HR795_0.out 0 p796 q796
          cases e796
          have qi796 : (0 < (rd_L5 l0 x7_1).length) = True := eq_true (by omega)
          (try rw [show ((0 : Int)).toNat = 0 from rfl] at hx796_0)
          (try rw [Addr.add_zero'] at hx796_0)
          replace p796 := eq_true p796; replace q796 := eq_true q796; have p797 : 0 ≤ (x7_1 : Int) := of_decide_eq_true Zc; have q797 : x7_1 < (l0.length : Int) := of_decide_eq_true Zc; obtain ⟨ad797, A797_0, c797_0, e797, hx797_0, hl797_0, hi797_0⟩ := at_L5 HR0.out x7_1 p797 q797; obtain rfl : ad794 = ad797 := (by injection e797); have HR797_0 := am_ hi797_0; have HC797_0 := am_ hl797_0; clear hi797_0 hl797_0; replace p797 := eq_true p797; replace q797 := eq_true q797; have ea_ := Option.some.inj (hx794_0.symm.trans hx797_0); injection ea_ with ea_ en_ ec_; subst ea_; subst ec_; clear en_; have p798 : 0 ≤ (1 : Int) := (by omega); have q798 : 1 < ((rd_L5 l0 x7_1).length : Int) := of_decide_eq_true Zc; obtain ⟨ad798, e798, hx798_0⟩ := Kd.at_int HR797_0.out 1 p798 q798
          cases e798
          (try simp only [show (1 : Int).toNat = 1 from rfl, Nat.reduceMul, Nat.reduceEqDiff, Go.Addr.add, ↓reduceIte] at hx798_0)
          have qi798 : (1 < (rd_L5 l0 x7_1).length) = True := eq_true (by omega)
          (try rw [show ((1 : Int)).toNat = 1 from rfl] at hx798_0)
          replace p798 := eq_true p798; replace q798 := eq_true q798
          go_wp2
          go_ret
          exact ⟨Za, Zb⟩
         ·rw [if_neg c10] at H
          have c10b0 := beq_eq_false_iff_ne.mpr c10; have c10b1 := bne_iff_ne.mpr c10; have H' := am_ H; clear H; have p794 : 0 ≤ (x7_1 : Int) := of_decide_eq_true Zc; have q794 : x7_1 < (l0.length : Int) := of_decide_eq_true Zc; obtain ⟨ad794, A794_0, c794_0, e794, hx794_0, hl794_0, hi794_0⟩ := at_L5 HR0.out x7_1 p794 q794
          cases e794
          have HR794_0 := am_ hi794_0; have HC794_0 := am_ hl794_0; clear hi794_0 hl794_0; replace p794 := eq_true p794; replace q794 := eq_true q794; have p795 : 0 ≤ (x7_1 : Int) := of_decide_eq_true Zc; have q795 : x7_1 < (l0.length : Int) := of_decide_eq_true Zc; obtain ⟨ad795, A795_0, c795_0, e795, hx795_0, hl795_0, hi795_0⟩ := at_L5 HR0.out x7_1 p795 q795; obtain rfl : ad794 = ad795 := (by injection e795); have HR795_0 := am_ hi795_0; have HC795_0 := am_ hl795_0; clear hi795_0 hl795_0; replace p795 := eq_true p795; replace q795 := eq_true q795; have ea_ := Option.some.inj (hx794_0.symm.trans hx795_0); injection ea_ with ea_ en_ ec_; subst ea_; subst ec_; clear en_; have p796 : 0 ≤ (0 : Int) := (by omega); have q796 : 0 < ((rd_L5 l0 x7_1).length : Int) := of_decide_eq_true Zc; obtain ⟨ad796, e796, hx796_0⟩ := Kd.at_int HR795_0.out 0 p796 q796
          cases e796
          have qi796 : (0 < (rd_L5 l0 x7_1).length) = True := eq_true (by omega)
          (try rw [show ((0 : Int)).toNat = 0 from rfl] at hx796_0)
          (try rw [Addr.add_zero'] at hx796_0)
          replace p796 := eq_true p796; replace q796 := eq_true q796; have p797 : 0 ≤ (x7_1 : Int) := of_decide_eq_true Zc; have q797 : x7_1 < (l0.length : Int) := of_decide_eq_true Zc; obtain ⟨ad797, A797_0, c797_0, e797, hx797_0, hl797_0, hi797_0⟩ := at_L5 HR0.out x7_1 p797 q797; obtain rfl : ad794 = ad797 := (by injection e797); have HR797_0 := am_ hi797_0; have HC797_0 := am_ hl797_0; clear hi797_0 hl797_0; replace p797 := eq_true p797; replace q797 := eq_true q797; have ea_ := Option.some.inj (hx794_0.symm.trans hx797_0); injection ea_ with ea_ en_ ec_; subst ea_; subst ec_; clear en_; have p798 : 0 ≤ (1 : Int) := (by omega); have q798 : 1 < ((rd_L5 l0 x7_1).length : Int) := of_decide_eq_true Zc; obtain ⟨ad798, e798, hx798_0⟩ := Kd.at_int HR797_0.out 1 p798 q798
          cases e798
          (try simp only [show (1 : Int).toNat = 1 from rfl, Nat.reduceMul, Nat.reduceEqDiff, Go.Addr.add, ↓reduceIte] at hx798_0)
          have qi798 : (1 < (rd_L5 l0 x7_1).length) = True := eq_true (by omega)
          (try rw [show ((1 : Int)).toNat = 1 from rfl] at hx798_0)
          replace p798 := eq_true p798; replace q798 := eq_true q798
          go_wp2
          go_roundg k1
          case measure => have := HK1.out; omega
          case rel => exact ⟨(wrap64 (x7_1 + 1)), Za, H', ⟨Zd⟩, Zb⟩
        ·exact nN c9 H
       ·rw [if_neg c8] at H
        have c8b0 := beq_eq_false_iff_ne.mpr c8; have c8b1 := bne_iff_ne.mpr c8; have H' := am_ H; clear H; have p794 : 0 ≤ (x7_1 : Int) := of_decide_eq_true Zc; have q794 : x7_1 < (l0.length : Int) := of_decide_eq_true Zc; obtain ⟨ad794, A794_0, c794_0, e794, hx794_0, hl794_0, hi794_0⟩ := at_L5 HR0.out x7_1 p794 q794
        cases e794
        have HR794_0 := am_ hi794_0; have HC794_0 := am_ hl794_0; clear hi794_0 hl794_0; replace p794 := eq_true p794; replace q794 := eq_true q794; have p795 : 0 ≤ (x7_1 : Int) := of_decide_eq_true Zc; have q795 : x7_1 < (l0.length : Int) := of_decide_eq_true Zc; obtain ⟨ad795, A795_0, c795_0, e795, hx795_0, hl795_0, hi795_0⟩ := at_L5 HR0.out x7_1 p795 q795; obtain rfl : ad794 = ad795 := (by injection e795); have HR795_0 := am_ hi795_0; have HC795_0 := am_ hl795_0; clear hi795_0 hl795_0; replace p795 := eq_true p795; replace q795 := eq_true q795; have ea_ := Option.some.inj (hx794_0.symm.trans hx795_0); injection ea_ with ea_ en_ ec_; subst ea_; subst ec_; clear en_; have p796 : 0 ≤ (0 : Int) := (by omega); have q796 : 0 < ((rd_L5 l0 x7_1).length : Int) := of_decide_eq_true Zc; obtain ⟨ad796, e796, hx796_0⟩ := Kd.at_int HR795_0.out 0 p796 q796
        cases e796
        have qi796 : (0 < (rd_L5 l0 x7_1).length) = True := eq_true (by omega)
        (try rw [show ((0 : Int)).toNat = 0 from rfl] at hx796_0)
        (try rw [Addr.add_zero'] at hx796_0)
        replace p796 := eq_true p796; replace q796 := eq_true q796
        go_wp2
        go_roundg k1
        case measure => have := HK1.out; omega
        case rel => exact ⟨(wrap64 (x7_1 + 1)), Za, H', ⟨Zd⟩, Zb⟩
      ·exact nN c7 H
     ·rw [if_neg c6] at H
      have c6b0 := beq_eq_false_iff_ne.mpr c6; have c6b1 := bne_iff_ne.mpr c6; have H' := am_ H; clear H; have p794 : 0 ≤ (x7_1 : Int) := of_decide_eq_true Zc; have q794 : x7_1 < (l0.length : Int) := of_decide_eq_true Zc; obtain ⟨ad794, A794_0, c794_0, e794, hx794_0, hl794_0, hi794_0⟩ := at_L5 HR0.out x7_1 p794 q794
      cases e794
      have HR794_0 := am_ hi794_0; have HC794_0 := am_ hl794_0; clear hi794_0 hl794_0; replace p794 := eq_true p794; replace q794 := eq_true q794
      go_wp2
      go_roundg k1
      case measure => have := HK1.out; omega
      case rel => exact ⟨(wrap64 (x7_1 + 1)), Za, H', ⟨Zd⟩, Zb⟩
    ·exact nN c5 H
   ·rw [if_neg c4] at H
    have c4b0 := decide_eq_false c4; clear c4; obtain rfl := Option.some.inj H
    go_wp2
    go_ret
    exact ⟨Za, Zb⟩
mutual
def laws_FnDark.j0 : Nat → Int → List (List Int) → Int → Bool → List (S87) → List (S91) → List (S80) → Option (Bool)
 | 0, _, _, _, _, _, _, _ => none
 | k + 1, x4, x5, x6, x44, x811000, x811001, x811002 => if x44 = true then (some false) else (if x6 = 0 then ((impl_WindowsOf.f k x811000 x811001 x811002).bind fun bt820 => ((spec_WindowsOf.f k x811000 x811001 x811002).bind fun bt824 => (if bt820.2 = bt824.2 then ((laws_likeRows.f k bt820.1 bt824.1).bind fun t828 => (laws_FnDark.j1 k x4 x5 bt820.1 bt820.2 (!t828) x811000 x811001 x811002)) else (laws_FnDark.j1 k x4 x5 bt820.1 bt820.2 true x811000 x811001 x811002)))) else (some true))
def laws_FnDark.j1 : Nat → Int → List (List Int) → List (List Int) → Int → Bool → List (S87) → List (S91) → List (S80) → Option (Bool)
 | 0, _, _, _, _, _, _, _, _ => none
 | k + 1, x4, x5, x9, x10, x65, x811000, x811001, x811002 => if x65 = true then (some false) else ((impl_DarkGaps.f k x811000 x811001 x811002 1).bind fun bt829 => (if x10 = 0 then (if bt829.2 = 0 then (laws_FnDark.j2 k x4 x5 x9 bt829.1 (decide ((bt829.1.length : Int) < (x5.length : Int)))) else (laws_FnDark.j2 k x4 x5 x9 bt829.1 true)) else (laws_FnDark.j2 k x4 x5 x9 bt829.1 true)))
def laws_FnDark.j2 : Nat → Int → List (List Int) → List (List Int) → List (List Int) → Bool → Option (Bool)
 | 0, _, _, _, _, _ => none
 | k + 1, x4, x5, x9, x13, x83 => if x83 = true then (some false) else (laws_FnDark.l0 k x4 x5 x9 x13 0)
def laws_FnDark.l0 : Nat → Int → List (List Int) → List (List Int) → List (List Int) → Int → Option (Bool)
 | 0, _, _, _, _, _ => none
 | k + 1, x4, x5, x9, x13, x15 => if x15 < (x5.length : Int) then (if 0 ≤ x15 then (if 1 < ((rd_L5 x5 x15).length : Int) then (if 0 < ((rd_L5 x5 x15).length : Int) then (if (wrap64 ((wrap64 ((rd (rd_L5 x5 x15) 1) - (rd (rd_L5 x5 x15) 0))) + 1)) < x4 then (laws_FnDark.j4 k x4 x5 x9 x13 x15 true) else ((laws_hasRow.f k x13 (rd (rd_L5 x5 x15) 0) (rd (rd_L5 x5 x15) 1)).bind fun t841 => (laws_FnDark.j4 k x4 x5 x9 x13 x15 (!t841)))) else (none)) else (none)) else (none)) else (some true)
def laws_FnDark.j4 : Nat → Int → List (List Int) → List (List Int) → List (List Int) → Int → Bool → Option (Bool)
 | 0, _, _, _, _, _, _ => none
 | k + 1, x4, x5, x9, x13, x15, x122 => if x122 = true then (some false) else (laws_FnDark.l1 k x4 x5 x9 x13 x15 0)
def laws_FnDark.l1 : Nat → Int → List (List Int) → List (List Int) → List (List Int) → Int → Int → Option (Bool)
 | 0, _, _, _, _, _, _ => none
 | k + 1, x4, x5, x9, x13, x15, x16 => if x16 < (x9.length : Int) then (if 0 ≤ x16 then (if 0 < ((rd_L5 x9 x16).length : Int) then (if 0 ≤ x15 then (if x15 < (x5.length : Int) then (if 1 < ((rd_L5 x5 x15).length : Int) then (if (rd (rd_L5 x9 x16) 0) ≤ (rd (rd_L5 x5 x15) 1) then (if 0 < ((rd_L5 x5 x15).length : Int) then (if 1 < ((rd_L5 x9 x16).length : Int) then (if (rd (rd_L5 x5 x15) 0) ≤ (rd (rd_L5 x9 x16) 1) then (some false) else (laws_FnDark.l1 k x4 x5 x9 x13 x15 (wrap64 (x16 + 1)))) else (none)) else (none)) else (laws_FnDark.l1 k x4 x5 x9 x13 x15 (wrap64 (x16 + 1)))) else (none)) else (none)) else (none)) else (none)) else (none)) else (laws_FnDark.l0 k x4 x5 x9 x13 (wrap64 (x15 + 1)))
end
def laws_FnDark.f (k : Nat) (l0 : List Int) : Option (Bool) := (laws_big.f l0).bind fun t799 => (if t799 = true then (some true) else ((spec_DrawDarkGaps.f k l0).bind fun bt800 => ((impl_DarkGaps.f k bt800.1 bt800.2.1 bt800.2.2.1 bt800.2.2.2).bind fun bt811 => ((spec_DarkGaps.f k bt800.1 bt800.2.1 bt800.2.2.1 bt800.2.2.2).bind fun bt815 => (if bt811.2 = bt815.2 then ((laws_likeRows.f k bt811.1 bt815.1).bind fun t819 => (laws_FnDark.j0 k bt800.2.2.2 bt811.1 bt811.2 (!t819) bt800.1 bt800.2.1 bt800.2.2.1)) else (laws_FnDark.j0 k bt800.2.2.2 bt811.1 bt811.2 true bt800.1 bt800.2.1 bt800.2.2.1))))))
def laws_FnDark.T20 : Bool × List (List Nat × List Nat) := (true, [([], []), ([], []), ([0, 1], [0, 1]), ([2], [2]), ([3], [3]), ([4], [4]), ([], []), ([], []), ([6, 7], [6, 7]), ([8], [8]), ([9], [9]), ([10], [10]), ([5, 11], [5, 11]), ([12], [12]), ([], []), ([13, 14], [13, 14]), ([15], [15]), ([16], [16]), ([16], [16]), ([16], [16]), ([18, 19, 16], [16, 18, 19]), ([20, 16], [16, 20]), ([21, 16], [16, 21]), ([22, 16], [16, 22]), ([16], [16]), ([16], [16]), ([24, 25, 16], [16, 24, 25]), ([26, 16], [16, 26]), ([27, 16], [16, 27]), ([28, 16], [16, 28]), ([17, 23, 29, 16, 16], [16, 17, 23, 29]), ([30, 16], [16, 30]), ([16, 31], [16, 31])])
def laws_FnDark.B20 : List Nat := [0, 0, 3, 7, 15, 31, 0, 0, 192, 448, 960, 1984, 4095, 8191, 0, 32767, 65535, 131071, 131071, 131071, 917503, 1966079, 4063231, 8257535, 131071, 131071, 50462719, 117571583, 251789311, 520224767, 1073741823, 2147483647, 4294967295]
theorem laws_FnDark.tab20 : rtab .any (opsOf Try.f4 20) = laws_FnDark.T20 := by kernel_rfl
theorem laws_FnDark.bits20 : waitsOk laws_FnDark.T20.2 laws_FnDark.B20 = true := by kernel_rfl
def laws_FnDark.T25 : Bool × List (List Nat × List Nat) := (true, [([], []), ([], []), ([0, 1], [0, 1]), ([2], [2]), ([3], [3]), ([4], [4]), ([], []), ([], []), ([6, 7], [6, 7]), ([8], [8]), ([9], [9]), ([10], [10]), ([5, 11], [5, 11]), ([12], [12]), ([13], [13]), ([13], [13]), ([14, 15, 13], [13, 14, 15]), ([16, 13], [13, 16]), ([17, 13], [13, 17]), ([18, 13], [13, 18]), ([13], [13]), ([13], [13]), ([20, 21, 13], [13, 20, 21]), ([22, 13], [13, 22]), ([23, 13], [13, 23]), ([24, 13], [13, 24]), ([19, 25, 13], [13, 19, 25]), ([13, 26], [13, 26])])
def laws_FnDark.B25 : List Nat := [0, 0, 3, 7, 15, 31, 0, 0, 192, 448, 960, 1984, 4095, 8191, 16383, 16383, 65535, 131071, 262143, 524287, 16383, 16383, 3162111, 7356415, 15745023, 32522239, 67108863, 134217727]
theorem laws_FnDark.tab25 : rtab .any (opsOf Try.f4 25) = laws_FnDark.T25 := by kernel_rfl
theorem laws_FnDark.bits25 : waitsOk laws_FnDark.T25.2 laws_FnDark.B25 = true := by kernel_rfl
theorem laws_FnDark.j0_true (k : Nat) (x4 : Int) (x5 : List (List Int)) (x6 : Int) (x811000 : List (S87)) (x811001 : List (S91)) (x811002 : List (S80)) : ¬ laws_FnDark.j0 k x4 x5 x6 true x811000 x811001 x811002 = some true := by
 cases k with
 | zero => simp [laws_FnDark.j0]
 | succ k => simp [laws_FnDark.j0]
theorem laws_FnDark.j1_true (k : Nat) (x4 : Int) (x5 : List (List Int)) (x9 : List (List Int)) (x10 : Int) (x811000 : List (S87)) (x811001 : List (S91)) (x811002 : List (S80)) : ¬ laws_FnDark.j1 k x4 x5 x9 x10 true x811000 x811001 x811002 = some true := by
 cases k with
 | zero => simp [laws_FnDark.j1]
 | succ k => simp [laws_FnDark.j1]
theorem laws_FnDark.j2_true (k : Nat) (x4 : Int) (x5 : List (List Int)) (x9 : List (List Int)) (x13 : List (List Int)) : ¬ laws_FnDark.j2 k x4 x5 x9 x13 true = some true := by
 cases k with
 | zero => simp [laws_FnDark.j2]
 | succ k => simp [laws_FnDark.j2]
theorem laws_FnDark.calls (k : Nat) (A0 : Option Addr) (c0 : Nat) (l0 : List Int) (r : Bool) (w : World) (hr0 : Kd.C (Kd.int .u8) w A0 l0.length l0) (hc0 : l0.length ≤ c0) (h : laws_FnDark.f k l0 = some r) (hr_ : r = true) :
  Calls Try.prog 4 #[.slice A0 l0.length c0] w fun e w' => e = .returned (.bool r) ∧ Below w.heap.size w w' := by
 have HR_ := am_ hr_; clear hr_; have hu35 := Try.underlying35; have HR0 := am_ hr0; have HC0 := am_ hc0; clear hr0 hc0; have HB := am_ (Below.refl w.heap.size w); have H : ((laws_big.f l0).bind fun t799 => (if t799 = true then (some true) else ((spec_DrawDarkGaps.f k l0).bind fun bt800 => ((impl_DarkGaps.f k bt800.1 bt800.2.1 bt800.2.2.1 bt800.2.2.2).bind fun bt811 => ((spec_DarkGaps.f k bt800.1 bt800.2.1 bt800.2.2.1 bt800.2.2.2).bind fun bt815 => (if bt811.2 = bt815.2 then ((laws_likeRows.f k bt811.1 bt815.1).bind fun t819 => (laws_FnDark.j0 k bt800.2.2.2 bt811.1 bt811.2 (!t819) bt800.1 bt800.2.1 bt800.2.2.1)) else (laws_FnDark.j0 k bt800.2.2.2 bt811.1 bt811.2 true bt800.1 bt800.2.1 bt800.2.2.1))))))) = some r := h; clear h; obtain ⟨t799, A2, H⟩ := bE_ H
 by_cases c3 : t799 = true
 ·subst c3
  rw [if_pos rfl] at H; obtain rfl := Option.some.inj H
  go_enter Try.func4, Try.ntmps4
  go_wp2_with (first | ((with_reducible refine gate_callee (f := 14) rfl ?_); refine gZ 18 Try.func14 #[.slice A0 l0.length c0] ?_; (with_reducible refine (laws_big.calls _ _ l0 true _ ?_ ?_ A2.out).mono ?_); exact (Zdl HR0); exact HC0.out; rintro e w' ⟨rfl, ⟨nd, rfl⟩⟩; refine ⟨_, rfl, ?_⟩))
  go_ret
  exact ⟨Zg, Zf⟩
 ·replace c3 := Bool.eq_false_iff.mpr c3
  subst c3; rw [if_neg fnt_] at H; obtain ⟨⟨t800, t803, t806, t809⟩, A4, H⟩ := bE_ H
  dsimp only at H
  obtain ⟨⟨t811, t814⟩, A5, H⟩ := bE_ H
  dsimp only at H
  obtain ⟨⟨t815, t818⟩, A6, H⟩ := bE_ H
  dsimp only at H
  have HC7 := am_ H; clear H
  go_enter Try.func4, Try.ntmps4
  go_upto_region 6 with (first | ((with_reducible refine gate_callee (f := 14) rfl ?_); refine gZ 18 Try.func14 #[.slice A0 l0.length c0] ?_; (with_reducible refine (laws_big.calls _ _ l0 false _ ?_ ?_ A2.out).mono ?_); exact (Zdl HR0); exact HC0.out; rintro e w' ⟨rfl, ⟨nd, rfl⟩⟩; refine ⟨_, rfl, ?_⟩) | ((with_reducible refine gate_callee (f := 15) rfl ?_); refine gZ 21 Try.func15 #[.slice A0 l0.length c0] ?_; (with_reducible refine (spec_DrawDarkGaps.calls k _ _ l0 t800 t803 t806 t809 _ ?_ ?_ A4.out).mono ?_); exact (Zdl HR0); exact HC0.out; rintro e w8 ⟨v801, v804, v807, rfl, ho0, ho1, ho2, hb⟩; refine ⟨_, rfl, ?_⟩; replace HO802 := am_ (Kd.R_lower ho0 (below_size Zf)); replace HO805 := am_ (Kd.R_lower ho1 (below_size Zf)); replace HO808 := am_ (Kd.R_lower ho2 (below_size Zf)); replace HB := (bsZ Zf hb); clear hb ho0 ho1 ho2) | ((with_reducible refine gate_dst (N := 3) rfl ?_); (try (refine gate_guard (by rfl) ?_; dsimp only)); refine boxZ 3 #[.slice none 0 0, .slice none 0 0, .slice none 0 0] 35 ?_; intro gb810 hg w9 hbox hb; replace HO802 := (hbZ HO802 hb); replace HO805 := (hbZ HO805 hb); replace HO808 := (hbZ HO808 hb); replace BK810 := am_ (hbox); replace GW810 := am_ ((Ze : w.heap.size ≤ gb810)); replace GE810 := GW810; replace HB := (bsZ Zf hb); clear hb hbox hg; obtain ⟨Ao10, co10, eo10⟩ := Kd.R_slice HO802.out; subst eo10; refine ci3 BK810 ?_; intros; obtain ⟨Ao12, co12, eo12⟩ := Kd.R_slice HO805.out; subst eo12; obtain ⟨Ao13, co13, eo13⟩ := Kd.R_slice HO808.out; subst eo13) | ((with_reducible refine gate_callee (f := 8) rfl ?_); refine gZ 27 Try.func8 #[.agg #[.slice Ao10 t800.length co10, .slice Ao12 t803.length co12, .slice Ao13 t806.length co13], .int .i64 t809] ?_; (with_reducible refine (impl_DarkGaps.calls k _ _ t800 _ _ t803 _ _ t806 t809 t811 t814 _ ?_ ?_ ?_ ?_ ?_ ?_ A5.out).mono ?_); refine (Kd.R_reads' (e := 87) (base := w.heap.size) (ok := fun k_ => True) (n := t800.length) (c := co10) ?_).2.2; exact (Zbr HO802 BK810); exact (Kd.R_reads' HO802.out).2.1; refine (Kd.R_reads' (e := 91) (base := w.heap.size) (ok := fun k_ => True) (n := t803.length) (c := co12) ?_).2.2; exact (Zbr HO805 BK810); exact (Kd.R_reads' HO805.out).2.1; refine (Kd.R_reads' (e := 80) (base := w.heap.size) (ok := fun k_ => True) (n := t806.length) (c := co13) ?_).2.2; exact (Zbr HO808 BK810); exact (Kd.R_reads' HO808.out).2.1; rintro e w14 ⟨v812, rfl, ho0, hb⟩; refine ⟨_, rfl, ?_⟩; replace HO813 := am_ (Kd.N_lower (Kd.N_mono (ok' := fun k_ => some k_ ≠ (.slice Ao10 t800.length co10 : Value).ownBlock ∧ some k_ ≠ (.slice Ao12 t803.length co12 : Value).ownBlock ∧ some k_ ≠ (.slice Ao13 t806.length co13 : Value).ownBlock ∧ k_ ≠ gb810) (Kd.S_N (Kd.S_bound ho0)) (fun k_ hk_ => ⟨(Kd.fresh' (Kd.R_lt (Zbr HO802 BK810)) k_ hk_.2.1), (Kd.fresh' (Kd.R_lt (Zbr HO805 BK810)) k_ hk_.2.1), (Kd.fresh' (Kd.R_lt (Zbr HO808 BK810)) k_ hk_.2.1), (Kd.freshB (g := gb810) (o := .cells #[.slice Ao10 t800.length co10, .slice Ao12 t803.length co12, .slice Ao13 t806.length co13] 35 (0, 0)) (bpZ BK810) k_ hk_.2.1)⟩)) (below_size (Zh GE810))); replace HO802 := am_ (Kd.R_below (Zbr HO802 BK810) hb); replace HO805 := am_ (Kd.R_below (Zbr HO805 BK810) hb); replace HO808 := am_ (Kd.R_below (Zbr HO808 BK810) hb); replace BK810 := am_ (blk_below (g := gb810) (o := .cells #[.slice Ao10 t800.length co10, .slice Ao12 t803.length co12, .slice Ao13 t806.length co13] 35 (0, 0)) (bpZ BK810) hb); replace HB := (bsZ (Zh GE810) hb); clear hb ho0; refine ci3 BK810 ?_; intros) | ((with_reducible refine gate_callee (f := 6) rfl ?_); refine gZ 33 Try.func6 #[.agg #[.slice Ao10 t800.length co10, .slice Ao12 t803.length co12, .slice Ao13 t806.length co13], .int .i64 t809] ?_; (with_reducible refine (spec_DarkGaps.calls k _ _ t800 _ _ t803 _ _ t806 t809 t815 t818 _ ?_ ?_ ?_ ?_ ?_ ?_ A6.out).mono ?_); exact (Zak HO802); exact (Kd.R_reads' HO802.out).2.1; exact (Zak HO805); exact (Kd.R_reads' HO805.out).2.1; exact (Zak HO808); exact (Kd.R_reads' HO808.out).2.1; rintro e w16 ⟨v816, rfl, ho0, hb⟩; refine ⟨_, rfl, ?_⟩; replace HO817 := am_ (Kd.N_lower (Kd.N_mono (ok' := fun k_ => some k_ ≠ (.slice Ao10 t800.length co10 : Value).ownBlock ∧ some k_ ≠ (.slice Ao12 t803.length co12 : Value).ownBlock ∧ some k_ ≠ (.slice Ao13 t806.length co13 : Value).ownBlock ∧ some k_ ≠ (v812 : Value).ownBlock ∧ k_ ≠ gb810) ho0 (fun k_ hk_ => ⟨(Kd.fresh' (Kd.R_lt (Zr HO802)) k_ hk_), (Kd.fresh' (Kd.R_lt (Zr HO805)) k_ hk_), (Kd.fresh' (Kd.R_lt (Zr HO808)) k_ hk_), (Kd.fresh' (Kd.N_lt (Zaa HO813)) k_ hk_), (Kd.freshB (g := gb810) (b0Z BK810) k_ hk_)⟩)) (below_size (Zh GE810))); replace HO802 := (hbZ HO802 hb); replace HO805 := (hbZ HO805 hb); replace HO808 := (hbZ HO808 hb); replace HO813 := am_ (Kd.N_elder' (Zaa HO813) (Kd.N_base ho0) hb); replace BK810 := (bkZ BK810 hb); replace HB := (bsZ (Zh GE810) hb); clear hb ho0))
  (try simp only [Act.put, List.setIfInBounds_toArray, List.set_cons_zero, List.set_cons_succ])
  go_cut [44] (fun v44 wc => ∃ (kq : Nat) (x44_6 : Bool), v44 = .bool x44_6 ∧ Aside0 (laws_FnDark.j0 kq t809 t811 t814 x44_6 t800 t803 t806 = some r) ∧ Aside0 (kq ≤ k) ∧ Aside0 (Kd.N (Kd.slice 2 (Kd.int .i64)) 47 wc w.heap.size (fun k_ => some k_ ≠ ((.slice Ao10 t800.length co10) : Value).ownBlock ∧ some k_ ≠ ((.slice Ao12 t803.length co12) : Value).ownBlock ∧ some k_ ≠ ((.slice Ao13 t806.length co13) : Value).ownBlock ∧ k_ ≠ gb810) v812 t811) ∧ Aside0 (Kd.R k87 87 wc w.heap.size (fun _ => True) (.slice Ao10 t800.length co10) t800) ∧ Aside0 (Kd.R k91 91 wc w.heap.size (fun _ => True) (.slice Ao12 t803.length co12) t803) ∧ Aside0 (Kd.R k80 80 wc w.heap.size (fun _ => True) (.slice Ao13 t806.length co13) t806) ∧ Aside0 (wc.heap[gb810]? = some (.cells #[(.slice Ao10 t800.length co10), (.slice Ao12 t803.length co12), (.slice Ao13 t806.length co13)] 35 (0, 0))) ∧ Aside0 (Below w.heap.size w wc))
  case first => as_aux_lemma =>
   have H := HC7.out; clear HC7
   by_cases c17 : t814 = t818
   ·rw [if_pos c17] at H
    have c17b0 := beq_iff_eq.mpr c17; have c17b1 := bne_eq_false_iff_eq.mpr c17; clear c17
    (first | rw [c17b0] | (simp only [i64_w, i32_w]; rw [c17b0]) | skip)
    obtain ⟨t819, A18, H⟩ := bE_ H; have H' := am_ H; clear H; obtain ⟨Ao19, co19, eo19⟩ := Kd.N_slice HO813.out; subst eo19; obtain ⟨Ao20, co20, eo20⟩ := Kd.N_slice HO817.out; subst eo20
    go_wp2_with (first | (go_at_call 16; (with_reducible refine (laws_likeRows.calls k _ _ t811 _ _ t815 t819 _ ?_ ?_ ?_ ?_ A18.out).mono ?_); exact (Zdm HO813); exact (Kd.N_reads' HO813.out).2.1; exact (Zdm HO817); exact (Kd.N_reads' HO817.out).2.1; rintro e w' ⟨rfl, ⟨nd, rfl⟩⟩))
    go_meet
    case rel => exact ⟨_, (!t819), Za, H', ⟨Zp⟩, ⟨(Zan HO813)⟩, ⟨(Zr HO802)⟩, ⟨(Zr HO805)⟩, ⟨(Zr HO808)⟩, ⟨(Zq BK810)⟩, ⟨(Zh GE810)⟩⟩
   ·rw [if_neg c17] at H
    have c17b0 := beq_eq_false_iff_ne.mpr c17; have c17b1 := bne_iff_ne.mpr c17
    (first | rw [c17b0] | (simp only [i64_w, i32_w]; rw [c17b0]) | skip)
    exact absurd (H.trans (congrArg some HR_.out)) (laws_FnDark.j0_true _ _ _ _ _ _ _)
  case rest => as_aux_lemma =>
   clear HC7
   try clear c1
   try clear p2
   try clear c3
   try clear c4
   try clear c6
   try clear c8
   try clear c14
   try clear c15
   try clear c17
   try clear c17b0
   try clear c17b1
   obtain ⟨kq, x44_6, rfl, HA, HJ6, HO_5, HO_811000, HO_811001, HO_811002, BK810, HB⟩ := hcut
   cases kq with
   | zero => exact absurd HA.out (by simp [laws_FnDark.j0])
   | succ kj6 =>
    have H := HA.out; clear HA; simp only [laws_FnDark.j0] at H
    by_cases c21 : x44_6 = true
    ·subst c21
     rw [if_pos rfl] at H; exact absurd ((Option.some.inj H).trans HR_.out) (by decide)
    ·replace c21 := Bool.eq_false_iff.mpr c21
     subst c21; rw [if_neg fnt_] at H
     by_cases c22 : t814 = 0
     ·rw [if_pos c22] at H
      have c22b0 := beq_iff_eq.mpr c22; have c22b1 := bne_eq_false_iff_eq.mpr c22; clear c22; obtain ⟨⟨t820, t823⟩, A23, H⟩ := bE_ H
      dsimp only at H
      obtain ⟨⟨t824, t827⟩, A24, H⟩ := bE_ H
      dsimp only at H
      have HC25 := am_ H; clear H; refine ci3 BK810 ?_; intros
      go_upto_region 12 with (first | ((with_reducible refine gate_callee (f := 17) rfl ?_); refine gZ 49 Try.func17 #[.agg #[.slice Ao10 t800.length co10, .slice Ao12 t803.length co12, .slice Ao13 t806.length co13]] ?_; (with_reducible refine (impl_WindowsOf.calls kj6 _ _ t800 _ _ t803 _ _ t806 t820 t823 _ ?_ ?_ ?_ ?_ ?_ ?_ A23.out).mono ?_); exact (Zak HO_811000); exact (Kd.R_reads' HO_811000.out).2.1; exact (Zak HO_811001); exact (Kd.R_reads' HO_811001.out).2.1; exact (Zak HO_811002); exact (Kd.R_reads' HO_811002.out).2.1; rintro e w27 ⟨v821, rfl, ho0, hb⟩; refine ⟨_, rfl, ?_⟩; replace HO822 := am_ (Kd.N_lower (Kd.N_mono (ok' := fun k_ => some k_ ≠ (v812 : Value).ownBlock ∧ some k_ ≠ (.slice Ao10 t800.length co10 : Value).ownBlock ∧ some k_ ≠ (.slice Ao12 t803.length co12 : Value).ownBlock ∧ some k_ ≠ (.slice Ao13 t806.length co13 : Value).ownBlock ∧ k_ ≠ gb810) (Kd.S_N (Kd.S_bound ho0)) (fun k_ hk_ => ⟨(Kd.fresh' (Kd.N_lt (Zaa HO_5)) k_ hk_.2.1), (Kd.fresh' (Kd.R_lt (Zr HO_811000)) k_ hk_.2.1), (Kd.fresh' (Kd.R_lt (Zr HO_811001)) k_ hk_.2.1), (Kd.fresh' (Kd.R_lt (Zr HO_811002)) k_ hk_.2.1), (Kd.freshB (g := gb810) (b0Z BK810) k_ hk_.2.1)⟩)) (below_size (Zh GE810))); replace HO_5 := am_ (Kd.N_elder' (Zaa HO_5) (Kd.S_base ho0) hb); replace HO_811000 := (hbZ HO_811000 hb); replace HO_811001 := (hbZ HO_811001 hb); replace HO_811002 := (hbZ HO_811002 hb); replace BK810 := (bkZ BK810 hb); replace HB := (bsZ (Zh GE810) hb); clear hb ho0; refine ci3 BK810 ?_; intros) | ((with_reducible refine gate_callee (f := 18) rfl ?_); refine gZ 54 Try.func18 #[.agg #[.slice Ao10 t800.length co10, .slice Ao12 t803.length co12, .slice Ao13 t806.length co13]] ?_; (with_reducible refine (spec_WindowsOf.calls kj6 _ _ t800 _ _ t803 _ _ t806 t824 t827 _ ?_ ?_ ?_ ?_ ?_ ?_ A24.out).mono ?_); exact (Zak HO_811000); exact (Kd.R_reads' HO_811000.out).2.1; exact (Zak HO_811001); exact (Kd.R_reads' HO_811001.out).2.1; exact (Zak HO_811002); exact (Kd.R_reads' HO_811002.out).2.1; rintro e w29 ⟨v825, rfl, ho0, hb⟩; refine ⟨_, rfl, ?_⟩; replace HO826 := am_ (Kd.N_lower (Kd.N_mono (ok' := fun k_ => some k_ ≠ (v812 : Value).ownBlock ∧ some k_ ≠ (.slice Ao10 t800.length co10 : Value).ownBlock ∧ some k_ ≠ (.slice Ao12 t803.length co12 : Value).ownBlock ∧ some k_ ≠ (.slice Ao13 t806.length co13 : Value).ownBlock ∧ some k_ ≠ (v821 : Value).ownBlock ∧ k_ ≠ gb810) ho0 (fun k_ hk_ => ⟨(Kd.fresh' (Kd.N_lt (Zaa HO_5)) k_ hk_), (Kd.fresh' (Kd.R_lt (Zr HO_811000)) k_ hk_), (Kd.fresh' (Kd.R_lt (Zr HO_811001)) k_ hk_), (Kd.fresh' (Kd.R_lt (Zr HO_811002)) k_ hk_), (Kd.fresh' (Kd.N_lt (Zaa HO822)) k_ hk_), (Kd.freshB (g := gb810) (b0Z BK810) k_ hk_)⟩)) (below_size (Zh GE810))); replace HO_5 := am_ (Kd.N_elder' (Zaa HO_5) (Kd.N_base ho0) hb); replace HO_811000 := (hbZ HO_811000 hb); replace HO_811001 := (hbZ HO_811001 hb); replace HO_811002 := (hbZ HO_811002 hb); replace HO822 := am_ (Kd.N_elder' (Zaa HO822) (Kd.N_base ho0) hb); replace BK810 := (bkZ BK810 hb); replace HB := (bsZ (Zh GE810) hb); clear hb ho0))
      (try simp only [Act.put, List.setIfInBounds_toArray, List.set_cons_zero, List.set_cons_succ])
      go_cut [65] (fun v65 wc => ∃ (kq : Nat) (x65_24 : Bool), v65 = .bool x65_24 ∧ Aside0 (laws_FnDark.j1 kq t809 t811 t820 t823 x65_24 t800 t803 t806 = some r) ∧ Aside0 (kq ≤ kj6) ∧ Aside0 (Kd.N (Kd.slice 2 (Kd.int .i64)) 47 wc w.heap.size (fun k_ => some k_ ≠ (v821 : Value).ownBlock ∧ some k_ ≠ ((.slice Ao10 t800.length co10) : Value).ownBlock ∧ some k_ ≠ ((.slice Ao12 t803.length co12) : Value).ownBlock ∧ some k_ ≠ ((.slice Ao13 t806.length co13) : Value).ownBlock ∧ k_ ≠ gb810) v812 t811) ∧ Aside0 (Kd.N (Kd.slice 2 (Kd.int .i64)) 47 wc w.heap.size (fun k_ => some k_ ≠ (v812 : Value).ownBlock ∧ some k_ ≠ ((.slice Ao10 t800.length co10) : Value).ownBlock ∧ some k_ ≠ ((.slice Ao12 t803.length co12) : Value).ownBlock ∧ some k_ ≠ ((.slice Ao13 t806.length co13) : Value).ownBlock ∧ k_ ≠ gb810) v821 t820) ∧ Aside0 (Kd.R k87 87 wc w.heap.size (fun _ => True) (.slice Ao10 t800.length co10) t800) ∧ Aside0 (Kd.R k91 91 wc w.heap.size (fun _ => True) (.slice Ao12 t803.length co12) t803) ∧ Aside0 (Kd.R k80 80 wc w.heap.size (fun _ => True) (.slice Ao13 t806.length co13) t806) ∧ Aside0 (wc.heap[gb810]? = some (.cells #[(.slice Ao10 t800.length co10), (.slice Ao12 t803.length co12), (.slice Ao13 t806.length co13)] 35 (0, 0))) ∧ Aside0 (Below w.heap.size w wc))
      case first => as_aux_lemma =>
       have H := HC25.out; clear HC25
       by_cases c30 : t823 = t827
       ·rw [if_pos c30] at H
        have c30b0 := beq_iff_eq.mpr c30; have c30b1 := bne_eq_false_iff_eq.mpr c30; clear c30
        (first | rw [c30b0] | (simp only [i64_w, i32_w]; rw [c30b0]) | skip)
        obtain ⟨t828, A31, H⟩ := bE_ H; have H' := am_ H; clear H; obtain ⟨Ao32, co32, eo32⟩ := Kd.N_slice HO822.out; subst eo32; obtain ⟨Ao33, co33, eo33⟩ := Kd.N_slice HO826.out; subst eo33
        go_wp2_with (first | (go_at_call 16; (with_reducible refine (laws_likeRows.calls kj6 _ _ t820 _ _ t824 t828 _ ?_ ?_ ?_ ?_ A31.out).mono ?_); exact (Zdm HO822); exact (Kd.N_reads' HO822.out).2.1; exact (Zdm HO826); exact (Kd.N_reads' HO826.out).2.1; rintro e w' ⟨rfl, ⟨nd, rfl⟩⟩))
        go_meet
        case rel => exact ⟨_, (!t828), Za, H', ⟨by have := HJ6.out; first | omega | exact Nat.le_refl _⟩, ⟨by (with_reducible repeat (first | apply Kd.N_alloc | apply Kd.N_drewN | apply Kd.N_drew)); exact Kd.N_mono HO_5.out (fun _ hk => ⟨hk.1.2, ⟨hk.1.1.1, ⟨hk.1.1.2.1, ⟨hk.1.1.2.2.1, hk.1.1.2.2.2⟩⟩⟩⟩)⟩, ⟨by (with_reducible repeat (first | apply Kd.N_alloc | apply Kd.N_drewN | apply Kd.N_drew)); exact Kd.N_mono HO822.out (fun _ hk => ⟨hk.1.1, ⟨hk.1.2.1, ⟨hk.1.2.2.1, ⟨hk.1.2.2.2.1, hk.1.2.2.2.2⟩⟩⟩⟩)⟩, ⟨(Zr HO_811000)⟩, ⟨(Zr HO_811001)⟩, ⟨(Zr HO_811002)⟩, ⟨(Zq BK810)⟩, ⟨(Zh GE810)⟩⟩
       ·rw [if_neg c30] at H
        have c30b0 := beq_eq_false_iff_ne.mpr c30; have c30b1 := bne_iff_ne.mpr c30
        (first | rw [c30b0] | (simp only [i64_w, i32_w]; rw [c30b0]) | skip)
        exact absurd (H.trans (congrArg some HR_.out)) (laws_FnDark.j1_true _ _ _ _ _ _ _ _)
      case rest => as_aux_lemma =>
       clear HC25
       try clear c1
       try clear c2
       try clear p2
       try clear c3
       try clear c4
       try clear c6
       try clear c8
       try clear c14
       try clear c15
       try clear c17
       try clear c17b0
       try clear c17b1
       try clear c18
       try clear c21
       try clear c22
       try clear c22b0
       try clear c22b1
       try clear c30
       try clear c30b0
       try clear c30b1
       try clear p2
       obtain ⟨kq, x65_24, rfl, HA, HJ24, HO_5, HO_9, HO_811000, HO_811001, HO_811002, BK810, HB⟩ := hcut
       cases kq with
       | zero => exact absurd HA.out (by simp [laws_FnDark.j1])
       | succ kj24 =>
        have H := HA.out; clear HA; simp only [laws_FnDark.j1] at H
        by_cases c34 : x65_24 = true
        ·subst c34
         rw [if_pos rfl] at H; exact absurd ((Option.some.inj H).trans HR_.out) (by decide)
        ·replace c34 := Bool.eq_false_iff.mpr c34
         subst c34; rw [if_neg fnt_] at H; obtain ⟨⟨t829, t832⟩, A35, H⟩ := bE_ H
         dsimp only at H
         have HC36 := am_ H; clear H; refine ci3 BK810 ?_; intros
         go_upto_region 15 with (first | ((with_reducible refine gate_callee (f := 8) rfl ?_); refine gZ 68 Try.func8 #[.agg #[.slice Ao10 t800.length co10, .slice Ao12 t803.length co12, .slice Ao13 t806.length co13], .int .i64 1] ?_; (with_reducible refine (impl_DarkGaps.calls kj24 _ _ t800 _ _ t803 _ _ t806 1 t829 t832 _ ?_ ?_ ?_ ?_ ?_ ?_ A35.out).mono ?_); exact (Zak HO_811000); exact (Kd.R_reads' HO_811000.out).2.1; exact (Zak HO_811001); exact (Kd.R_reads' HO_811001.out).2.1; exact (Zak HO_811002); exact (Kd.R_reads' HO_811002.out).2.1; rintro e w38 ⟨v830, rfl, ho0, hb⟩; refine ⟨_, rfl, ?_⟩; replace HO831 := am_ (Kd.N_lower (Kd.N_mono (ok' := fun k_ => some k_ ≠ (v812 : Value).ownBlock ∧ some k_ ≠ (v821 : Value).ownBlock ∧ some k_ ≠ (.slice Ao10 t800.length co10 : Value).ownBlock ∧ some k_ ≠ (.slice Ao12 t803.length co12 : Value).ownBlock ∧ some k_ ≠ (.slice Ao13 t806.length co13 : Value).ownBlock ∧ k_ ≠ gb810) (Kd.S_N (Kd.S_bound ho0)) (fun k_ hk_ => ⟨(Kd.fresh' (Kd.N_lt (Zaa HO_5)) k_ hk_.2.1), (Kd.fresh' (Kd.N_lt (Zaa HO_9)) k_ hk_.2.1), (Kd.fresh' (Kd.R_lt (Zr HO_811000)) k_ hk_.2.1), (Kd.fresh' (Kd.R_lt (Zr HO_811001)) k_ hk_.2.1), (Kd.fresh' (Kd.R_lt (Zr HO_811002)) k_ hk_.2.1), (Kd.freshB (g := gb810) (b0Z BK810) k_ hk_.2.1)⟩)) (below_size (Zh GE810))); replace HO_5 := am_ (Kd.N_elder' (Zaa HO_5) (Kd.S_base ho0) hb); replace HO_9 := am_ (Kd.N_elder' (Zaa HO_9) (Kd.S_base ho0) hb); replace HO_811000 := (hbZ HO_811000 hb); replace HO_811001 := (hbZ HO_811001 hb); replace HO_811002 := (hbZ HO_811002 hb); replace BK810 := (bkZ BK810 hb); replace HB := (bsZ (Zh GE810) hb); clear hb ho0))
         (try simp only [Act.put, List.setIfInBounds_toArray, List.set_cons_zero, List.set_cons_succ])
         go_cut [83] (fun v83 wc => ∃ (kq : Nat) (x83_35 : Bool), v83 = .bool x83_35 ∧ Aside0 (laws_FnDark.j2 kq t809 t811 t820 t829 x83_35 = some r) ∧ Aside0 (kq ≤ kj24) ∧ Aside0 (Kd.N (Kd.slice 2 (Kd.int .i64)) 47 wc w.heap.size (fun k_ => some k_ ≠ (v821 : Value).ownBlock ∧ some k_ ≠ (v830 : Value).ownBlock ∧ some k_ ≠ ((.slice Ao10 t800.length co10) : Value).ownBlock ∧ some k_ ≠ ((.slice Ao12 t803.length co12) : Value).ownBlock ∧ some k_ ≠ ((.slice Ao13 t806.length co13) : Value).ownBlock ∧ k_ ≠ gb810) v812 t811) ∧ Aside0 (Kd.N (Kd.slice 2 (Kd.int .i64)) 47 wc w.heap.size (fun k_ => some k_ ≠ (v812 : Value).ownBlock ∧ some k_ ≠ (v830 : Value).ownBlock ∧ some k_ ≠ ((.slice Ao10 t800.length co10) : Value).ownBlock ∧ some k_ ≠ ((.slice Ao12 t803.length co12) : Value).ownBlock ∧ some k_ ≠ ((.slice Ao13 t806.length co13) : Value).ownBlock ∧ k_ ≠ gb810) v821 t820) ∧ Aside0 (Kd.N (Kd.slice 2 (Kd.int .i64)) 47 wc w.heap.size (fun k_ => some k_ ≠ (v812 : Value).ownBlock ∧ some k_ ≠ (v821 : Value).ownBlock ∧ some k_ ≠ ((.slice Ao10 t800.length co10) : Value).ownBlock ∧ some k_ ≠ ((.slice Ao12 t803.length co12) : Value).ownBlock ∧ some k_ ≠ ((.slice Ao13 t806.length co13) : Value).ownBlock ∧ k_ ≠ gb810) v830 t829) ∧ Aside0 (Kd.R k87 87 wc w.heap.size (fun _ => True) (.slice Ao10 t800.length co10) t800) ∧ Aside0 (Kd.R k91 91 wc w.heap.size (fun _ => True) (.slice Ao12 t803.length co12) t803) ∧ Aside0 (Kd.R k80 80 wc w.heap.size (fun _ => True) (.slice Ao13 t806.length co13) t806) ∧ Aside0 (wc.heap[gb810]? = some (.cells #[(.slice Ao10 t800.length co10), (.slice Ao12 t803.length co12), (.slice Ao13 t806.length co13)] 35 (0, 0))) ∧ Aside0 (Below w.heap.size w wc))
         case first => as_aux_lemma =>
          have H := HC36.out; clear HC36
          by_cases c39 : t823 = 0
          ·rw [if_pos c39] at H
           have c39b0 := beq_iff_eq.mpr c39; have c39b1 := bne_eq_false_iff_eq.mpr c39; clear c39
           (first | rw [c39b0] | (simp only [i64_w, i32_w]; rw [c39b0]) | skip)
           by_cases c40 : t832 = 0
           ·rw [if_pos c40] at H
            have c40b0 := beq_iff_eq.mpr c40; have c40b1 := bne_eq_false_iff_eq.mpr c40; clear c40; have H' := am_ H; clear H; obtain ⟨Ao41, co41, eo41⟩ := Kd.N_slice HO831.out; subst eo41; obtain ⟨Ao42, co42, eo42⟩ := Kd.N_slice HO_5.out; subst eo42
            go_wp2
            go_meet
            case rel => exact ⟨_, (decide ((t829.length : Int) < (t811.length : Int))), Za, H', ⟨by have := HJ6.out; have := HJ24.out; first | omega | exact Nat.le_refl _⟩, ⟨(Zdn HO_5)⟩, ⟨(Zdn HO_9)⟩, ⟨(Zaa HO831)⟩, ⟨(Zr HO_811000)⟩, ⟨(Zr HO_811001)⟩, ⟨(Zr HO_811002)⟩, ⟨(Zq BK810)⟩, ⟨(Zh GE810)⟩⟩
           ·rw [if_neg c40] at H
            have c40b0 := beq_eq_false_iff_ne.mpr c40; have c40b1 := bne_iff_ne.mpr c40; exact absurd (H.trans (congrArg some HR_.out)) (laws_FnDark.j2_true _ _ _ _ _)
          ·rw [if_neg c39] at H
           have c39b0 := beq_eq_false_iff_ne.mpr c39; have c39b1 := bne_iff_ne.mpr c39
           (first | rw [c39b0] | (simp only [i64_w, i32_w]; rw [c39b0]) | skip)
           exact absurd (H.trans (congrArg some HR_.out)) (laws_FnDark.j2_true _ _ _ _ _)
         case rest => as_aux_lemma =>
          clear HC36
          try clear c1
          try clear c2
          try clear p2
          try clear c3
          try clear c4
          try clear c6
          try clear c8
          try clear c14
          try clear c15
          try clear c17
          try clear c17b0
          try clear c17b1
          try clear c18
          try clear c21
          try clear c22
          try clear c22b0
          try clear c22b1
          try clear c30
          try clear c30b0
          try clear c30b1
          try clear c34
          try clear c39
          try clear c39b0
          try clear c39b1
          try clear c40
          try clear c40b0
          try clear c40b1
          try clear p2
          obtain ⟨kq, x83_35, rfl, HA, HJ35, HO_5, HO_9, HO_13, HO_811000, HO_811001, HO_811002, BK810, HB⟩ := hcut
          cases kq with
          | zero => exact absurd HA.out (by simp [laws_FnDark.j2])
          | succ kj35 =>
           have H := HA.out; clear HA; simp only [laws_FnDark.j2] at H
           by_cases c43 : x83_35 = true
           ·subst c43
            rw [if_pos rfl] at H; exact absurd ((Option.some.inj H).trans HR_.out) (by decide)
           ·replace c43 := Bool.eq_false_iff.mpr c43
            subst c43; rw [if_neg fnt_] at H; have H' := am_ H; clear H
            go_wp2
            go_loopg [15] kj35 (fun kq v15 w' => ∃ (x15_4 : Int), v15 = .int .i64 x15_4 ∧ Aside0 (laws_FnDark.l0 kq t809 t811 t820 t829 x15_4 = some r) ∧ Aside0 (kq ≤ kj35) ∧ Aside0 (Kd.N (Kd.slice 2 (Kd.int .i64)) 47 w' w.heap.size (fun k_ => some k_ ≠ (v821 : Value).ownBlock ∧ some k_ ≠ (v830 : Value).ownBlock ∧ some k_ ≠ ((.slice Ao10 t800.length co10) : Value).ownBlock ∧ some k_ ≠ ((.slice Ao12 t803.length co12) : Value).ownBlock ∧ some k_ ≠ ((.slice Ao13 t806.length co13) : Value).ownBlock ∧ k_ ≠ gb810) v812 t811) ∧ Aside0 (Kd.N (Kd.slice 2 (Kd.int .i64)) 47 w' w.heap.size (fun k_ => some k_ ≠ (v812 : Value).ownBlock ∧ some k_ ≠ (v830 : Value).ownBlock ∧ some k_ ≠ ((.slice Ao10 t800.length co10) : Value).ownBlock ∧ some k_ ≠ ((.slice Ao12 t803.length co12) : Value).ownBlock ∧ some k_ ≠ ((.slice Ao13 t806.length co13) : Value).ownBlock ∧ k_ ≠ gb810) v821 t820) ∧ Aside0 (Kd.N (Kd.slice 2 (Kd.int .i64)) 47 w' w.heap.size (fun k_ => some k_ ≠ (v812 : Value).ownBlock ∧ some k_ ≠ (v821 : Value).ownBlock ∧ some k_ ≠ ((.slice Ao10 t800.length co10) : Value).ownBlock ∧ some k_ ≠ ((.slice Ao12 t803.length co12) : Value).ownBlock ∧ some k_ ≠ ((.slice Ao13 t806.length co13) : Value).ownBlock ∧ k_ ≠ gb810) v830 t829) ∧ Aside0 (Kd.R k87 87 w' w.heap.size (fun _ => True) (.slice Ao10 t800.length co10) t800) ∧ Aside0 (Kd.R k91 91 w' w.heap.size (fun _ => True) (.slice Ao12 t803.length co12) t803) ∧ Aside0 (Kd.R k80 80 w' w.heap.size (fun _ => True) (.slice Ao13 t806.length co13) t806) ∧ Aside0 (w'.heap[gb810]? = some (.cells #[(.slice Ao10 t800.length co10), (.slice Ao12 t803.length co12), (.slice Ao13 t806.length co13)] 35 (0, 0))) ∧ Aside0 (Below w.heap.size w w'))
            case atStart => exact ⟨(0), Za, H', ⟨Nat.le_refl _⟩, ⟨(Zaa HO_5)⟩, ⟨(Zaa HO_9)⟩, ⟨(Zaa HO_13)⟩, ⟨(Zr HO_811000)⟩, ⟨(Zr HO_811001)⟩, ⟨(Zr HO_811002)⟩, ⟨(Zq BK810)⟩, ⟨(Zh GE810)⟩⟩
            case round => as_aux_lemma =>
             clear H'
             try clear c1
             try clear c2
             try clear p2
             try clear c3
             try clear c4
             try clear c6
             try clear c8
             try clear c14
             try clear c15
             try clear c17
             try clear c17b0
             try clear c17b1
             try clear c18
             try clear c21
             try clear c22
             try clear c22b0
             try clear c22b1
             try clear c30
             try clear c30b0
             try clear c30b1
             try clear c34
             try clear c39
             try clear c39b0
             try clear c39b1
             try clear c40
             try clear c40b0
             try clear c40b1
             try clear c43
             try clear p2
             obtain ⟨x15_4, rfl, HA, HK4, HO_5, HO_9, HO_13, HO_811000, HO_811001, HO_811002, BK810, HB⟩ := hrel
             cases gk with
             | zero => exact absurd HA.out (by simp [laws_FnDark.l0])
             | succ k4 =>
              have H := HA.out; clear HA; simp only [laws_FnDark.l0] at H
              by_cases c44 : x15_4 < (t811.length : Int)
              ·rw [if_pos c44] at H
               have c44b0 := decide_eq_true c44; clear c44; have HC45 := am_ H; clear H; obtain ⟨Ao46, co46, eo46⟩ := Kd.N_slice HO_5.out; subst eo46
               go_upto_region 20 with (fail)
               go_cut [122] (fun v122 wc => ∃ (kq : Nat) (x122_44 : Bool), v122 = .bool x122_44 ∧ Aside0 (laws_FnDark.j4 kq t809 t811 t820 t829 x15_4 x122_44 = some r) ∧ Aside0 (kq ≤ k4) ∧ Aside0 (Kd.N (Kd.slice 2 (Kd.int .i64)) 47 wc w.heap.size (fun k_ => some k_ ≠ (v821 : Value).ownBlock ∧ some k_ ≠ (v830 : Value).ownBlock ∧ some k_ ≠ ((.slice Ao10 t800.length co10) : Value).ownBlock ∧ some k_ ≠ ((.slice Ao12 t803.length co12) : Value).ownBlock ∧ some k_ ≠ ((.slice Ao13 t806.length co13) : Value).ownBlock ∧ k_ ≠ gb810) (.slice Ao46 t811.length co46) t811) ∧ Aside0 (Kd.N (Kd.slice 2 (Kd.int .i64)) 47 wc w.heap.size (fun k_ => some k_ ≠ ((.slice Ao46 t811.length co46) : Value).ownBlock ∧ some k_ ≠ (v830 : Value).ownBlock ∧ some k_ ≠ ((.slice Ao10 t800.length co10) : Value).ownBlock ∧ some k_ ≠ ((.slice Ao12 t803.length co12) : Value).ownBlock ∧ some k_ ≠ ((.slice Ao13 t806.length co13) : Value).ownBlock ∧ k_ ≠ gb810) v821 t820) ∧ Aside0 (Kd.N (Kd.slice 2 (Kd.int .i64)) 47 wc w.heap.size (fun k_ => some k_ ≠ ((.slice Ao46 t811.length co46) : Value).ownBlock ∧ some k_ ≠ (v821 : Value).ownBlock ∧ some k_ ≠ ((.slice Ao10 t800.length co10) : Value).ownBlock ∧ some k_ ≠ ((.slice Ao12 t803.length co12) : Value).ownBlock ∧ some k_ ≠ ((.slice Ao13 t806.length co13) : Value).ownBlock ∧ k_ ≠ gb810) v830 t829) ∧ Aside0 (Kd.R k87 87 wc w.heap.size (fun _ => True) (.slice Ao10 t800.length co10) t800) ∧ Aside0 (Kd.R k91 91 wc w.heap.size (fun _ => True) (.slice Ao12 t803.length co12) t803) ∧ Aside0 (Kd.R k80 80 wc w.heap.size (fun _ => True) (.slice Ao13 t806.length co13) t806) ∧ Aside0 (wc.heap[gb810]? = some (.cells #[(.slice Ao10 t800.length co10), (.slice Ao12 t803.length co12), (.slice Ao13 t806.length co13)] 35 (0, 0))) ∧ Aside0 (Below w.heap.size w wc))
               case first => as_aux_lemma =>
                have H := HC45.out; clear HC45
                by_cases c47 : 0 ≤ x15_4
                ·rw [if_pos c47] at H
                 have c47b0 := decide_eq_true c47; clear c47
                 (first | rw [c47b0] | (simp only [i64_w, i32_w]; rw [c47b0]) | skip)
                 by_cases c48 : 1 < ((rd_L5 t811 x15_4).length : Int)
                 ·rw [if_pos c48] at H
                  have c48b0 := decide_eq_true c48; have c48b1 : decide (1 < (rd_L5 t811 x15_4).length) = true := decide_eq_true (by omega); clear c48
                  by_cases c49 : 0 < ((rd_L5 t811 x15_4).length : Int)
                  ·rw [if_pos c49] at H
                   have c49b0 := decide_eq_true c49; have c49b1 : decide (0 < (rd_L5 t811 x15_4).length) = true := decide_eq_true (by omega); clear c49
                   by_cases c50 : (wrap64 ((wrap64 ((rd (rd_L5 t811 x15_4) 1) - (rd (rd_L5 t811 x15_4) 0))) + 1)) < t809
                   ·rw [if_pos c50] at H
                    have c50b0 := decide_eq_true c50; clear c50; have H' := am_ H; clear H
                    try go_wp2
                    replace HO_5 := am_ (Kd.N_drew HO_5.out); replace HO_9 := am_ (Kd.N_drew HO_9.out); replace HO_13 := am_ (Kd.N_drew HO_13.out); replace HO_811000 := am_ (Kd.R_drew HO_811000.out); replace HO_811001 := am_ (Kd.R_drew HO_811001.out); replace HO_811002 := am_ (Kd.R_drew HO_811002.out); replace BK810 := am_ (blk_drew BK810.out); replace HB := am_ (below_drew1 HB.out); have p833 : 0 ≤ (x15_4 : Int) := of_decide_eq_true Zc; have q833 : x15_4 < (t811.length : Int) := of_decide_eq_true Zc; obtain ⟨ad833, A833_0, c833_0, e833, hx833_0, hl833_0, hi833_0⟩ := at_L5 (Kd.N_reads' HO_5.out).2.2 x15_4 p833 q833
                    cases e833
                    obtain ⟨ce833, hce833, hMe833, hcc833⟩ := Kd.N_get HO_5.out [] x15_4 p833 (by first | exact q833 | exact of_decide_eq_true Zc | (have e_ := (Kd.N_reads' HO_5.out).1; omega)); obtain ⟨ua833_0, uc833_0, rfl, ul833_0, ge833_0⟩ := Kd.FK_slice_open hMe833; have hv833_0 := hcc833 0 _ rfl; rw [Nat.add_zero, show ((Kd.slice 2 (Kd.int .i64))).sz = 1 from rfl, Nat.mul_one] at hv833_0; replace hv833_0 := Option.some.inj (hv833_0.symm.trans hx833_0); injection hv833_0 with hva_ hvn_ hvc_; rw [hva_] at ge833_0; rw [hvc_] at ul833_0; have HL833_0 := am_ (show Kd.V (Kd.int .i64) 2 _ w.heap.size _ _ (rd_L5 t811 x15_4) from Kd.V_mk ul833_0 ge833_0); clear hva_ hvn_ hvc_ ge833_0 ul833_0; clear hcc833 hce833; have HR833_0 := am_ hi833_0; have HC833_0 := am_ hl833_0; clear hi833_0 hl833_0; replace p833 := eq_true p833; replace q833 := eq_true q833; have p834 : 0 ≤ (1 : Int) := (by omega); have q834 : 1 < ((rd_L5 t811 x15_4).length : Int) := of_decide_eq_true Zc; obtain ⟨ad834, e834, hx834_0⟩ := Kd.at_int (Zad HR833_0) 1 p834 q834
                    cases e834
                    (try simp only [show (1 : Int).toNat = 1 from rfl, Nat.reduceMul, Nat.reduceEqDiff, Go.Addr.add, ↓reduceIte] at hx834_0)
                    have qi834 : (1 < (rd_L5 t811 x15_4).length) = True := eq_true (by omega)
                    (try rw [show ((1 : Int)).toNat = 1 from rfl] at hx834_0)
                    replace p834 := eq_true p834; replace q834 := eq_true q834; have p835 : 0 ≤ (x15_4 : Int) := of_decide_eq_true Zc; have q835 : x15_4 < (t811.length : Int) := of_decide_eq_true Zc; obtain ⟨ad835, A835_0, c835_0, e835, hx835_0, hl835_0, hi835_0⟩ := at_L5 (Kd.N_reads' HO_5.out).2.2 x15_4 p835 q835; obtain rfl : ad833 = ad835 := (by injection e835); obtain ⟨ce835, hce835, hMe835, hcc835⟩ := Kd.N_get HO_5.out [] x15_4 p835 (by first | exact q835 | exact of_decide_eq_true Zc | (have e_ := (Kd.N_reads' HO_5.out).1; omega)); obtain ⟨ua835_0, uc835_0, rfl, ul835_0, ge835_0⟩ := Kd.FK_slice_open hMe835; have hv835_0 := hcc835 0 _ rfl; rw [Nat.add_zero, show ((Kd.slice 2 (Kd.int .i64))).sz = 1 from rfl, Nat.mul_one] at hv835_0; replace hv835_0 := Option.some.inj (hv835_0.symm.trans hx835_0); injection hv835_0 with hva_ hvn_ hvc_; rw [hva_] at ge835_0; rw [hvc_] at ul835_0; have HL835_0 := am_ (show Kd.V (Kd.int .i64) 2 _ w.heap.size _ _ (rd_L5 t811 x15_4) from Kd.V_mk ul835_0 ge835_0); clear hva_ hvn_ hvc_ ge835_0 ul835_0; clear hcc835 hce835; have HR835_0 := am_ hi835_0; have HC835_0 := am_ hl835_0; clear hi835_0 hl835_0; replace p835 := eq_true p835; replace q835 := eq_true q835; have ea_ := Option.some.inj (hx833_0.symm.trans hx835_0); injection ea_ with ea_ en_ ec_; subst ea_; subst ec_; clear en_; have p836 : 0 ≤ (0 : Int) := (by omega); have q836 : 0 < ((rd_L5 t811 x15_4).length : Int) := of_decide_eq_true Zc; obtain ⟨ad836, e836, hx836_0⟩ := Kd.at_int (Zad HR835_0) 0 p836 q836
                    cases e836
                    have qi836 : (0 < (rd_L5 t811 x15_4).length) = True := eq_true (by omega)
                    (try rw [show ((0 : Int)).toNat = 0 from rfl] at hx836_0)
                    (try rw [Addr.add_zero'] at hx836_0)
                    replace p836 := eq_true p836; replace q836 := eq_true q836; refine start_ (n := 33) (S := fun w' => w'.cell? (ad833.add (x15_4).toNat) = some (.slice (some ad834) (rd_L5 t811 x15_4).length c833_0) ∧ w'.cell? ⟨ad834.block, ad834.off + 1, none⟩ = some (.int .i64 (rd (rd_L5 t811 x15_4) 1)) ∧ w'.cell? (ad833.add (x15_4).toNat) = some (.slice (some ad834) (rd_L5 t811 x15_4).length c833_0) ∧ w'.cell? ad834 = some (.int .i64 (rd (rd_L5 t811 x15_4) 0))) (ds := []) (bT 33 0) Zi rfl rfl ⟨hx833_0, hx834_0, hx835_0, hx836_0⟩ (fun hHeld => ?_); refine with_tabW laws_FnDark.tab20 laws_FnDark.bits20 (fun HT_ HW_ => ?_); generalize wr.drew = w51 at HO_5 HO_9 HO_13 HO_811000 HO_811001 HO_811002 BK810 HB HL833_0 HL835_0 HR833_0 HR835_0 hx833_0 hx834_0 hx835_0 hx836_0 hHeld ⊢; refine pureZ HT_ 0 (some 90) (bT 33 1) ?_; refine pureZ HT_ 1 (some 91) (bT 33 2) ?_; refine pureZ HT_ 2 (some 92) (bT 33 3) ?_; refine pureZ HT_ 6 (some 96) (bB 33 71) ?_; refine pureZ HT_ 7 (some 97) (bB 33 199) ?_; refine pureZ HT_ 8 (some 98) (bB 33 455) ?_; refine pureZ HT_ 14 (some 104) (bB 33 16839) ?_; refine takeZ4 HT_ HW_ 3 (some 93) (bB 33 16847) hHeld ?_; refine pureZ HT_ 4 (some 94) (bB 33 16863) ?_; refine takeZ4 HT_ HW_ 5 (some 95) (bB 33 16895) hHeld ?_; refine takeZ4 HT_ HW_ 9 (some 99) (bB 33 17407) hHeld ?_; refine pureZ HT_ 10 (some 100) (bB 33 18431) ?_; refine takeZ4 HT_ HW_ 11 (some 101) (bB 33 20479) hHeld ?_; refine pureZ HT_ 12 (some 102) (bB 33 24575) ?_; refine pureZ HT_ 13 (some 103) (bT 33 15) ?_; refine pureZ HT_ 15 (some 105) (bT 33 16) ?_; refine pureZ HT_ 16 (some 106) (bT 33 17) ?_; refine pureU HT_ 17 (some 107) (bT 33 18) ?_; refine pureU HT_ 18 (some 108) (bT 33 19) ?_; refine pureU HT_ 19 (some 109) (bT 33 20) ?_; refine pureU HT_ 20 (some 110) (bT 33 21) ?_; refine pureU HT_ 21 (some 111) (bT 33 22) ?_; refine pureU HT_ 22 (some 112) (bT 33 23) ?_; refine pureU HT_ 23 (some 113) (bT 33 24) ?_; refine pureU HT_ 24 (some 114) (bT 33 25) ?_; refine pureU HT_ 25 (some 115) (bT 33 26) ?_; refine pureU HT_ 26 (some 116) (bT 33 27) ?_; refine pureU HT_ 27 (some 117) (bT 33 28) ?_; refine pureU HT_ 28 (some 118) (bT 33 29) ?_; refine pureU HT_ 29 (some 119) (bT 33 30) ?_; refine pureU HT_ 30 (some 120) (bT 33 31) ?_; refine pureU HT_ 31 (some 121) (bT 33 32) ?_; refine pureZ HT_ 32 (some 122) (bT 33 33) ?_; refine done_ (done_of HT_.out Zi) ?_
                    try go_wp2
                    go_meet
                    case rel => exact ⟨_, (true), Za, H', ⟨by have := HJ6.out; have := HJ24.out; have := HJ35.out; have := HK4.out; first | omega | exact Nat.le_refl _⟩, ⟨(Zaa HO_5)⟩, ⟨(Zaa HO_9)⟩, ⟨(Zaa HO_13)⟩, ⟨(Zr HO_811000)⟩, ⟨(Zr HO_811001)⟩, ⟨(Zr HO_811002)⟩, ⟨(Zq BK810)⟩, ⟨(Zh GE810)⟩⟩
                   ·rw [if_neg c50] at H
                    have c50b0 := decide_eq_false c50; clear c50; obtain ⟨t841, A52, H⟩ := bE_ H; have H' := am_ H; clear H
                    try go_wp2
                    replace HO_5 := am_ (Kd.N_drew HO_5.out); replace HO_9 := am_ (Kd.N_drew HO_9.out); replace HO_13 := am_ (Kd.N_drew HO_13.out); replace HO_811000 := am_ (Kd.R_drew HO_811000.out); replace HO_811001 := am_ (Kd.R_drew HO_811001.out); replace HO_811002 := am_ (Kd.R_drew HO_811002.out); replace BK810 := am_ (blk_drew BK810.out); replace HB := am_ (below_drew1 HB.out); have p833 : 0 ≤ (x15_4 : Int) := of_decide_eq_true Zc; have q833 : x15_4 < (t811.length : Int) := of_decide_eq_true Zc; obtain ⟨ad833, A833_0, c833_0, e833, hx833_0, hl833_0, hi833_0⟩ := at_L5 (Kd.N_reads' HO_5.out).2.2 x15_4 p833 q833
                    cases e833
                    obtain ⟨ce833, hce833, hMe833, hcc833⟩ := Kd.N_get HO_5.out [] x15_4 p833 (by first | exact q833 | exact of_decide_eq_true Zc | (have e_ := (Kd.N_reads' HO_5.out).1; omega)); obtain ⟨ua833_0, uc833_0, rfl, ul833_0, ge833_0⟩ := Kd.FK_slice_open hMe833; have hv833_0 := hcc833 0 _ rfl; rw [Nat.add_zero, show ((Kd.slice 2 (Kd.int .i64))).sz = 1 from rfl, Nat.mul_one] at hv833_0; replace hv833_0 := Option.some.inj (hv833_0.symm.trans hx833_0); injection hv833_0 with hva_ hvn_ hvc_; rw [hva_] at ge833_0; rw [hvc_] at ul833_0; have HL833_0 := am_ (show Kd.V (Kd.int .i64) 2 _ w.heap.size _ _ (rd_L5 t811 x15_4) from Kd.V_mk ul833_0 ge833_0); clear hva_ hvn_ hvc_ ge833_0 ul833_0; clear hcc833 hce833; have HR833_0 := am_ hi833_0; have HC833_0 := am_ hl833_0; clear hi833_0 hl833_0; replace p833 := eq_true p833; replace q833 := eq_true q833; have p834 : 0 ≤ (1 : Int) := (by omega); have q834 : 1 < ((rd_L5 t811 x15_4).length : Int) := of_decide_eq_true Zc; obtain ⟨ad834, e834, hx834_0⟩ := Kd.at_int (Zad HR833_0) 1 p834 q834
                    cases e834
                    (try simp only [show (1 : Int).toNat = 1 from rfl, Nat.reduceMul, Nat.reduceEqDiff, Go.Addr.add, ↓reduceIte] at hx834_0)
                    have qi834 : (1 < (rd_L5 t811 x15_4).length) = True := eq_true (by omega)
                    (try rw [show ((1 : Int)).toNat = 1 from rfl] at hx834_0)
                    replace p834 := eq_true p834; replace q834 := eq_true q834; have p835 : 0 ≤ (x15_4 : Int) := of_decide_eq_true Zc; have q835 : x15_4 < (t811.length : Int) := of_decide_eq_true Zc; obtain ⟨ad835, A835_0, c835_0, e835, hx835_0, hl835_0, hi835_0⟩ := at_L5 (Kd.N_reads' HO_5.out).2.2 x15_4 p835 q835; obtain rfl : ad833 = ad835 := (by injection e835); obtain ⟨ce835, hce835, hMe835, hcc835⟩ := Kd.N_get HO_5.out [] x15_4 p835 (by first | exact q835 | exact of_decide_eq_true Zc | (have e_ := (Kd.N_reads' HO_5.out).1; omega)); obtain ⟨ua835_0, uc835_0, rfl, ul835_0, ge835_0⟩ := Kd.FK_slice_open hMe835; have hv835_0 := hcc835 0 _ rfl; rw [Nat.add_zero, show ((Kd.slice 2 (Kd.int .i64))).sz = 1 from rfl, Nat.mul_one] at hv835_0; replace hv835_0 := Option.some.inj (hv835_0.symm.trans hx835_0); injection hv835_0 with hva_ hvn_ hvc_; rw [hva_] at ge835_0; rw [hvc_] at ul835_0; have HL835_0 := am_ (show Kd.V (Kd.int .i64) 2 _ w.heap.size _ _ (rd_L5 t811 x15_4) from Kd.V_mk ul835_0 ge835_0); clear hva_ hvn_ hvc_ ge835_0 ul835_0; clear hcc835 hce835; have HR835_0 := am_ hi835_0; have HC835_0 := am_ hl835_0; clear hi835_0 hl835_0; replace p835 := eq_true p835; replace q835 := eq_true q835; have ea_ := Option.some.inj (hx833_0.symm.trans hx835_0); injection ea_ with ea_ en_ ec_; subst ea_; subst ec_; clear en_; have p836 : 0 ≤ (0 : Int) := (by omega); have q836 : 0 < ((rd_L5 t811 x15_4).length : Int) := of_decide_eq_true Zc; obtain ⟨ad836, e836, hx836_0⟩ := Kd.at_int (Zad HR835_0) 0 p836 q836
                    cases e836
                    have qi836 : (0 < (rd_L5 t811 x15_4).length) = True := eq_true (by omega)
                    (try rw [show ((0 : Int)).toNat = 0 from rfl] at hx836_0)
                    (try rw [Addr.add_zero'] at hx836_0)
                    replace p836 := eq_true p836; replace q836 := eq_true q836; have p837 : 0 ≤ (x15_4 : Int) := of_decide_eq_true Zc; have q837 : x15_4 < (t811.length : Int) := of_decide_eq_true Zc; obtain ⟨ad837, A837_0, c837_0, e837, hx837_0, hl837_0, hi837_0⟩ := at_L5 (Kd.N_reads' HO_5.out).2.2 x15_4 p837 q837; obtain rfl : ad833 = ad837 := (by injection e837); obtain ⟨ce837, hce837, hMe837, hcc837⟩ := Kd.N_get HO_5.out [] x15_4 p837 (by first | exact q837 | exact of_decide_eq_true Zc | (have e_ := (Kd.N_reads' HO_5.out).1; omega)); obtain ⟨ua837_0, uc837_0, rfl, ul837_0, ge837_0⟩ := Kd.FK_slice_open hMe837; have hv837_0 := hcc837 0 _ rfl; rw [Nat.add_zero, show ((Kd.slice 2 (Kd.int .i64))).sz = 1 from rfl, Nat.mul_one] at hv837_0; replace hv837_0 := Option.some.inj (hv837_0.symm.trans hx837_0); injection hv837_0 with hva_ hvn_ hvc_; rw [hva_] at ge837_0; rw [hvc_] at ul837_0; have HL837_0 := am_ (show Kd.V (Kd.int .i64) 2 _ w.heap.size _ _ (rd_L5 t811 x15_4) from Kd.V_mk ul837_0 ge837_0); clear hva_ hvn_ hvc_ ge837_0 ul837_0; clear hcc837 hce837; have HR837_0 := am_ hi837_0; have HC837_0 := am_ hl837_0; clear hi837_0 hl837_0; replace p837 := eq_true p837; replace q837 := eq_true q837; have ea_ := Option.some.inj (hx833_0.symm.trans hx837_0); injection ea_ with ea_ en_ ec_; subst ea_; subst ec_; clear en_; have p838 : 0 ≤ (0 : Int) := (by omega); have q838 : 0 < ((rd_L5 t811 x15_4).length : Int) := of_decide_eq_true Zc; obtain ⟨ad838, e838, hx838_0⟩ := Kd.at_int (Zad HR837_0) 0 p838 q838
                    cases e838
                    have qi838 : (0 < (rd_L5 t811 x15_4).length) = True := eq_true (by omega)
                    (try rw [show ((0 : Int)).toNat = 0 from rfl] at hx838_0)
                    (try rw [Addr.add_zero'] at hx838_0)
                    replace p838 := eq_true p838; replace q838 := eq_true q838; have p839 : 0 ≤ (x15_4 : Int) := of_decide_eq_true Zc; have q839 : x15_4 < (t811.length : Int) := of_decide_eq_true Zc; obtain ⟨ad839, A839_0, c839_0, e839, hx839_0, hl839_0, hi839_0⟩ := at_L5 (Kd.N_reads' HO_5.out).2.2 x15_4 p839 q839; obtain rfl : ad833 = ad839 := (by injection e839); obtain ⟨ce839, hce839, hMe839, hcc839⟩ := Kd.N_get HO_5.out [] x15_4 p839 (by first | exact q839 | exact of_decide_eq_true Zc | (have e_ := (Kd.N_reads' HO_5.out).1; omega)); obtain ⟨ua839_0, uc839_0, rfl, ul839_0, ge839_0⟩ := Kd.FK_slice_open hMe839; have hv839_0 := hcc839 0 _ rfl; rw [Nat.add_zero, show ((Kd.slice 2 (Kd.int .i64))).sz = 1 from rfl, Nat.mul_one] at hv839_0; replace hv839_0 := Option.some.inj (hv839_0.symm.trans hx839_0); injection hv839_0 with hva_ hvn_ hvc_; rw [hva_] at ge839_0; rw [hvc_] at ul839_0; have HL839_0 := am_ (show Kd.V (Kd.int .i64) 2 _ w.heap.size _ _ (rd_L5 t811 x15_4) from Kd.V_mk ul839_0 ge839_0); clear hva_ hvn_ hvc_ ge839_0 ul839_0; clear hcc839 hce839; have HR839_0 := am_ hi839_0; have HC839_0 := am_ hl839_0; clear hi839_0 hl839_0; replace p839 := eq_true p839; replace q839 := eq_true q839; have ea_ := Option.some.inj (hx833_0.symm.trans hx839_0); injection ea_ with ea_ en_ ec_; subst ea_; subst ec_; clear en_; have p840 : 0 ≤ (1 : Int) := (by omega); have q840 : 1 < ((rd_L5 t811 x15_4).length : Int) := of_decide_eq_true Zc; obtain ⟨ad840, e840, hx840_0⟩ := Kd.at_int (Zad HR839_0) 1 p840 q840
                    cases e840
                    (try simp only [show (1 : Int).toNat = 1 from rfl, Nat.reduceMul, Nat.reduceEqDiff, Go.Addr.add, ↓reduceIte] at hx840_0)
                    have qi840 : (1 < (rd_L5 t811 x15_4).length) = True := eq_true (by omega)
                    (try rw [show ((1 : Int)).toNat = 1 from rfl] at hx840_0)
                    replace p840 := eq_true p840; replace q840 := eq_true q840; obtain ⟨Ao54, co54, eo54⟩ := Kd.N_slice HO_13.out
                    (first | subst eo54 | (injection eo54 with f1_ f2_ f3_; have f4_ := f1_.symm; have f5_ := f3_.symm; clear f1_ f2_ f3_; subst f4_; subst f5_))
                    refine start_ (n := 33) (S := fun w' => w'.cell? (ad833.add (x15_4).toNat) = some (.slice (some ad834) (rd_L5 t811 x15_4).length c833_0) ∧ w'.cell? ⟨ad834.block, ad834.off + 1, none⟩ = some (.int .i64 (rd (rd_L5 t811 x15_4) 1)) ∧ w'.cell? (ad833.add (x15_4).toNat) = some (.slice (some ad834) (rd_L5 t811 x15_4).length c833_0) ∧ w'.cell? ad834 = some (.int .i64 (rd (rd_L5 t811 x15_4) 0)) ∧ w'.cell? (ad833.add (x15_4).toNat) = some (.slice (some ad834) (rd_L5 t811 x15_4).length c833_0) ∧ w'.cell? ad834 = some (.int .i64 (rd (rd_L5 t811 x15_4) 0)) ∧ w'.cell? (ad833.add (x15_4).toNat) = some (.slice (some ad834) (rd_L5 t811 x15_4).length c833_0) ∧ w'.cell? ⟨ad834.block, ad834.off + 1, none⟩ = some (.int .i64 (rd (rd_L5 t811 x15_4) 1))) (ds := []) (bT 33 0) Zi rfl rfl ⟨hx833_0, hx834_0, hx835_0, hx836_0, hx837_0, hx838_0, hx839_0, hx840_0⟩ (fun hHeld => ?_); refine with_tabW laws_FnDark.tab20 laws_FnDark.bits20 (fun HT_ HW_ => ?_); generalize wr.drew = w53 at HO_5 HO_9 HO_13 HO_811000 HO_811001 HO_811002 BK810 HB HL833_0 HL835_0 HL837_0 HL839_0 HR833_0 HR835_0 HR837_0 HR839_0 hx833_0 hx834_0 hx835_0 hx836_0 hx837_0 hx838_0 hx839_0 hx840_0 hHeld ⊢; refine pureZ HT_ 0 (some 90) (bT 33 1) ?_; refine pureZ HT_ 1 (some 91) (bT 33 2) ?_; refine pureZ HT_ 2 (some 92) (bT 33 3) ?_; refine pureZ HT_ 6 (some 96) (bB 33 71) ?_; refine pureZ HT_ 7 (some 97) (bB 33 199) ?_; refine pureZ HT_ 8 (some 98) (bB 33 455) ?_; refine pureZ HT_ 14 (some 104) (bB 33 16839) ?_; refine takeZ8 HT_ HW_ 3 (some 93) (bB 33 16847) hHeld ?_; refine pureZ HT_ 4 (some 94) (bB 33 16863) ?_; refine takeZ8 HT_ HW_ 5 (some 95) (bB 33 16895) hHeld ?_; refine takeZ8 HT_ HW_ 9 (some 99) (bB 33 17407) hHeld ?_; refine pureZ HT_ 10 (some 100) (bB 33 18431) ?_; refine takeZ8 HT_ HW_ 11 (some 101) (bB 33 20479) hHeld ?_; refine pureZ HT_ 12 (some 102) (bB 33 24575) ?_; refine pureZ HT_ 13 (some 103) (bT 33 15) ?_; refine pureZ HT_ 15 (some 105) (bT 33 16) ?_; refine pureZ HT_ 16 (some 106) (bT 33 17) ?_; refine pureZ HT_ 17 (some 107) (bT 33 18) ?_; refine pureZ HT_ 18 (some 108) (bT 33 19) ?_; refine pureZ HT_ 19 (some 109) (bT 33 20) ?_; refine pureZ HT_ 20 (some 110) (bT 33 21) ?_; refine pureZ HT_ 24 (some 114) (bB 33 18874367) ?_; refine pureZ HT_ 25 (some 115) (bB 33 52428799) ?_; refine pureZ HT_ 26 (some 116) (bB 33 119537663) ?_; refine takeZ8 HT_ HW_ 21 (some 111) (bB 33 121634815) hHeld ?_; refine pureZ HT_ 22 (some 112) (bB 33 125829119) ?_; refine takeZ8 HT_ HW_ 23 (some 113) (bT 33 27) hHeld ?_; refine takeZ8 HT_ HW_ 27 (some 117) (bT 33 28) hHeld ?_; refine pureZ HT_ 28 (some 118) (bT 33 29) ?_; refine takeZ8 HT_ HW_ 29 (some 119) (bT 33 30) hHeld ?_; refine one_ (i := 30) (N := some 120) (bT 33 31) rfl rfl (one_of HT_.out Zi) (by decide) (fun K hK => ?_); refine goes_ Try.func19 Zi rfl #[.slice Ao54 t829.length co54, .int .i64 (rd (rd_L5 t811 x15_4) 0), .int .i64 (rd (rd_L5 t811 x15_4) 1)] (by rfl) rfl rfl Zj ?_
                    with_reducible refine (laws_hasRow.calls k4 _ _ t829 (rd (rd_L5 t811 x15_4) 0) (rd (rd_L5 t811 x15_4) 1) t841 _ ?side1 ?side2 A52.out).mono ?_
                    (case side1 => exact (Zdm HO_13))
                    (case side2 => exact (Kd.N_reads' HO_13.out).2.1)
                    rintro e w' ⟨rfl, ⟨nd, rfl⟩⟩; refine ⟨_, rfl, ?_⟩; refine hK.out _ _ ⟨hHeld.1, hHeld.2.1, hHeld.2.2.1, hHeld.2.2.2.1, hHeld.2.2.2.2.1, hHeld.2.2.2.2.2.1, hHeld.2.2.2.2.2.2.1, hHeld.2.2.2.2.2.2.2⟩ (fun hHeld => ?_); clear hK K; refine normZ 120 ?_; refine pureZ HT_ 31 (some 121) (bT 33 32) ?_; refine pureZ HT_ 32 (some 122) (bT 33 33) ?_; refine done_ (done_of HT_.out Zi) ?_
                    try go_wp2
                    go_meet
                    case rel => exact ⟨_, (!t841), Za, H', ⟨by have := HJ6.out; have := HJ24.out; have := HJ35.out; have := HK4.out; first | omega | exact Nat.le_refl _⟩, ⟨(Zaa HO_5)⟩, ⟨(Zaa HO_9)⟩, ⟨(Zaa HO_13)⟩, ⟨(Zr HO_811000)⟩, ⟨(Zr HO_811001)⟩, ⟨(Zr HO_811002)⟩, ⟨(Zq BK810)⟩, ⟨(Zh GE810)⟩⟩
                  ·exact nN c49 H
                 ·exact nN c48 H
                ·exact nN c47 H
               case rest => as_aux_lemma =>
                clear HC45
                try clear c1
                try clear p2
                try clear c4
                try clear c5
                try clear p6
                try clear c8
                try clear p8
                try clear q8
                try clear hx8
                try clear qi8
                try clear c19
                try clear c47
                try clear c48
                try clear c49
                try clear c50
                try clear c50b0
                try clear hx833_0
                try clear hx834_0
                try clear hx835_0
                try clear hx836_0
                try clear hx837_0
                try clear hx838_0
                try clear hx839_0
                try clear hx840_0
                try clear p833
                try clear p834
                try clear p835
                try clear p836
                try clear p837
                try clear p838
                try clear p839
                try clear p840
                try clear q833
                try clear q834
                try clear q835
                try clear q836
                try clear q837
                try clear q838
                try clear q839
                try clear q840
                obtain ⟨kq, x122_44, rfl, HA, HJ44, HO_5, HO_9, HO_13, HO_811000, HO_811001, HO_811002, BK810, HB⟩ := hcut
                cases kq with
                | zero => exact absurd HA.out (by simp [laws_FnDark.j4])
                | succ kj44 =>
                 have H := HA.out; clear HA; simp only [laws_FnDark.j4] at H
                 by_cases c55 : x122_44 = true
                 ·subst c55
                  rw [if_pos rfl] at H; exact absurd ((Option.some.inj H).trans HR_.out) (by decide)
                 ·replace c55 := Bool.eq_false_iff.mpr c55
                  subst c55; rw [if_neg fnt_] at H; have H' := am_ H; clear H
                  go_wp2
                  go_loopg [16] kj44 (fun kq v16 w' => ∃ (x16_6 : Int), v16 = .int .i64 x16_6 ∧ Aside0 (laws_FnDark.l1 kq t809 t811 t820 t829 x15_4 x16_6 = some r) ∧ Aside0 (kq ≤ kj44) ∧ Aside0 (Kd.N (Kd.slice 2 (Kd.int .i64)) 47 w' w.heap.size (fun k_ => some k_ ≠ (v821 : Value).ownBlock ∧ some k_ ≠ (v830 : Value).ownBlock ∧ some k_ ≠ ((.slice Ao10 t800.length co10) : Value).ownBlock ∧ some k_ ≠ ((.slice Ao12 t803.length co12) : Value).ownBlock ∧ some k_ ≠ ((.slice Ao13 t806.length co13) : Value).ownBlock ∧ k_ ≠ gb810) (.slice Ao46 t811.length co46) t811) ∧ Aside0 (Kd.N (Kd.slice 2 (Kd.int .i64)) 47 w' w.heap.size (fun k_ => some k_ ≠ ((.slice Ao46 t811.length co46) : Value).ownBlock ∧ some k_ ≠ (v830 : Value).ownBlock ∧ some k_ ≠ ((.slice Ao10 t800.length co10) : Value).ownBlock ∧ some k_ ≠ ((.slice Ao12 t803.length co12) : Value).ownBlock ∧ some k_ ≠ ((.slice Ao13 t806.length co13) : Value).ownBlock ∧ k_ ≠ gb810) v821 t820) ∧ Aside0 (Kd.N (Kd.slice 2 (Kd.int .i64)) 47 w' w.heap.size (fun k_ => some k_ ≠ ((.slice Ao46 t811.length co46) : Value).ownBlock ∧ some k_ ≠ (v821 : Value).ownBlock ∧ some k_ ≠ ((.slice Ao10 t800.length co10) : Value).ownBlock ∧ some k_ ≠ ((.slice Ao12 t803.length co12) : Value).ownBlock ∧ some k_ ≠ ((.slice Ao13 t806.length co13) : Value).ownBlock ∧ k_ ≠ gb810) v830 t829) ∧ Aside0 (Kd.R k87 87 w' w.heap.size (fun _ => True) (.slice Ao10 t800.length co10) t800) ∧ Aside0 (Kd.R k91 91 w' w.heap.size (fun _ => True) (.slice Ao12 t803.length co12) t803) ∧ Aside0 (Kd.R k80 80 w' w.heap.size (fun _ => True) (.slice Ao13 t806.length co13) t806) ∧ Aside0 (w'.heap[gb810]? = some (.cells #[(.slice Ao10 t800.length co10), (.slice Ao12 t803.length co12), (.slice Ao13 t806.length co13)] 35 (0, 0))) ∧ Aside0 (Below w.heap.size w w'))
                  case atStart => exact ⟨(0), Za, H', ⟨Nat.le_refl _⟩, ⟨(Zaa HO_5)⟩, ⟨(Zaa HO_9)⟩, ⟨(Zaa HO_13)⟩, ⟨(Zr HO_811000)⟩, ⟨(Zr HO_811001)⟩, ⟨(Zr HO_811002)⟩, ⟨(Zq BK810)⟩, ⟨(Zh GE810)⟩⟩
                  case round => as_aux_lemma =>
                   clear H'
                   try clear c1
                   try clear p2
                   try clear c4
                   try clear c5
                   try clear p6
                   try clear c8
                   try clear p8
                   try clear q8
                   try clear hx8
                   try clear qi8
                   try clear c19
                   try clear c47
                   try clear c48
                   try clear c49
                   try clear c50
                   try clear c50b0
                   try clear c55
                   try clear hx833_0
                   try clear hx834_0
                   try clear hx835_0
                   try clear hx836_0
                   try clear hx837_0
                   try clear hx838_0
                   try clear hx839_0
                   try clear hx840_0
                   try clear p2
                   try clear p6
                   try clear p8
                   try clear p833
                   try clear p834
                   try clear p835
                   try clear p836
                   try clear p837
                   try clear p838
                   try clear p839
                   try clear p840
                   try clear q8
                   try clear q833
                   try clear q834
                   try clear q835
                   try clear q836
                   try clear q837
                   try clear q838
                   try clear q839
                   try clear q840
                   obtain ⟨x16_6, rfl, HA, HK6, HO_5, HO_9, HO_13, HO_811000, HO_811001, HO_811002, BK810, HB⟩ := hrel
                   cases gk with
                   | zero => exact absurd HA.out (by simp [laws_FnDark.l1])
                   | succ k6 =>
                    have H := HA.out; clear HA; simp only [laws_FnDark.l1] at H
                    by_cases c56 : x16_6 < (t820.length : Int)
                    ·rw [if_pos c56] at H
                     have c56b0 := decide_eq_true c56; clear c56
                     by_cases c57 : 0 ≤ x16_6
                     ·rw [if_pos c57] at H
                      have c57b0 := decide_eq_true c57; clear c57
                      by_cases c58 : 0 < ((rd_L5 t820 x16_6).length : Int)
                      ·rw [if_pos c58] at H
                       have c58b0 := decide_eq_true c58; have c58b1 : decide (0 < (rd_L5 t820 x16_6).length) = true := decide_eq_true (by omega); clear c58
                       by_cases c59 : 0 ≤ x15_4
                       ·rw [if_pos c59] at H
                        have c59b0 := decide_eq_true c59; clear c59
                        by_cases c60 : x15_4 < (t811.length : Int)
                        ·rw [if_pos c60] at H
                         have c60b0 := decide_eq_true c60; clear c60
                         by_cases c61 : 1 < ((rd_L5 t811 x15_4).length : Int)
                         ·rw [if_pos c61] at H
                          have c61b0 := decide_eq_true c61; have c61b1 : decide (1 < (rd_L5 t811 x15_4).length) = true := decide_eq_true (by omega); clear c61
                          by_cases c62 : (rd (rd_L5 t820 x16_6) 0) ≤ (rd (rd_L5 t811 x15_4) 1)
                          ·rw [if_pos c62] at H
                           have c62b0 := decide_eq_true c62; clear c62
                           by_cases c63 : 0 < ((rd_L5 t811 x15_4).length : Int)
                           ·rw [if_pos c63] at H
                            have c63b0 := decide_eq_true c63; have c63b1 : decide (0 < (rd_L5 t811 x15_4).length) = true := decide_eq_true (by omega); clear c63
                            by_cases c64 : 1 < ((rd_L5 t820 x16_6).length : Int)
                            ·rw [if_pos c64] at H
                             have c64b0 := decide_eq_true c64; have c64b1 : decide (1 < (rd_L5 t820 x16_6).length) = true := decide_eq_true (by omega); clear c64
                             by_cases c65 : (rd (rd_L5 t811 x15_4) 0) ≤ (rd (rd_L5 t820 x16_6) 1)
                             ·rw [if_pos c65] at H
                              exact absurd ((Option.some.inj H).trans HR_.out) (by decide)
                             ·rw [if_neg c65] at H
                              have c65b0 := decide_eq_false c65; clear c65; have H' := am_ H; clear H; obtain ⟨Ao68, co68, eo68⟩ := Kd.N_slice HO_9.out; subst eo68
                              try go_wp2
                              replace HO_5 := am_ (Kd.N_drew HO_5.out); replace HO_9 := am_ (Kd.N_drew HO_9.out); replace HO_13 := am_ (Kd.N_drew HO_13.out); replace HO_811000 := am_ (Kd.R_drew HO_811000.out); replace HO_811001 := am_ (Kd.R_drew HO_811001.out); replace HO_811002 := am_ (Kd.R_drew HO_811002.out); replace BK810 := am_ (blk_drew BK810.out); replace HB := am_ (below_drew1 HB.out); have p842 : 0 ≤ (x16_6 : Int) := of_decide_eq_true Zc; have q842 : x16_6 < (t820.length : Int) := of_decide_eq_true Zc; obtain ⟨ad842, A842_0, c842_0, e842, hx842_0, hl842_0, hi842_0⟩ := at_L5 (Kd.N_reads' HO_9.out).2.2 x16_6 p842 q842
                              cases e842
                              obtain ⟨ce842, hce842, hMe842, hcc842⟩ := Kd.N_get HO_9.out [] x16_6 p842 (by first | exact q842 | exact of_decide_eq_true Zc | (have e_ := (Kd.N_reads' HO_9.out).1; omega)); obtain ⟨ua842_0, uc842_0, rfl, ul842_0, ge842_0⟩ := Kd.FK_slice_open hMe842; have hv842_0 := hcc842 0 _ rfl; rw [Nat.add_zero, show ((Kd.slice 2 (Kd.int .i64))).sz = 1 from rfl, Nat.mul_one] at hv842_0; replace hv842_0 := Option.some.inj (hv842_0.symm.trans hx842_0); injection hv842_0 with hva_ hvn_ hvc_; rw [hva_] at ge842_0; rw [hvc_] at ul842_0; have HL842_0 := am_ (show Kd.V (Kd.int .i64) 2 _ w.heap.size _ _ (rd_L5 t820 x16_6) from Kd.V_mk ul842_0 ge842_0); clear hva_ hvn_ hvc_ ge842_0 ul842_0; clear hcc842 hce842; have HR842_0 := am_ hi842_0; have HC842_0 := am_ hl842_0; clear hi842_0 hl842_0; replace p842 := eq_true p842; replace q842 := eq_true q842; have p843 : 0 ≤ (0 : Int) := (by omega); have q843 : 0 < ((rd_L5 t820 x16_6).length : Int) := of_decide_eq_true Zc; obtain ⟨ad843, e843, hx843_0⟩ := Kd.at_int (Zad HR842_0) 0 p843 q843
                              cases e843
                              have qi843 : (0 < (rd_L5 t820 x16_6).length) = True := eq_true (by omega)
                              (try rw [show ((0 : Int)).toNat = 0 from rfl] at hx843_0)
                              (try rw [Addr.add_zero'] at hx843_0)
                              replace p843 := eq_true p843; replace q843 := eq_true q843; have p844 : 0 ≤ (x15_4 : Int) := of_decide_eq_true Zc; have q844 : x15_4 < (t811.length : Int) := of_decide_eq_true Zc; obtain ⟨ad844, A844_0, c844_0, e844, hx844_0, hl844_0, hi844_0⟩ := at_L5 (Kd.N_reads' HO_5.out).2.2 x15_4 p844 q844
                              cases e844
                              obtain ⟨ce844, hce844, hMe844, hcc844⟩ := Kd.N_get HO_5.out [] x15_4 p844 (by first | exact q844 | exact of_decide_eq_true Zc | (have e_ := (Kd.N_reads' HO_5.out).1; omega)); obtain ⟨ua844_0, uc844_0, rfl, ul844_0, ge844_0⟩ := Kd.FK_slice_open hMe844; have hv844_0 := hcc844 0 _ rfl; rw [Nat.add_zero, show ((Kd.slice 2 (Kd.int .i64))).sz = 1 from rfl, Nat.mul_one] at hv844_0; replace hv844_0 := Option.some.inj (hv844_0.symm.trans hx844_0); injection hv844_0 with hva_ hvn_ hvc_; rw [hva_] at ge844_0; rw [hvc_] at ul844_0; have HL844_0 := am_ (show Kd.V (Kd.int .i64) 2 _ w.heap.size _ _ (rd_L5 t811 x15_4) from Kd.V_mk ul844_0 ge844_0); clear hva_ hvn_ hvc_ ge844_0 ul844_0; clear hcc844 hce844; have HR844_0 := am_ hi844_0; have HC844_0 := am_ hl844_0; clear hi844_0 hl844_0; replace p844 := eq_true p844; replace q844 := eq_true q844; have p845 : 0 ≤ (1 : Int) := (by omega); have q845 : 1 < ((rd_L5 t811 x15_4).length : Int) := of_decide_eq_true Zc; obtain ⟨ad845, e845, hx845_0⟩ := Kd.at_int (Zad HR844_0) 1 p845 q845
                              cases e845
                              (try simp only [show (1 : Int).toNat = 1 from rfl, Nat.reduceMul, Nat.reduceEqDiff, Go.Addr.add, ↓reduceIte] at hx845_0)
                              have qi845 : (1 < (rd_L5 t811 x15_4).length) = True := eq_true (by omega)
                              (try rw [show ((1 : Int)).toNat = 1 from rfl] at hx845_0)
                              replace p845 := eq_true p845; replace q845 := eq_true q845; have p846 : 0 ≤ (x15_4 : Int) := of_decide_eq_true Zc; have q846 : x15_4 < (t811.length : Int) := of_decide_eq_true Zc; obtain ⟨ad846, A846_0, c846_0, e846, hx846_0, hl846_0, hi846_0⟩ := at_L5 (Kd.N_reads' HO_5.out).2.2 x15_4 p846 q846; obtain rfl : ad844 = ad846 := (by injection e846); obtain ⟨ce846, hce846, hMe846, hcc846⟩ := Kd.N_get HO_5.out [] x15_4 p846 (by first | exact q846 | exact of_decide_eq_true Zc | (have e_ := (Kd.N_reads' HO_5.out).1; omega)); obtain ⟨ua846_0, uc846_0, rfl, ul846_0, ge846_0⟩ := Kd.FK_slice_open hMe846; have hv846_0 := hcc846 0 _ rfl; rw [Nat.add_zero, show ((Kd.slice 2 (Kd.int .i64))).sz = 1 from rfl, Nat.mul_one] at hv846_0; replace hv846_0 := Option.some.inj (hv846_0.symm.trans hx846_0); injection hv846_0 with hva_ hvn_ hvc_; rw [hva_] at ge846_0; rw [hvc_] at ul846_0; have HL846_0 := am_ (show Kd.V (Kd.int .i64) 2 _ w.heap.size _ _ (rd_L5 t811 x15_4) from Kd.V_mk ul846_0 ge846_0); clear hva_ hvn_ hvc_ ge846_0 ul846_0; clear hcc846 hce846; have HR846_0 := am_ hi846_0; have HC846_0 := am_ hl846_0; clear hi846_0 hl846_0; replace p846 := eq_true p846; replace q846 := eq_true q846; have ea_ := Option.some.inj (hx844_0.symm.trans hx846_0); injection ea_ with ea_ en_ ec_; subst ea_; subst ec_; clear en_; have p847 : 0 ≤ (0 : Int) := (by omega); have q847 : 0 < ((rd_L5 t811 x15_4).length : Int) := of_decide_eq_true Zc; obtain ⟨ad847, e847, hx847_0⟩ := Kd.at_int (Zad HR846_0) 0 p847 q847
                              cases e847
                              have qi847 : (0 < (rd_L5 t811 x15_4).length) = True := eq_true (by omega)
                              (try rw [show ((0 : Int)).toNat = 0 from rfl] at hx847_0)
                              (try rw [Addr.add_zero'] at hx847_0)
                              replace p847 := eq_true p847; replace q847 := eq_true q847; have p848 : 0 ≤ (x16_6 : Int) := of_decide_eq_true Zc; have q848 : x16_6 < (t820.length : Int) := of_decide_eq_true Zc; obtain ⟨ad848, A848_0, c848_0, e848, hx848_0, hl848_0, hi848_0⟩ := at_L5 (Kd.N_reads' HO_9.out).2.2 x16_6 p848 q848; obtain rfl : ad842 = ad848 := (by injection e848); obtain ⟨ce848, hce848, hMe848, hcc848⟩ := Kd.N_get HO_9.out [] x16_6 p848 (by first | exact q848 | exact of_decide_eq_true Zc | (have e_ := (Kd.N_reads' HO_9.out).1; omega)); obtain ⟨ua848_0, uc848_0, rfl, ul848_0, ge848_0⟩ := Kd.FK_slice_open hMe848; have hv848_0 := hcc848 0 _ rfl; rw [Nat.add_zero, show ((Kd.slice 2 (Kd.int .i64))).sz = 1 from rfl, Nat.mul_one] at hv848_0; replace hv848_0 := Option.some.inj (hv848_0.symm.trans hx848_0); injection hv848_0 with hva_ hvn_ hvc_; rw [hva_] at ge848_0; rw [hvc_] at ul848_0; have HL848_0 := am_ (show Kd.V (Kd.int .i64) 2 _ w.heap.size _ _ (rd_L5 t820 x16_6) from Kd.V_mk ul848_0 ge848_0); clear hva_ hvn_ hvc_ ge848_0 ul848_0; clear hcc848 hce848; have HR848_0 := am_ hi848_0; have HC848_0 := am_ hl848_0; clear hi848_0 hl848_0; replace p848 := eq_true p848; replace q848 := eq_true q848; have ea_ := Option.some.inj (hx842_0.symm.trans hx848_0); injection ea_ with ea_ en_ ec_; subst ea_; subst ec_; clear en_; have p849 : 0 ≤ (1 : Int) := (by omega); have q849 : 1 < ((rd_L5 t820 x16_6).length : Int) := of_decide_eq_true Zc; obtain ⟨ad849, e849, hx849_0⟩ := Kd.at_int (Zad HR848_0) 1 p849 q849
                              cases e849
                              (try simp only [show (1 : Int).toNat = 1 from rfl, Nat.reduceMul, Nat.reduceEqDiff, Go.Addr.add, ↓reduceIte] at hx849_0)
                              have qi849 : (1 < (rd_L5 t820 x16_6).length) = True := eq_true (by omega)
                              (try rw [show ((1 : Int)).toNat = 1 from rfl] at hx849_0)
                              replace p849 := eq_true p849; replace q849 := eq_true q849; refine start_ (n := 28) (S := fun w' => w'.cell? (ad842.add (x16_6).toNat) = some (.slice (some ad843) (rd_L5 t820 x16_6).length c842_0) ∧ w'.cell? ad843 = some (.int .i64 (rd (rd_L5 t820 x16_6) 0)) ∧ w'.cell? (ad844.add (x15_4).toNat) = some (.slice (some ad845) (rd_L5 t811 x15_4).length c844_0) ∧ w'.cell? ⟨ad845.block, ad845.off + 1, none⟩ = some (.int .i64 (rd (rd_L5 t811 x15_4) 1)) ∧ w'.cell? (ad844.add (x15_4).toNat) = some (.slice (some ad845) (rd_L5 t811 x15_4).length c844_0) ∧ w'.cell? ad845 = some (.int .i64 (rd (rd_L5 t811 x15_4) 0)) ∧ w'.cell? (ad842.add (x16_6).toNat) = some (.slice (some ad843) (rd_L5 t820 x16_6).length c842_0) ∧ w'.cell? ⟨ad843.block, ad843.off + 1, none⟩ = some (.int .i64 (rd (rd_L5 t820 x16_6) 1))) (ds := []) (bT 28 0) Zi rfl rfl ⟨hx842_0, hx843_0, hx844_0, hx845_0, hx846_0, hx847_0, hx848_0, hx849_0⟩ (fun hHeld => ?_); refine with_tabW laws_FnDark.tab25 laws_FnDark.bits25 (fun HT_ HW_ => ?_); generalize wr.drew = w69 at HO_5 HO_9 HO_13 HO_811000 HO_811001 HO_811002 BK810 HB HL842_0 HL844_0 HL846_0 HL848_0 HR842_0 HR844_0 HR846_0 HR848_0 hx842_0 hx843_0 hx844_0 hx845_0 hx846_0 hx847_0 hx848_0 hx849_0 hHeld ⊢; refine pureZ HT_ 0 (some 129) (bT 28 1) ?_; refine pureZ HT_ 1 (some 130) (bT 28 2) ?_; refine pureZ HT_ 2 (some 131) (bT 28 3) ?_; refine pureZ HT_ 6 (some 135) (bB 28 71) ?_; refine pureZ HT_ 7 (some 136) (bB 28 199) ?_; refine pureZ HT_ 8 (some 137) (bB 28 455) ?_; refine takeZ8 HT_ HW_ 3 (some 132) (bB 28 463) hHeld ?_; refine pureZ HT_ 4 (some 133) (bB 28 479) ?_; refine takeZ8 HT_ HW_ 5 (some 134) (bT 28 9) hHeld ?_; refine takeZ8 HT_ HW_ 9 (some 138) (bT 28 10) hHeld ?_; refine pureZ HT_ 10 (some 139) (bT 28 11) ?_; refine takeZ8 HT_ HW_ 11 (some 140) (bT 28 12) hHeld ?_; refine pureZ HT_ 12 (some 141) (bT 28 13) ?_; refine pureZ HT_ 13 (some 142) (bT 28 14) ?_; refine pureZ HT_ 14 (some 143) (bT 28 15) ?_; refine pureZ HT_ 15 (some 144) (bT 28 16) ?_; refine pureZ HT_ 16 (some 145) (bT 28 17) ?_; refine pureZ HT_ 20 (some 149) (bB 28 1179647) ?_; refine pureZ HT_ 21 (some 150) (bB 28 3276799) ?_; refine pureZ HT_ 22 (some 151) (bB 28 7471103) ?_; refine takeZ8 HT_ HW_ 17 (some 146) (bB 28 7602175) hHeld ?_; refine pureZ HT_ 18 (some 147) (bB 28 7864319) ?_; refine takeZ8 HT_ HW_ 19 (some 148) (bT 28 23) hHeld ?_; refine takeZ8 HT_ HW_ 23 (some 152) (bT 28 24) hHeld ?_; refine pureZ HT_ 24 (some 153) (bT 28 25) ?_; refine takeZ8 HT_ HW_ 25 (some 154) (bT 28 26) hHeld ?_; refine pureZ HT_ 26 (some 155) (bT 28 27) ?_; refine pureZ HT_ 27 (some 156) (bT 28 28) ?_; refine done_ (done_of HT_.out Zi) ?_
                              try go_wp2
                              go_roundg k6
                              case measure => have := HJ6.out; have := HJ24.out; have := HJ35.out; have := HK4.out; have := HJ44.out; have := HK6.out; omega
                              case rel => exact ⟨(wrap64 (x16_6 + 1)), Za, H', ⟨Zdo⟩, ⟨(Zaa HO_5)⟩, ⟨(Zaa HO_9)⟩, ⟨(Zaa HO_13)⟩, ⟨(Zr HO_811000)⟩, ⟨(Zr HO_811001)⟩, ⟨(Zr HO_811002)⟩, ⟨(Zq BK810)⟩, ⟨(Zh GE810)⟩⟩
                            ·exact nN c64 H
                           ·exact nN c63 H
                          ·rw [if_neg c62] at H
                           have c62b0 := decide_eq_false c62; clear c62; have H' := am_ H; clear H; obtain ⟨Ao70, co70, eo70⟩ := Kd.N_slice HO_9.out; subst eo70
                           try go_wp2
                           replace HO_5 := am_ (Kd.N_drew HO_5.out); replace HO_9 := am_ (Kd.N_drew HO_9.out); replace HO_13 := am_ (Kd.N_drew HO_13.out); replace HO_811000 := am_ (Kd.R_drew HO_811000.out); replace HO_811001 := am_ (Kd.R_drew HO_811001.out); replace HO_811002 := am_ (Kd.R_drew HO_811002.out); replace BK810 := am_ (blk_drew BK810.out); replace HB := am_ (below_drew1 HB.out); have p842 : 0 ≤ (x16_6 : Int) := of_decide_eq_true Zc; have q842 : x16_6 < (t820.length : Int) := of_decide_eq_true Zc; obtain ⟨ad842, A842_0, c842_0, e842, hx842_0, hl842_0, hi842_0⟩ := at_L5 (Kd.N_reads' HO_9.out).2.2 x16_6 p842 q842
                           cases e842
                           obtain ⟨ce842, hce842, hMe842, hcc842⟩ := Kd.N_get HO_9.out [] x16_6 p842 (by first | exact q842 | exact of_decide_eq_true Zc | (have e_ := (Kd.N_reads' HO_9.out).1; omega)); obtain ⟨ua842_0, uc842_0, rfl, ul842_0, ge842_0⟩ := Kd.FK_slice_open hMe842; have hv842_0 := hcc842 0 _ rfl; rw [Nat.add_zero, show ((Kd.slice 2 (Kd.int .i64))).sz = 1 from rfl, Nat.mul_one] at hv842_0; replace hv842_0 := Option.some.inj (hv842_0.symm.trans hx842_0); injection hv842_0 with hva_ hvn_ hvc_; rw [hva_] at ge842_0; rw [hvc_] at ul842_0; have HL842_0 := am_ (show Kd.V (Kd.int .i64) 2 _ w.heap.size _ _ (rd_L5 t820 x16_6) from Kd.V_mk ul842_0 ge842_0); clear hva_ hvn_ hvc_ ge842_0 ul842_0; clear hcc842 hce842; have HR842_0 := am_ hi842_0; have HC842_0 := am_ hl842_0; clear hi842_0 hl842_0; replace p842 := eq_true p842; replace q842 := eq_true q842; have p843 : 0 ≤ (0 : Int) := (by omega); have q843 : 0 < ((rd_L5 t820 x16_6).length : Int) := of_decide_eq_true Zc; obtain ⟨ad843, e843, hx843_0⟩ := Kd.at_int (Zad HR842_0) 0 p843 q843
                           cases e843
                           have qi843 : (0 < (rd_L5 t820 x16_6).length) = True := eq_true (by omega)
                           (try rw [show ((0 : Int)).toNat = 0 from rfl] at hx843_0)
                           (try rw [Addr.add_zero'] at hx843_0)
                           replace p843 := eq_true p843; replace q843 := eq_true q843; have p844 : 0 ≤ (x15_4 : Int) := of_decide_eq_true Zc; have q844 : x15_4 < (t811.length : Int) := of_decide_eq_true Zc; obtain ⟨ad844, A844_0, c844_0, e844, hx844_0, hl844_0, hi844_0⟩ := at_L5 (Kd.N_reads' HO_5.out).2.2 x15_4 p844 q844
                           cases e844
                           obtain ⟨ce844, hce844, hMe844, hcc844⟩ := Kd.N_get HO_5.out [] x15_4 p844 (by first | exact q844 | exact of_decide_eq_true Zc | (have e_ := (Kd.N_reads' HO_5.out).1; omega)); obtain ⟨ua844_0, uc844_0, rfl, ul844_0, ge844_0⟩ := Kd.FK_slice_open hMe844; have hv844_0 := hcc844 0 _ rfl; rw [Nat.add_zero, show ((Kd.slice 2 (Kd.int .i64))).sz = 1 from rfl, Nat.mul_one] at hv844_0; replace hv844_0 := Option.some.inj (hv844_0.symm.trans hx844_0); injection hv844_0 with hva_ hvn_ hvc_; rw [hva_] at ge844_0; rw [hvc_] at ul844_0; have HL844_0 := am_ (show Kd.V (Kd.int .i64) 2 _ w.heap.size _ _ (rd_L5 t811 x15_4) from Kd.V_mk ul844_0 ge844_0); clear hva_ hvn_ hvc_ ge844_0 ul844_0; clear hcc844 hce844; have HR844_0 := am_ hi844_0; have HC844_0 := am_ hl844_0; clear hi844_0 hl844_0; replace p844 := eq_true p844; replace q844 := eq_true q844; have p845 : 0 ≤ (1 : Int) := (by omega); have q845 : 1 < ((rd_L5 t811 x15_4).length : Int) := of_decide_eq_true Zc; obtain ⟨ad845, e845, hx845_0⟩ := Kd.at_int (Zad HR844_0) 1 p845 q845
                           cases e845
                           (try simp only [show (1 : Int).toNat = 1 from rfl, Nat.reduceMul, Nat.reduceEqDiff, Go.Addr.add, ↓reduceIte] at hx845_0)
                           have qi845 : (1 < (rd_L5 t811 x15_4).length) = True := eq_true (by omega)
                           (try rw [show ((1 : Int)).toNat = 1 from rfl] at hx845_0)
                           replace p845 := eq_true p845; replace q845 := eq_true q845; refine start_ (n := 28) (S := fun w' => w'.cell? (ad842.add (x16_6).toNat) = some (.slice (some ad843) (rd_L5 t820 x16_6).length c842_0) ∧ w'.cell? ad843 = some (.int .i64 (rd (rd_L5 t820 x16_6) 0)) ∧ w'.cell? (ad844.add (x15_4).toNat) = some (.slice (some ad845) (rd_L5 t811 x15_4).length c844_0) ∧ w'.cell? ⟨ad845.block, ad845.off + 1, none⟩ = some (.int .i64 (rd (rd_L5 t811 x15_4) 1))) (ds := []) (bT 28 0) Zi rfl rfl ⟨hx842_0, hx843_0, hx844_0, hx845_0⟩ (fun hHeld => ?_); refine with_tabW laws_FnDark.tab25 laws_FnDark.bits25 (fun HT_ HW_ => ?_); generalize wr.drew = w71 at HO_5 HO_9 HO_13 HO_811000 HO_811001 HO_811002 BK810 HB HL842_0 HL844_0 HR842_0 HR844_0 hx842_0 hx843_0 hx844_0 hx845_0 hHeld ⊢; refine pureZ HT_ 0 (some 129) (bT 28 1) ?_; refine pureZ HT_ 1 (some 130) (bT 28 2) ?_; refine pureZ HT_ 2 (some 131) (bT 28 3) ?_; refine pureZ HT_ 6 (some 135) (bB 28 71) ?_; refine pureZ HT_ 7 (some 136) (bB 28 199) ?_; refine pureZ HT_ 8 (some 137) (bB 28 455) ?_; refine takeZ4 HT_ HW_ 3 (some 132) (bB 28 463) hHeld ?_; refine pureZ HT_ 4 (some 133) (bB 28 479) ?_; refine takeZ4 HT_ HW_ 5 (some 134) (bT 28 9) hHeld ?_; refine takeZ4 HT_ HW_ 9 (some 138) (bT 28 10) hHeld ?_; refine pureZ HT_ 10 (some 139) (bT 28 11) ?_; refine takeZ4 HT_ HW_ 11 (some 140) (bT 28 12) hHeld ?_; refine pureZ HT_ 12 (some 141) (bT 28 13) ?_; refine pureZ HT_ 13 (some 142) (bT 28 14) ?_; refine pureU HT_ 14 (some 143) (bT 28 15) ?_; refine pureU HT_ 15 (some 144) (bT 28 16) ?_; refine pureU HT_ 16 (some 145) (bT 28 17) ?_; refine pureU HT_ 17 (some 146) (bT 28 18) ?_; refine pureU HT_ 18 (some 147) (bT 28 19) ?_; refine pureU HT_ 19 (some 148) (bT 28 20) ?_; refine pureU HT_ 20 (some 149) (bT 28 21) ?_; refine pureU HT_ 21 (some 150) (bT 28 22) ?_; refine pureU HT_ 22 (some 151) (bT 28 23) ?_; refine pureU HT_ 23 (some 152) (bT 28 24) ?_; refine pureU HT_ 24 (some 153) (bT 28 25) ?_; refine pureU HT_ 25 (some 154) (bT 28 26) ?_; refine pureU HT_ 26 (some 155) (bT 28 27) ?_; refine pureZ HT_ 27 (some 156) (bT 28 28) ?_; refine done_ (done_of HT_.out Zi) ?_
                           try go_wp2
                           go_roundg k6
                           case measure => have := HJ6.out; have := HJ24.out; have := HJ35.out; have := HK4.out; have := HJ44.out; have := HK6.out; omega
                           case rel => exact ⟨(wrap64 (x16_6 + 1)), Za, H', ⟨Zdo⟩, ⟨(Zaa HO_5)⟩, ⟨(Zaa HO_9)⟩, ⟨(Zaa HO_13)⟩, ⟨(Zr HO_811000)⟩, ⟨(Zr HO_811001)⟩, ⟨(Zr HO_811002)⟩, ⟨(Zq BK810)⟩, ⟨(Zh GE810)⟩⟩
                         ·exact nN c61 H
                        ·exact nN c60 H
                       ·exact nN c59 H
                      ·exact nN c58 H
                     ·exact nN c57 H
                    ·rw [if_neg c56] at H
                     have c56b0 := decide_eq_false c56; clear c56; have H' := am_ H; clear H; obtain ⟨Ao72, co72, eo72⟩ := Kd.N_slice HO_9.out; subst eo72
                     go_wp2
                     go_roundg k6
                     case measure => have := HJ6.out; have := HJ24.out; have := HJ35.out; have := HK4.out; have := HJ44.out; have := HK6.out; omega
                     case rel => exact ⟨(wrap64 (x15_4 + 1)), Za, H', ⟨Zdo⟩, ⟨(Zaa HO_5)⟩, ⟨(Zaa HO_9)⟩, ⟨(Zaa HO_13)⟩, ⟨(Zr HO_811000)⟩, ⟨(Zr HO_811001)⟩, ⟨(Zr HO_811002)⟩, ⟨(Zq BK810)⟩, ⟨(Zh GE810)⟩⟩
              ·rw [if_neg c44] at H
               have c44b0 := decide_eq_false c44; clear c44; obtain rfl := Option.some.inj H; obtain ⟨Ao73, co73, eo73⟩ := Kd.N_slice HO_5.out; subst eo73
               go_wp2
               go_ret
               exact ⟨Zg, (Zh GE810)⟩
     ·rw [if_neg c22] at H
      have c22b0 := beq_eq_false_iff_ne.mpr c22; have c22b1 := bne_iff_ne.mpr c22; obtain rfl := Option.some.inj H
      go_wp2
      go_ret
      exact ⟨Zg, (Zh GE810)⟩
def laws_FnDark.Pure : Prop := ∀ (l0 : List Int), l0.length ≤ maxLen → l0.length * 1 ≤ 140737488351232 → (∀ x ∈ l0, (Lit.int .u8 x).wf = true) → ∃ k, laws_FnDark.f k l0 = some true
theorem laws_FnDark.walk (P : laws_FnDark.Pure) (a0 : Option Addr) (len0 cap0 : Nat) (z0 : List Int) (w : World) (w0 : (a0 = none ∧ len0 = 0 ∧ cap0 = 0 ∧ z0 = []) ∨ ∃ x, a0 = some x ∧ len0 ≤ cap0 ∧ cap0 ≤ maxLen ∧ z0.length = cap0 ∧ (∀ i, i < z0.length → w.cell? (x.add i) = some (.int .u8 (z0.getD i 0))) ∧ ∀ n ∈ z0, (Lit.int .u8 n).wf = true) (y0 : len0 * 1 ≤ 140737488351232) :
  Calls Try.prog 4 #[.slice a0 len0 cap0] w fun e w' => e = .returned (.bool true) ∧ Below w.heap.size w w' := by
 obtain ⟨l0, rfl, hr0, hm0, hw0, hc0⟩ := ReadsInt.ofRowC w0; obtain ⟨k, h⟩ := P l0 hm0 y0 hw0; refine (laws_FnDark.calls k _ _ l0 true w (Kd.C_of_reads (d := (0 : Int)) (h1 := fun _ => rfl) hr0) hc0 h rfl).mono ?_; rintro e w' ⟨rfl, hd⟩; exact ⟨rfl, hd⟩
end Go.Proofs.Ytnifblnlpepehaa.F
namespace Go.Proofs.Ytnifblnlpepehaa.F
open Go.RowKit Go.Proofs.YtnifblnlpepehaaW.PrintWords Go.Proofs.YtnifblnlpepehaaW.PrintLast Go.Proofs.YtnifblnlpepehaaW.PrintMore
set_option linter.unusedVariables false
set_option linter.unusedSimpArgs false
set_option maxHeartbeats 8000000
set_option maxRecDepth 100000
open Go.ChangeShapes
section
variable {α : Type} {d : Kd α} {t : Nat} {w w0 w1 : World} {base lo hi : Nat} {v : Value} {xs : List α}
end
section
variable {α : Type} {d : Kd α} {t : Nat} {w w0 w1 : World} {base lo hi : Nat} {v : Value} {xs : List α}
end
section
variable {α β γ : Type} {d : Kd α} {d1 : Kd β} {d2 : Kd γ} {t t1 t2 : Nat} {w w0 w1 : World} {base lo hi : Nat} {v v1 v2 : Value} {xs : List α} {ys : List β} {zs : List γ}
end
end Go.Proofs.Ytnifblnlpepehaa.F
namespace Go.Proofs.Ytnifblnlpepehaa.F
open Go.RowKit Go.Proofs.YtnifblnlpepehaaW.PrintWords Go.Proofs.YtnifblnlpepehaaW.PrintLast Go.Proofs.YtnifblnlpepehaaW.PrintMore
attribute [local go_sem] max2_int min2_int max_two min_two max_three min_three max_four min_four
set_option linter.unusedVariables false
set_option linter.unusedSimpArgs false
set_option maxHeartbeats 8000000
set_option maxRecDepth 100000
end Go.Proofs.Ytnifblnlpepehaa.F
namespace Go.Proofs.Ytnifblnlpepehaa.F
open Go.RowKit Go.Proofs.YtnifblnlpepehaaW.PrintWords Go.Proofs.YtnifblnlpepehaaW.PrintLast Go.Proofs.YtnifblnlpepehaaW.PrintMore
set_option linter.unusedVariables false
set_option linter.unusedSimpArgs false
set_option maxHeartbeats 8000000
set_option maxRecDepth 100000
def Evt (P : Nat → Prop) : Prop := ∃ K, ∀ k, K ≤ k → P k
theorem Evt.mono {P Q : Nat → Prop} (h : Evt P) (hq : ∀ k, P k → Q k) : Evt Q := by
 obtain ⟨K, h⟩ := h; exact ⟨K, fun k hk => hq k (h k hk)⟩
theorem Evt.of {P : Nat → Prop} (h : ∀ k, P k) : Evt P := ⟨0, fun k _ => h k⟩
theorem Evt.succ {P : Nat → Prop} (h : Evt (fun k => P (k + 1))) : Evt P := by
 obtain ⟨K, h⟩ := h; refine ⟨K + 1, fun k hk => ?_⟩; obtain ⟨m, rfl⟩ : ∃ m, k = m + 1 := ⟨k - 1, by omega⟩; exact h m (by omega)
theorem w64 {n : Int} (h : -9223372036854775808 ≤ n ∧ n ≤ 9223372036854775807) : wrap64 n = n := by unfold wrap64; omega
def allF (p : Nat → Bool) : Nat → Nat → Bool
 | _, 0 => true
 | i, d + 1 => p i && allF p (i + 1) d
theorem allF_true {p : Nat → Bool} : ∀ (d i : Nat), allF p i d = true ↔ ∀ j, i ≤ j → j < i + d → p j = true
 | 0, i => by simp [allF]; intro j h1 h2; omega
 | d + 1, i => by
  unfold allF
  rw [Bool.and_eq_true, allF_true d (i + 1)]; constructor
  ·rintro ⟨h1, h2⟩ j h3 h4
   rcases Nat.eq_or_lt_of_le h3 with e | e
   ·exact e ▸ h1
   ·exact h2 j e (by omega)
  ·exact fun h => ⟨h i (Nat.le_refl _) (by omega), fun j h1 h2 => h j (by omega) (by omega)⟩
theorem all_loopF {f : Nat → Nat → Option Bool} {p : Nat → Bool} {e : Bool} (a n : Nat) (hs : ∀ k i, a ≤ i → i < n → f (k + 1) i = if p i = true then f k (i + 1) else some false) (he : ∀ k, f (k + 1) n = some e) :
  ∀ d k i, a ≤ i → n - i = d → i ≤ n → d < k → f k i = some (allF p i d && e) := by
 intro d
 induction d with
 | zero =>
  intro k i ha hd hi hk; obtain ⟨k, rfl⟩ : ∃ m, k = m + 1 := ⟨k - 1, by omega⟩
  have : i = n := by omega
  subst this; rw [he]
  rfl
 | succ d ih =>
  intro k i ha hd hi hk; obtain ⟨k, rfl⟩ : ∃ m, k = m + 1 := ⟨k - 1, by omega⟩; rw [hs k i ha (by omega)]
  unfold allF
  by_cases hp : p i = true
  ·rw [if_pos hp, ih k (i + 1) (by omega) (by omega) (by omega) (by omega), hp, Bool.true_and]
  ·rw [if_neg hp]
   replace hp := Bool.eq_false_iff.mpr hp; rw [hp, Bool.false_and, Bool.false_and]
theorem all_loop {f : Nat → Nat → Option Bool} {p : Nat → Bool} {e : Bool} (n : Nat) (hs : ∀ k i, i < n → f (k + 1) i = if p i = true then f k (i + 1) else some false) (he : ∀ k, f (k + 1) n = some e) :
  ∀ d k i, n - i = d → i ≤ n → d < k → f k i = some (allF p i d && e) := fun d k i => all_loopF 0 n (fun k i _ h => hs k i h) he d k i (Nat.zero_le _)
def foldF {σ : Type} (step : Nat → σ → σ) : Nat → Nat → σ → σ
 | _, 0, s => s
 | i, d + 1, s => foldF step (i + 1) d (step i s)
theorem foldF_snoc {σ : Type} (f : Nat → σ → σ) : ∀ (d i : Nat) (s : σ), foldF f i (d + 1) s = f (i + d) (foldF f i d s)
 | 0, i, s => rfl
 | d + 1, i, s => by
  have h := foldF_snoc f d (i + 1) (f i s); rw [show i + 1 + d = i + (d + 1) by omega] at h; exact h
theorem fold_loop {σ β : Type} {f : Nat → Nat → σ → Option β} {step : Nat → σ → σ} {I : Nat → σ → Prop} {e : σ → Option β} (n : Nat) (hs : ∀ k i s, i < n → I i s → f (k + 1) i s = f k (i + 1) (step i s)) (hI : ∀ i s, i < n → I i s → I (i + 1) (step i s)) (he : ∀ k s, I n s → f (k + 1) n s = e s) :
  ∀ d k i s, n - i = d → i ≤ n → I i s → d < k → f k i s = e (foldF step i d s) := by
 intro d
 induction d with
 | zero =>
  intro k i s hd hi h0 hk; obtain ⟨k, rfl⟩ : ∃ m, k = m + 1 := ⟨k - 1, by omega⟩
  have : i = n := by omega
  subst this; exact he k s h0
 | succ d ih =>
  intro k i s hd hi h0 hk; obtain ⟨k, rfl⟩ : ∃ m, k = m + 1 := ⟨k - 1, by omega⟩; rw [hs k i s (by omega) h0]; exact ih k (i + 1) _ (by omega) (by omega) (hI i s (by omega) h0) (by omega)
def inB (n lo hi : Int) : Bool := decide (lo ≤ n ∧ n ≤ hi)
theorem inB_true {n lo hi : Int} : inB n lo hi = true ↔ lo ≤ n ∧ n ≤ hi := by unfold inB; exact decide_eq_true_iff
theorem inB_false {n lo hi : Int} : inB n lo hi = false ↔ ¬ (lo ≤ n ∧ n ≤ hi) := by unfold inB; exact decide_eq_false_iff_not
theorem getD_take {α : Type} (xs : List α) (z : α) (n i : Nat) (h : i < n) : (xs.take n).getD i z = xs.getD i z := by
 rw [List.getD_eq_getElem?_getD, List.getD_eq_getElem?_getD, List.getElem?_take, if_pos h]
def Code (c : List Int) : Prop := c.length ≤ 4096 ∧ ∀ x ∈ c, 0 ≤ x ∧ x ≤ 255
def St (c : List Int) (a s : Int) : Prop := 0 ≤ a ∧ a ≤ (c.length : Int) ∧ 0 ≤ s ∧ s < 2147483647
theorem rd_code {c : List Int} (hc : Code c) (i : Int) : 0 ≤ rd c i ∧ rd c i ≤ 255 := by
 unfold rd
 rw [List.getD_eq_getElem?_getD]
 cases h : c[i.toNat]? with
 | none => exact ⟨Int.le_refl _, by decide⟩
 | some x => exact hc.2 x (List.mem_of_getElem? h)
theorem tmod_nn {a b : Int} (ha : 0 ≤ a) (hb : 0 < b) : 0 ≤ Int.tmod a b ∧ Int.tmod a b < b := by
 rw [Int.tmod_eq_emod_of_nonneg ha]; exact ⟨Int.emod_nonneg _ (by omega), Int.emod_lt_of_pos _ hb⟩
theorem next_ok {c : List Int} (hc : Code c) {a s : Int} (h : St c a s) (n : Int) (hn : n ≤ 4611686018427387904) : ∃ r a' s', spec_l01Next.f c a s n = some (r, a', s') ∧ St c a' s' ∧ 0 ≤ r ∧ (r < n ∨ (n ≤ 1 ∧ r = 0)) := by
 obtain ⟨h1, h2, h3, h4⟩ := h; have hl := hc.1
 unfold spec_l01Next.f
 by_cases c1 : n ≤ 1
 ·rw [if_pos c1]
  exact ⟨0, a, s, rfl, ⟨h1, h2, h3, h4⟩, Int.le_refl _, .inr ⟨c1, rfl⟩⟩
 ·have hs := tmod_nn (a := s * 48271 + 29) (b := 2147483647) (by omega) (by omega)
  rw [if_neg c1, w64 (n := s * 48271) (by omega), w64 (n := s * 48271 + 29) (by omega)]; generalize Int.tmod (s * 48271 + 29) 2147483647 = z at hs ⊢; have hd : Int.tdiv z 31 = z / 31 := Int.tdiv_eq_ediv_of_nonneg hs.1; rw [hd]
  have n0 : ¬ n = 0 := by omega
  by_cases c2 : a < (c.length : Int)
  ·have hr := rd_code hc a
   have p := tmod_nn (a := z / 31 + rd c a) (b := n) (by omega) (by omega); have q := tmod_nn (a := rd c a) (b := n) (by omega) (by omega); simp only [if_neg n0]; rw [if_pos c2, if_pos h1, w64 (n := a + 1) (by omega), w64 (n := z / 31) (by omega), w64 (n := rd c a) (by omega), w64 (n := z / 31 + rd c a) (by omega), w64 (n := a + 1 - 1) (by omega), show a + 1 - 1 = a by omega, w64 (n := rd c a) (by omega)]
   by_cases c3 : n ≤ 256
   ·rw [if_pos c3]
    by_cases c4 : Int.tmod (a + 1) 2 = 0
    ·rw [if_pos c4, if_pos h1, if_pos c2]
     exact ⟨_, _, _, rfl, ⟨by omega, by omega, hs.1, hs.2⟩, q.1, .inl q.2⟩
    ·rw [if_neg c4]
     exact ⟨_, _, _, rfl, ⟨by omega, by omega, hs.1, hs.2⟩, p.1, .inl p.2⟩
   ·rw [if_neg c3]
    exact ⟨_, _, _, rfl, ⟨by omega, by omega, hs.1, hs.2⟩, p.1, .inl p.2⟩
  ·have p := tmod_nn (a := z / 31) (b := n) (by omega) (by omega)
   simp only [if_neg n0]; rw [if_neg c2, w64 (n := z / 31) (by omega)]; exact ⟨_, _, _, rfl, ⟨h1, h2, hs.1, hs.2⟩, p.1, .inl p.2⟩
theorem pick_ok {c : List Int} (hc : Code c) {a s : Int} (h : St c a s) (l : List Int) (hl : 0 < l.length) (hl2 : l.length ≤ 1000) : ∃ r a' s', spec_l01Pick.f c a s l = some (r, a', s') ∧ St c a' s' ∧ r ∈ l := by
 obtain ⟨r, a', s', e, h', h0, h1⟩ := next_ok hc h (l.length : Int) (by omega); refine ⟨rd l r, a', s', ?_, h', ?_⟩
 ·unfold spec_l01Pick.f
  rw [e]; simp only [Option.bind_some]; rw [if_pos h0, if_pos (by omega)]
 ·have hr : r.toNat < l.length := by omega
  unfold rd
  rw [List.getD_eq_getElem?_getD, List.getElem?_eq_getElem hr]; exact List.getElem_mem hr
theorem from_ok {c : List Int} (hc : Code c) : ∃ s, (∀ k, 70 ≤ k → spec_l01From.f k c = some (c, 0, s)) ∧ St c 0 s := by
 have loop : ∀ (d : Nat) (i s : Int), 0 ≤ i → i ≤ 64 → 64 - i ≤ d → 0 ≤ s → s < 2147483647 → ∃ s', (∀ k, d < k → spec_l01From.l0 k c i c 0 s = some (c, 0, s')) ∧ St c 0 s' := by
  intro d
  induction d with
  | zero =>
   intro i s h1 h2 h3 h4 h5; refine ⟨s, fun k hk => ?_, by omega, by omega, h4, h5⟩; obtain ⟨k, rfl⟩ : ∃ m, k = m + 1 := ⟨k - 1, by omega⟩; simp only [spec_l01From.l0]; rw [if_neg (show ¬ i < 64 by omega)]
   split <;> rfl
  | succ d ih =>
   intro i s h1 h2 h3 h4 h5
   by_cases c1 : i < (c.length : Int) ∧ i < 64
   ·have hr := rd_code hc i
    have hm := tmod_nn (a := s * 83 + rd c i) (b := 2147483647) (by omega) (by omega); obtain ⟨s', e, hs⟩ := ih (i + 1) (Int.tmod (s * 83 + rd c i) 2147483647) (by omega) (by omega) (by omega) hm.1 hm.2; refine ⟨s', fun k hk => ?_, hs⟩; obtain ⟨k, rfl⟩ : ∃ m, k = m + 1 := ⟨k - 1, by omega⟩; simp only [spec_l01From.l0]; rw [if_pos c1.1, if_pos c1.2, if_pos h1, w64 (n := i + 1) (by omega), w64 (n := s * 83) (by omega), w64 (n := rd c i) (by omega), w64 (n := s * 83 + rd c i) (by omega)]; exact e k (by omega)
   ·refine ⟨s, fun k hk => ?_, by omega, by omega, h4, h5⟩
    obtain ⟨k, rfl⟩ : ∃ m, k = m + 1 := ⟨k - 1, by omega⟩; simp only [spec_l01From.l0]
    by_cases c2 : i < (c.length : Int)
    ·rw [if_pos c2, if_neg (fun x => c1 ⟨c2, x⟩)]
    ·rw [if_neg c2]
 obtain ⟨s', e, hs⟩ := loop 64 0 61043 (by omega) (by omega) (by omega) (by omega) (by omega); exact ⟨s', fun k hk => e k (by omega), hs⟩
theorem code_of {l : List Int} (h : ¬ (l.length : Int) > 4096) (hb : ∀ x ∈ l, (Go.Lit.int .u8 x).wf = true) : Code l := ⟨by omega, fun x hx => by
 have h := hb x hx
 simp [Go.Lit.wf, Go.IntKind.min, Go.IntKind.max, Go.IntKind.signed, Go.IntKind.bits] at h
 omega⟩
theorem good_art {c : List Int} (hc : Code c) {a s : Int} (h : St c a s) (nm : ByteArray) : ∃ q2 q3 q4 q5 q6 q7 q8 q9 a' s', spec_l03Good.f c a s nm = some (nm, q2, q3, q4, q5, q6, q7, q8, q9, a', s') ∧ St c a' s' := by
 obtain ⟨r1, a1, s1, e1, h1, _⟩ := next_ok hc h 4 (by decide); obtain ⟨r2, a2, s2, e2, h2, _⟩ := next_ok hc h1 281 (by decide); obtain ⟨r3, a3, s3, e3, h3, _⟩ := pick_ok hc h2 [50, 75, 100, 150, wrap64 (20 + r2)] (by simp) (by simp); obtain ⟨r4, a4, s4, e4, h4, _⟩ := next_ok hc h3 5000 (by decide); obtain ⟨r5, a5, s5, e5, h5, _⟩ := next_ok hc h4 300 (by decide); obtain ⟨r6, a6, s6, e6, h6, _⟩ := next_ok hc h5 2000 (by decide); obtain ⟨r7, a7, s7, e7, h7, _⟩ := next_ok hc h6 4 (by decide); obtain ⟨r8, a8, s8, e8, h8, _⟩ := next_ok hc h7 8 (by decide); obtain ⟨r9, a9, s9, e9, h9, _⟩ := next_ok hc h8 2000 (by decide)
 unfold spec_l03Good.f
 rw [e1, Option.bind_some]; dsimp only; rw [e2, Option.bind_some]; dsimp only; rw [e3, Option.bind_some]; dsimp only; rw [e4, Option.bind_some]; dsimp only; rw [e5, Option.bind_some]; dsimp only; rw [e6, Option.bind_some]; dsimp only; rw [e7, Option.bind_some]; dsimp only
 by_cases g : r1 = 1
 ·rw [if_pos g, e8, Option.bind_some]; dsimp only
  rw [e9, Option.bind_some]; dsimp only
  by_cases g2 : r1 = 2
  ·rw [if_pos g2]; exact ⟨_, _, _, _, _, _, _, _, _, _, rfl, h9⟩
  ·rw [if_neg g2]; exact ⟨_, _, _, _, _, _, _, _, _, _, rfl, h9⟩
 ·rw [if_neg g]
  by_cases g2 : r1 = 2
  ·rw [if_pos g2]; exact ⟨_, _, _, _, _, _, _, _, _, _, rfl, h7⟩
  ·rw [if_neg g2]; exact ⟨_, _, _, _, _, _, _, _, _, _, rfl, h7⟩
theorem In_eq (n lo hi : Int) : spec_l01In.f n lo hi = some (inB n lo hi) := by
 unfold spec_l01In.f inB
 by_cases h : n ≥ lo
 ·rw [if_pos h]; congr 1; simp; omega
 ·rw [if_neg h]; congr 1; simp; omega
theorem Wi_eq (n lo hi : Int) : impl_within.f n lo hi = some (inB n lo hi) := by
 unfold impl_within.f inB
 by_cases h : lo ≤ n
 ·rw [if_pos h]; congr 1; simp; omega
 ·rw [if_neg h]; congr 1; simp; omega
theorem rd_nat (xs : List Int) (i : Nat) : rd xs (i : Int) = xs.getD i 0 := by unfold rd; rw [Int.toNat_natCast]
def bt_at (xs : List S87) (i : Nat) : Int := (xs.getD i z87).f0
def ln_at (xs : List S87) (i : Nat) : Int := (xs.getD i z87).f1
def barAt (xs : List S87) (i : Nat) : Bool := inB (bt_at xs i) 1 16 && inB (ln_at xs i) 100 5000
def isScore (xs : List S87) : Bool := allF (barAt xs) 0 xs.length && inB (xs.length : Int) 1 20
theorem rd_bar (xs : List S87) (i : Nat) : rd_T87 xs (i : Int) = xs.getD i z87 := by unfold rd_T87; rw [Int.toNat_natCast]
theorem spec_score (xs : List S87) (hx : xs.length ≤ 9223372036854775807) (k : Nat) (hk : xs.length < k) : spec_IsScore.f k xs = some (isScore xs) := by
 refine all_loop (f := fun k i => spec_IsScore.l0 k xs (i : Int)) xs.length (fun k i hi => ?_) (fun k => ?_) xs.length k 0 (by omega) (by omega) (by omega)
 ·show spec_IsScore.l0 (k + 1) xs i = _
  simp only [spec_IsScore.l0, In_eq, Option.bind_some]; rw [if_pos (by omega), if_pos (by omega), w64 (by omega), rd_bar]
  unfold barAt bt_at ln_at
  cases inB (xs.getD i z87).f0 1 16 <;> cases inB (xs.getD i z87).f1 100 5000 <;> rfl
 ·show spec_IsScore.l0 (k + 1) xs _ = _
  simp only [spec_IsScore.l0, In_eq, Option.bind_some]; rw [if_neg (by omega)]
theorem impl_score (xs : List S87) (hx : xs.length ≤ 9223372036854775807) (k : Nat) (hk : xs.length + 1 < k) : impl_IsScore.f k xs = some (isScore xs) := by
 obtain ⟨k, rfl⟩ : ∃ m, k = m + 1 := ⟨k - 1, by omega⟩
 unfold impl_IsScore.f isScore
 simp only [impl_IsScore.j0]
 by_cases h1 : (xs.length : Int) < 1
 ·rw [if_pos h1, if_pos trivial, inB_false.2 (by omega), Bool.and_false]
 ·rw [if_neg h1]
  by_cases h2 : (xs.length : Int) > 20
  ·rw [if_pos (decide_eq_true h2), inB_false.2 (by omega), Bool.and_false]
  ·rw [if_neg (by simpa using h2), inB_true.2 (by omega)]
   refine all_loop (f := fun k i => impl_IsScore.l0 k xs (xs.length : Int) (i : Int)) xs.length (fun k i hi => ?_) (fun k => ?_) xs.length k 0 (by omega) (by omega) (by omega)
   ·show impl_IsScore.l0 (k + 1) xs (xs.length : Int) i = _
    simp only [impl_IsScore.l0, Wi_eq, Option.bind_some]; rw [if_pos (by omega), if_pos (by omega), if_pos (by omega), w64 (by omega), rd_bar]
    unfold barAt bt_at ln_at
    cases inB (xs.getD i z87).f0 1 16 <;> cases inB (xs.getD i z87).f1 100 5000 <;> rfl
   ·show impl_IsScore.l0 (k + 1) xs (xs.length : Int) _ = _
    simp only [impl_IsScore.l0]; rw [if_neg (by omega)]
theorem isScore_true {xs : List S87} (h : isScore xs = true) : 1 ≤ xs.length ∧ xs.length ≤ 20 ∧ ∀ i, i < xs.length → 1 ≤ bt_at xs i ∧ bt_at xs i ≤ 16 ∧ 100 ≤ ln_at xs i ∧ ln_at xs i ≤ 5000 := by
 unfold isScore at h
 rw [Bool.and_eq_true, allF_true, inB_true] at h; refine ⟨by omega, by omega, fun i hi => ?_⟩; have := h.1 i (by omega) (by omega)
 unfold barAt at this
 rw [Bool.and_eq_true, inB_true, inB_true] at this
 omega
def tm (xs : List S87) (i : Nat) : Int := foldF (fun j s => s + bt_at xs j * ln_at xs j) 0 i 0
theorem tm_succ (xs : List S87) (i : Nat) : tm xs (i + 1) = tm xs i + bt_at xs i * ln_at xs i := by
 unfold tm
 rw [foldF_snoc, Nat.zero_add]
theorem prod_le {a b : Int} (h : 1 ≤ a ∧ a ≤ 16 ∧ 100 ≤ b ∧ b ≤ 5000) : 100 ≤ a * b ∧ a * b ≤ 80000 := by
 have h1 : 1 * b ≤ a * b := Int.mul_le_mul_of_nonneg_right h.1 (by omega); have h2 : a * b ≤ 16 * b := Int.mul_le_mul_of_nonneg_right h.2.1 (by omega)
 omega
theorem tm_le {xs : List S87} (h : isScore xs = true) : ∀ i, i ≤ xs.length → 0 ≤ tm xs i ∧ tm xs i ≤ 80000 * i
 | 0, _ => by unfold tm foldF; omega
 | i + 1, hi => by
  have h1 := tm_le h i (by omega); have h2 := prod_le ((isScore_true h).2.2 i (by omega)); rw [tm_succ]
  omega
def GoodBars (xs : List S87) : Prop := ∀ x ∈ xs, (2 ≤ x.f0 ∧ x.f0 ≤ 5) ∧ 400 ≤ x.f1 ∧ x.f1 ≤ 999
theorem score_good {c : List Int} (hc : Code c) {a s : Int} (h : St c a s) : ∃ xs a' s', (∀ k, 20 ≤ k → spec_l07Good.f k c a s = some (xs, a', s')) ∧ St c a' s' ∧ 1 ≤ xs.length ∧ xs.length ≤ 6 ∧ GoodBars xs := by
 have loop : ∀ (d : Nat) (n : Int) (xs : List S87) (a s : Int), n = d → GoodBars xs → xs.length + d ≤ 6 → St c a s → ∃ r a' s', (∀ k, d < k → spec_l07Good.l0 k xs n c a s = some (r, a', s')) ∧ St c a' s' ∧ r.length = xs.length + d ∧ GoodBars r := by
  intro d
  induction d with
  | zero =>
   intro n xs a s hn hg hl h; refine ⟨xs, a, s, fun k hk => ?_, h, rfl, hg⟩; obtain ⟨k, rfl⟩ : ∃ m, k = m + 1 := ⟨k - 1, by omega⟩; simp only [spec_l07Good.l0]; rw [if_neg (by omega)]
  | succ d ih =>
   intro n xs a s hn hg hl h; obtain ⟨r1, a1, s1, e1, h1, b1, c1⟩ := next_ok hc h 4 (by omega); obtain ⟨r2, a2, s2, e2, h2, b2, c2⟩ := next_ok hc h1 600 (by omega)
   obtain ⟨r, a', s', e, h', hr, hg'⟩ := ih (n - 1) (xs ++ [(⟨2 + r1, 400 + r2⟩ : S87)]) a2 s2 (by omega) (by
    intro x hx
    rcases List.mem_append.1 hx with y | y
    ·exact hg x y
    ·rw [List.mem_singleton.1 y]
     exact ⟨by show 2 ≤ 2 + r1 ∧ 2 + r1 ≤ 5; omega, by show 400 ≤ 400 + r2 ∧ 400 + r2 ≤ 999; omega⟩) (by rw [List.length_append]; show xs.length + 1 + d ≤ 6; omega) h2
   refine ⟨r, a', s', fun k hk => ?_, h', by rw [hr, List.length_append]; show xs.length + 1 + d = _; omega, hg'⟩; obtain ⟨k, rfl⟩ : ∃ m, k = m + 1 := ⟨k - 1, by omega⟩; simp only [spec_l07Good.l0]; rw [if_pos (by omega)]; simp only [e1, e2, Option.bind_some]; rw [if_pos (by omega), w64 (n := 2 + r1) (by omega), w64 (n := 400 + r2) (by omega), w64 (n := n - 1) (by omega)]; exact e k (by omega)
 obtain ⟨r1, a1, s1, e1, h1, b1, c1⟩ := next_ok hc h 6 (by omega); obtain ⟨r, a', s', e, h', hr, hg⟩ := loop (1 + r1).toNat (1 + r1) [] a1 s1 (by omega) (fun x hx => absurd hx (by simp)) (by show 0 + _ ≤ 6; omega) h1
 have hr' : r.length = (1 + r1).toNat := by rw [hr]; show 0 + _ = _; omega
 refine ⟨r, a', s', fun k hk => ?_, h', by omega, by omega, hg⟩
 unfold spec_l07Good.f
 rw [e1]; simp only [Option.bind_some]; rw [w64 (n := 1 + r1) (by omega)]; exact e k (by omega)
theorem score_draw {c : List Int} (hc : Code c) {a s : Int} (h : St c a s) : ∃ xs a' s', (∀ k, 60 ≤ k → spec_l07Draw.f k c a s = some (xs, a', s')) ∧ St c a' s' ∧ xs.length ≤ 30 := by
 have loop : ∀ (d : Nat) (xs : List S87) (a s : Int), 21 - xs.length = d → xs.length ≤ 30 → St c a s → ∃ r a' s', (∀ k, d < k → spec_l07Draw.l0 k xs c a s = some (r, a', s')) ∧ St c a' s' ∧ r.length ≤ 30 := by
  intro d
  induction d with
  | zero =>
   intro xs a s hd hx h; obtain ⟨r1, a1, s1, e1, h1, b1, b2⟩ := next_ok hc h 2 (by omega); refine ⟨xs, a1, s1, fun k hk => ?_, h1, hx⟩; obtain ⟨k, rfl⟩ : ∃ m, k = m + 1 := ⟨k - 1, by omega⟩; simp only [spec_l07Draw.l0, e1, Option.bind_some]; rw [w64 (n := 20 + r1) (by omega), if_neg (by omega)]
  | succ d ih =>
   intro xs a s hd hx h; obtain ⟨r1, a1, s1, e1, h1, b1, b2⟩ := next_ok hc h 2 (by omega)
   by_cases c1 : (xs.length : Int) < 20 + r1
   ·obtain ⟨r, a', s', e, h', hl⟩ := ih (xs ++ [(⟨4, 500⟩ : S87)]) a1 s1 (by rw [List.length_append]; show 21 - (xs.length + 1) = d; omega) (by rw [List.length_append]; show xs.length + 1 ≤ 30; omega) h1
    refine ⟨r, a', s', fun k hk => ?_, h', hl⟩; obtain ⟨k, rfl⟩ : ∃ m, k = m + 1 := ⟨k - 1, by omega⟩; simp only [spec_l07Draw.l0, e1, Option.bind_some]; rw [w64 (n := 20 + r1) (by omega), if_pos c1, if_pos (by omega)]; exact e k (by omega)
   ·refine ⟨xs, a1, s1, fun k hk => ?_, h1, hx⟩
    obtain ⟨k, rfl⟩ : ∃ m, k = m + 1 := ⟨k - 1, by omega⟩; simp only [spec_l07Draw.l0, e1, Option.bind_some]; rw [w64 (n := 20 + r1) (by omega), if_neg c1]
 obtain ⟨xs, a1, s1, e1, h1, l1, l2, hg⟩ := score_good hc h; obtain ⟨r2, a2, s2, e2, h2, b2, c2⟩ := next_ok hc h1 40 (by omega)
 by_cases d0 : r2 = 0
 ·obtain ⟨r3, a3, s3, e3, h3, _⟩ := pick_ok hc h2 [0, 1, 16, 17] (by simp) (by simp)
  refine ⟨xs.set (0 : Int).toNat (⟨r3, (rd_T87 xs 0).f1⟩ : S87), a3, s3, fun k hk => ?_, h3, by rw [List.length_set]; omega⟩
  unfold spec_l07Draw.f
  simp only [e1 k (by omega), e2, e3, Option.bind_some]; rw [if_pos d0, if_pos (by omega)]
 by_cases d1 : r2 = 1
 ·obtain ⟨r3, a3, s3, e3, h3, _⟩ := pick_ok hc h2 [99, 100, 5000, 5001] (by simp) (by simp)
  refine ⟨xs.set (0 : Int).toNat (⟨(rd_T87 xs 0).f0, r3⟩ : S87), a3, s3, fun k hk => ?_, h3, by rw [List.length_set]; omega⟩
  unfold spec_l07Draw.f
  simp only [e1 k (by omega), e2, e3, Option.bind_some]; rw [if_neg d0, if_pos d1, if_pos (by omega)]
 by_cases d2 : r2 = 2
 ·obtain ⟨r, a', s', e, h', hl⟩ := loop (21 - xs.length) xs a2 s2 rfl (by omega) h2
  refine ⟨r, a', s', fun k hk => ?_, h', hl⟩
  unfold spec_l07Draw.f
  simp only [e1 k (by omega), e2, Option.bind_some]; rw [if_neg d0, if_neg d1, if_pos d2]; exact e k (by omega)
 by_cases d3 : r2 = 3
 ·refine ⟨xs.take (0 : Int).toNat, a2, s2, fun k hk => ?_, h2, Nat.zero_le _⟩
  unfold spec_l07Draw.f
  simp only [e1 k (by omega), e2, Option.bind_some]; rw [if_neg d0, if_neg d1, if_neg d2, if_pos d3, if_pos (by omega)]
 ·refine ⟨xs, a2, s2, fun k hk => ?_, h2, by omega⟩
  unfold spec_l07Draw.f
  simp only [e1 k (by omega), e2, Option.bind_some]; rw [if_neg d0, if_neg d1, if_neg d2, if_neg d3]
def word (s : ByteArray) : Bool := allF (fun j => inB (bt s (j : Int)) 97 122) 0 s.size && inB (s.size : Int) 1 16
theorem spec_word (s : ByteArray) (hs : s.size ≤ 9223372036854775807) (k : Nat) (hk : s.size < k) : spec_IsWord.f k s = some (word s) := by
 refine all_loop (f := fun k i => spec_IsWord.l0 k s (i : Int)) s.size (fun k i hi => ?_) (fun k => ?_) s.size k 0 (by omega) (by omega) (by omega)
 ·show spec_IsWord.l0 (k + 1) s i = _
  simp only [spec_IsWord.l0]; rw [if_pos (by omega), if_pos (by omega), w64 (n := (i : Int) + 1) (by omega)]
  by_cases c1 : bt s (i : Int) < 97
  ·rw [if_pos c1, inB_false.2 (by omega), if_neg (by decide)]
  ·rw [if_neg c1]
   by_cases c2 : bt s (i : Int) > 122
   ·rw [if_pos c2, inB_false.2 (by omega), if_neg (by decide)]
   ·rw [if_neg c2, inB_true.2 (by omega), if_pos rfl]; rfl
 ·show spec_IsWord.l0 (k + 1) s _ = _
  simp only [spec_IsWord.l0]; rw [if_neg (by omega), In_eq]; rfl
theorem impl_word (s : ByteArray) (hs : s.size ≤ 9223372036854775807) (k : Nat) (hk : s.size + 1 < k) : impl_IsWord.f k s = some (word s) := by
 obtain ⟨k, rfl⟩ : ∃ m, k = m + 1 := ⟨k - 1, by omega⟩
 unfold impl_IsWord.f word
 simp only [impl_IsWord.j0]
 by_cases h1 : (s.size : Int) < 1
 ·rw [if_pos h1, if_pos trivial, inB_false.2 (by omega), Bool.and_false]
 ·rw [if_neg h1]
  by_cases h2 : (s.size : Int) > 16
  ·rw [if_pos (decide_eq_true h2), inB_false.2 (by omega), Bool.and_false]
  ·rw [if_neg (by simpa using h2), inB_true.2 (by omega)]
   refine all_loop (f := fun k i => impl_IsWord.l0 k s (i : Int)) s.size (fun k i hi => ?_) (fun k => ?_) s.size k 0 (by omega) (by omega) (by omega)
   ·show impl_IsWord.l0 (k + 1) s i = _
    simp only [impl_IsWord.l0]; rw [if_pos (by omega), if_pos (by omega), w64 (n := (i : Int) + 1) (by omega)]
    by_cases c1 : bt s (i : Int) < 97
    ·rw [if_pos c1, inB_false.2 (by omega), if_neg (by decide)]
    ·rw [if_neg c1]
     by_cases c2 : bt s (i : Int) > 122
     ·rw [if_pos c2, inB_false.2 (by omega), if_neg (by decide)]
     ·rw [if_neg c2, inB_true.2 (by omega), if_pos rfl]; rfl
   ·show impl_IsWord.l0 (k + 1) s _ = _
    simp only [impl_IsWord.l0]; rw [if_neg (by omega)]
def art (a : S91) : Bool := word a.f0 && (inB a.f1 0 3 && (inB a.f2 20 300 && (inB a.f3 0 10000 && (inB a.f4 0 a.f3 && (inB a.f5 1 50 && (inB a.f6 0 10000 && (inB a.f7 1 100000 && inB a.f8 0 3)))))))
theorem spec_art (a : S91) (hs : a.f0.size ≤ 9223372036854775807) (k : Nat) (hk : a.f0.size < k) : spec_IsArticle.f k a.f0 a.f1 a.f2 a.f3 a.f4 a.f5 a.f6 a.f7 a.f8 = some (art a) := by
 unfold spec_IsArticle.f art
 rw [spec_word a.f0 hs k hk]; simp only [In_eq, Option.bind_some]
 cases word a.f0 <;> cases inB a.f1 0 3 <;> cases inB a.f2 20 300 <;> cases inB a.f3 0 10000 <;> cases inB a.f4 0 a.f3 <;> cases inB a.f5 1 50 <;> cases inB a.f6 0 10000 <;> cases inB a.f7 1 100000 <;> rfl
theorem impl_art (a : S91) (hs : a.f0.size ≤ 9223372036854775807) (k : Nat) (hk : a.f0.size + 1 < k) : impl_IsArticle.f k a.f0 a.f1 a.f2 a.f3 a.f4 a.f5 a.f6 a.f7 a.f8 = some (art a) := by
 unfold impl_IsArticle.f art
 rw [impl_word a.f0 hs k hk]; simp only [Wi_eq, Option.bind_some]
 cases word a.f0 <;> cases inB a.f1 0 3 <;> cases inB a.f2 20 300 <;> cases inB a.f3 0 10000 <;> cases inB a.f4 0 a.f3 <;> cases inB a.f5 1 50 <;> cases inB a.f6 0 10000 <;> cases inB a.f7 1 100000 <;> rfl
def ar_at (xs : List S91) (i : Nat) : S91 := xs.getD i z91
theorem rd_art (xs : List S91) (i : Nat) : rd_T91 xs (i : Int) = ar_at xs i := by unfold rd_T91 ar_at; rw [Int.toNat_natCast]
def artAt (xs : List S91) (i : Nat) : Bool := art (ar_at xs i) && (decide (i = 0) || Op.bytesLess (ar_at xs (i - 1)).f0.toList (ar_at xs i).f0.toList)
def areArts (xs : List S91) : Bool := allF (artAt xs) 0 xs.length && decide ((xs.length : Int) ≤ 12)
def Small (B : Nat) (xs : List S91) : Prop := B ≤ 9223372036854775807 ∧ ∀ x ∈ xs, x.f0.size ≤ B
theorem small_at {B : Nat} {xs : List S91} (h : Small B xs) (i : Nat) (hi : i < xs.length) : (ar_at xs i).f0.size ≤ B := by
 unfold ar_at
 rw [List.getD_eq_getElem?_getD, List.getElem?_eq_getElem hi]; exact h.2 _ (List.getElem_mem hi)
theorem spec_arts (B : Nat) (xs : List S91) (hx : xs.length ≤ 9223372036854775807) (hB : Small B xs) (k : Nat) (hk : xs.length + B < k) : spec_AreArticles.f k xs = some (areArts xs) := by
 have loop : ∀ d k i, xs.length - i = d → i ≤ xs.length → d + B < k → spec_AreArticles.l0 k xs (i : Int) = some (allF (artAt xs) i d && decide ((xs.length : Int) ≤ 12)) := by
  intro d
  induction d with
  | zero =>
   intro k i hd hi hk; obtain ⟨k, rfl⟩ : ∃ m, k = m + 1 := ⟨k - 1, by omega⟩; simp only [spec_AreArticles.l0]; rw [if_neg (by omega)]
   rfl
  | succ d ih =>
   intro k i hd hi hk; obtain ⟨k, rfl⟩ : ∃ m, k = m + 1 := ⟨k - 1, by omega⟩; have hb := small_at hB i (by omega); have hB1 := hB.1; have nx := ih k (i + 1) (by omega) (by omega) (by omega); simp only [spec_AreArticles.l0]; rw [if_pos (by omega), if_pos (by omega), rd_art, spec_art _ (by omega) k (by omega), w64 (n := (i : Int) + 1) (by omega)]; simp only [Option.bind_some]
   unfold allF artAt
   cases ha : art (ar_at xs i) with
   | false => rfl
   | true =>
    rw [if_pos rfl, Bool.true_and]
    by_cases i0 : i = 0
    ·subst i0
     rw [if_neg (by omega), decide_eq_true rfl, Bool.true_or, Bool.true_and]; exact nx
    ·rw [if_pos (by omega), w64 (n := (i : Int) - 1) (by omega), if_pos (by omega), if_pos (by omega), show (i : Int) - 1 = ((i - 1 : Nat) : Int) by omega, rd_art, decide_eq_false i0, Bool.false_or]
     cases hl : Op.bytesLess (ar_at xs (i - 1)).f0.toList (ar_at xs i).f0.toList with
     | false => rfl
     | true => rw [if_pos rfl, Bool.true_and]; exact nx
 unfold spec_AreArticles.f
 exact loop xs.length k 0 (by omega) (by omega) hk
theorem impl_arts (B : Nat) (xs : List S91) (hx : xs.length ≤ 9223372036854775807) (hB : Small B xs) (k : Nat) (hk : xs.length + B + 1 < k) : impl_AreArticles.f k xs = some (areArts xs) := by
 have loop : ∀ d k i, xs.length - i = d → i ≤ xs.length → d + B + 1 < k → impl_AreArticles.l0 k xs xs (xs.length : Int) (i : Int) = some (allF (artAt xs) i d && true) := by
  intro d
  induction d with
  | zero =>
   intro k i hd hi hk; obtain ⟨k, rfl⟩ : ∃ m, k = m + 1 := ⟨k - 1, by omega⟩; simp only [impl_AreArticles.l0]; rw [if_neg (by omega)]
   rfl
  | succ d ih =>
   intro k i hd hi hk; obtain ⟨k, rfl⟩ : ∃ m, k = m + 1 := ⟨k - 1, by omega⟩; have hb := small_at hB i (by omega); have hB1 := hB.1; have nx := ih k (i + 1) (by omega) (by omega) (by omega); simp only [impl_AreArticles.l0]; rw [if_pos (by omega), if_pos (by omega), if_pos (by omega), rd_art, impl_art _ (by omega) k (by omega), w64 (n := (i : Int) + 1) (by omega)]; simp only [Option.bind_some]
   unfold allF artAt
   cases ha : art (ar_at xs i) with
   | false => rfl
   | true =>
    rw [if_pos rfl, Bool.true_and]
    by_cases i0 : i = 0
    ·subst i0
     rw [if_neg (by omega), decide_eq_true rfl, Bool.true_or, Bool.true_and]; exact nx
    ·rw [if_pos (by omega), w64 (n := (i : Int) - 1) (by omega), if_pos (by omega), if_pos (by omega), show (i : Int) - 1 = ((i - 1 : Nat) : Int) by omega, rd_art, decide_eq_false i0, Bool.false_or]
     cases hl : Op.bytesLess (ar_at xs (i - 1)).f0.toList (ar_at xs i).f0.toList with
     | false => rfl
     | true => rw [if_pos rfl, Bool.true_and]; exact nx
 unfold impl_AreArticles.f areArts
 by_cases c : (xs.length : Int) > 12
 ·rw [if_pos c, decide_eq_false (by omega), Bool.and_false]
 ·rw [if_neg c, decide_eq_true (by omega)]
  exact loop xs.length k 0 (by omega) (by omega) hk
def findF (xs : List S91) (s : ByteArray) : Nat → Nat → Int
 | _, 0 => -1
 | i, d + 1 => if (ar_at xs i).f0.toList = s.toList then (i : Int) else findF xs s (i + 1) d
def find (xs : List S91) (s : ByteArray) : Int := findF xs s 0 xs.length
theorem find_go (xs : List S91) (hx : xs.length ≤ 9223372036854775807) (s : ByteArray) : ∀ d k i, xs.length - i = d → i ≤ xs.length → d < k → spec_l03Find.l0 k xs s (i : Int) = some (findF xs s i d) ∧ impl_articleOf.l0 k s xs (xs.length : Int) (i : Int) = some (findF xs s i d) := by
 intro d
 induction d with
 | zero =>
  intro k i hd hi hk; obtain ⟨k, rfl⟩ : ∃ m, k = m + 1 := ⟨k - 1, by omega⟩; simp only [spec_l03Find.l0, impl_articleOf.l0]; rw [if_neg (by omega), if_neg (by omega)]; exact ⟨rfl, rfl⟩
 | succ d ih =>
  intro k i hd hi hk; obtain ⟨k, rfl⟩ : ∃ m, k = m + 1 := ⟨k - 1, by omega⟩; obtain ⟨a, b⟩ := ih k (i + 1) (by omega) (by omega) (by omega); have w : wrap64 ((i : Int) + 1) = ((i + 1 : Nat) : Int) := w64 (by omega)
  have g1 : (i : Int) < (xs.length : Int) := by clear w; omega
  have g2 : 0 ≤ (i : Int) := by clear w; omega
  simp only [spec_l03Find.l0, impl_articleOf.l0, if_pos g1, if_pos g2, rd_art, w]
  unfold findF
  by_cases c : (ar_at xs i).f0.toList = s.toList
  ·rw [if_pos c, if_pos c, if_pos c]; exact ⟨rfl, rfl⟩
  ·rw [if_neg c, if_neg c, if_neg c]; exact ⟨a, b⟩
theorem spec_find (xs : List S91) (hx : xs.length ≤ 9223372036854775807) (s : ByteArray) (k : Nat) (hk : xs.length < k) : spec_l03Find.f k xs s = some (find xs s) := (find_go xs hx s xs.length k 0 (by omega) (by omega) hk).1
theorem impl_find (xs : List S91) (hx : xs.length ≤ 9223372036854775807) (s : ByteArray) (k : Nat) (hk : xs.length < k) : impl_articleOf.f k xs s = some (find xs s) := (find_go xs hx s xs.length k 0 (by omega) (by omega) hk).2
theorem findF_range (xs : List S91) (s : ByteArray) : ∀ d i, findF xs s i d = -1 ∨ ((i : Int) ≤ findF xs s i d ∧ findF xs s i d < (i : Int) + d)
 | 0, _ => .inl rfl
 | d + 1, i => by
  unfold findF
  by_cases c : (ar_at xs i).f0.toList = s.toList
  ·rw [if_pos c]; exact .inr ⟨Int.le_refl _, by omega⟩
  ·rw [if_neg c]
   rcases findF_range xs s d (i + 1) with h | h
   ·exact .inl h
   ·exact .inr ⟨by omega, by omega⟩
theorem find_range (xs : List S91) (s : ByteArray) : find xs s = -1 ∨ (0 ≤ find xs s ∧ find xs s < (xs.length : Int)) := by
 have := findF_range xs s xs.length 0
 unfold find
 omega
theorem spec_time {xs : List S87} (h : isScore xs = true) (bar : Nat) (hb : bar < xs.length) (beat : Int) (h0 : 0 ≤ beat ∧ beat ≤ 16) (k : Nat) (hk : bar < k) : spec_l07Time.f k xs (bar : Int) beat = some (tm xs bar + beat * ln_at xs bar) := by
 have hs := isScore_true h; have hl := hs.2.2 bar hb
 have hb2 : 0 ≤ beat * ln_at xs bar ∧ beat * ln_at xs bar ≤ 80000 := by
  have h1 : 0 * ln_at xs bar ≤ beat * ln_at xs bar := Int.mul_le_mul_of_nonneg_right h0.1 (by omega); have h2 : beat * ln_at xs bar ≤ 16 * ln_at xs bar := Int.mul_le_mul_of_nonneg_right h0.2 (by omega)
  omega
 refine fold_loop (f := fun k i s => spec_l07Time.l0 k xs (bar : Int) beat s (i : Int)) (step := fun j s => s + bt_at xs j * ln_at xs j) (I := fun i s => s = tm xs i) (e := fun s => some (s + beat * ln_at xs bar)) bar (fun k i s hi hI => ?_) (fun i s hi hI => ?_) (fun k s hI => ?_) bar k 0 0 (by omega) (by omega) rfl hk
 ·have h1 := tm_le h i (by omega)
  have h2 := prod_le (hs.2.2 i (by omega)); show spec_l07Time.l0 (k + 1) xs (bar : Int) beat s (i : Int) = spec_l07Time.l0 k xs (bar : Int) beat (s + bt_at xs i * ln_at xs i) ((i + 1 : Nat) : Int); simp only [spec_l07Time.l0]; rw [if_pos (by omega), if_pos (by omega), if_pos (by omega), rd_bar]; show spec_l07Time.l0 k xs (bar : Int) beat (wrap64 (s + wrap64 (bt_at xs i * ln_at xs i))) (wrap64 ((i : Int) + 1)) = _; rw [w64 (n := bt_at xs i * ln_at xs i) (by omega), w64 (n := s + _) (by omega), w64 (by omega)]
  rfl
 ·show s + bt_at xs i * ln_at xs i = tm xs (i + 1)
  rw [tm_succ, hI]
 ·have h1 := tm_le h bar (by omega)
  show spec_l07Time.l0 (k + 1) xs (bar : Int) beat s (bar : Int) = some (s + beat * ln_at xs bar); simp only [spec_l07Time.l0]; rw [if_neg (by omega), if_pos (by omega), if_pos (by omega), rd_bar]; show some (wrap64 (s + wrap64 (beat * ln_at xs bar))) = _; rw [w64 (n := beat * ln_at xs bar) (by omega), w64 (by omega)]
theorem impl_time {xs : List S87} (h : isScore xs = true) (bar : Nat) (beat : Int) (hb : bar < xs.length ∨ (bar = xs.length ∧ beat = 0)) (h0 : 0 ≤ beat ∧ beat ≤ 16) (k : Nat) (hk : bar < k) : impl_beatTime.f k xs (bar : Int) beat = some (tm xs bar + beat * ln_at xs bar) := by
 have hs := isScore_true h
 have hlen : (xs.take bar).length = bar := by rw [List.length_take]; omega
 unfold impl_beatTime.f
 rw [if_pos (by omega), if_pos (by omega), Int.toNat_natCast]; simp only [Option.bind_some]; rw [hlen]; refine fold_loop (f := fun k i s => impl_beatTime.l0 k xs (bar : Int) beat s (xs.take bar) (bar : Int) (i : Int)) (step := fun j s => s + bt_at xs j * ln_at xs j) (I := fun i s => s = tm xs i) (e := fun s => some (s + beat * ln_at xs bar)) bar (fun k i s hi hI => ?_) (fun i s hi hI => ?_) (fun k s hI => ?_) bar k 0 0 (by omega) (by omega) rfl hk
 ·have h1 := tm_le h i (by omega)
  have h2 := prod_le (hs.2.2 i (by omega)); show impl_beatTime.l0 (k + 1) xs (bar : Int) beat s (xs.take bar) (bar : Int) (i : Int) = impl_beatTime.l0 k xs (bar : Int) beat (s + bt_at xs i * ln_at xs i) (xs.take bar) (bar : Int) ((i + 1 : Nat) : Int); simp only [impl_beatTime.l0]; rw [if_pos (by omega), if_pos (by omega), if_pos (by rw [hlen]; omega), rd_bar, getD_take _ _ _ _ hi]; show impl_beatTime.l0 k xs (bar : Int) beat (wrap64 (s + wrap64 (bt_at xs i * ln_at xs i))) (xs.take bar) (bar : Int) (wrap64 ((i : Int) + 1)) = _; rw [w64 (n := bt_at xs i * ln_at xs i) (by omega), w64 (n := s + _) (by omega), w64 (by omega)]
  rfl
 ·show s + bt_at xs i * ln_at xs i = tm xs (i + 1)
  rw [tm_succ, hI]
 ·have h1 := tm_le h bar (by omega)
  show impl_beatTime.l0 (k + 1) xs (bar : Int) beat s (xs.take bar) (bar : Int) (bar : Int) = some (s + beat * ln_at xs bar); simp only [impl_beatTime.l0]; rw [if_neg (by omega)]
  by_cases hp : beat > 0
  ·have hlt : bar < xs.length := by omega
   have hl := hs.2.2 bar hlt
   have hb2 : 0 ≤ beat * ln_at xs bar ∧ beat * ln_at xs bar ≤ 80000 := by
    have h1 : 0 * ln_at xs bar ≤ beat * ln_at xs bar := Int.mul_le_mul_of_nonneg_right h0.1 (by omega); have h2 : beat * ln_at xs bar ≤ 16 * ln_at xs bar := Int.mul_le_mul_of_nonneg_right h0.2 (by omega)
    omega
   rw [if_pos hp, if_pos (by omega), if_pos (by omega), rd_bar]; show some (wrap64 (s + wrap64 (beat * ln_at xs bar))) = _; rw [w64 (n := beat * ln_at xs bar) (by omega), w64 (by omega)]
  ·have e : beat = 0 := by omega
   rw [if_neg hp, e, Int.zero_mul, Int.add_zero]
theorem index_eq (a n : Int) : impl_isIndex.f a n = some (inB a 0 (wrap64 (n - 1))) := by
 unfold impl_isIndex.f
 simp only [Wi_eq, Option.bind_some]
def hasBeat (xs : List S87) (bar beat : Int) : Bool := inB bar 0 ((xs.length : Int) - 1) && inB beat 0 (bt_at xs bar.toNat - 1)
theorem hasBeat_true {xs : List S87} {bar beat : Int} (h : hasBeat xs bar beat = true) : ∃ b : Nat, bar = b ∧ b < xs.length ∧ 0 ≤ beat ∧ beat ≤ bt_at xs b - 1 := by
 unfold hasBeat at h
 rw [Bool.and_eq_true, inB_true, inB_true] at h; exact ⟨bar.toNat, by omega, by omega, h.2⟩
theorem spec_has {xs : List S87} (h : isScore xs = true) (bar beat : Int) : spec_l07Has.f xs bar beat = some (hasBeat xs bar beat) := by
 have hs := isScore_true h
 unfold spec_l07Has.f hasBeat
 rw [w64 (n := (xs.length : Int) - 1) (by omega), In_eq]; simp only [Option.bind_some]
 cases g : inB bar 0 ((xs.length : Int) - 1) with
 | false => rfl
 | true =>
  rw [inB_true] at g; obtain ⟨b, rfl⟩ : ∃ n : Nat, bar = n := ⟨bar.toNat, by omega⟩; have hb := hs.2.2 b (by omega); rw [if_pos rfl, if_pos (by omega), if_pos (by omega), rd_bar]; show ((spec_l01In.f beat 0 (wrap64 (bt_at xs b - 1))).bind fun t => some t) = _; rw [w64 (by omega), In_eq]; rfl
theorem impl_has {xs : List S87} (h : isScore xs = true) (bar beat : Int) : impl_isBeat.f xs bar beat = some (hasBeat xs bar beat) := by
 have hs := isScore_true h
 unfold impl_isBeat.f hasBeat
 rw [index_eq, w64 (n := (xs.length : Int) - 1) (by omega)]; simp only [Option.bind_some]
 cases g : inB bar 0 ((xs.length : Int) - 1) with
 | false => rfl
 | true =>
  rw [inB_true] at g; obtain ⟨b, rfl⟩ : ∃ n : Nat, bar = n := ⟨bar.toNat, by omega⟩; have hb := hs.2.2 b (by omega); rw [if_pos rfl, if_pos (by omega), if_pos (by omega), rd_bar]; show ((impl_within.f beat 0 (wrap64 (bt_at xs b - 1))).bind fun t => some t) = _; rw [w64 (by omega), Wi_eq]; rfl
def cu_at (C : List S80) (i : Nat) : S80 := C.getD i z80
theorem rd_cue (C : List S80) (i : Nat) : rd_T80 C (i : Int) = cu_at C i := by unfold rd_T80 cu_at; rw [Int.toNat_natCast]
def arOf (B : List S91) (c : S80) : S91 := ar_at B (find B c.f2).toNat
def ftime (A : List S87) (B : List S91) (c : S80) : Int := tm A c.f0.toNat + c.f1 * ln_at A c.f0.toNat - (arOf B c).f3
theorem areArts_true {xs : List S91} (h : areArts xs = true) : xs.length ≤ 12 ∧ ∀ i, i < xs.length → art (ar_at xs i) = true := by
 unfold areArts at h
 rw [Bool.and_eq_true, allF_true, decide_eq_true_iff] at h; refine ⟨by omega, fun i hi => ?_⟩; have := h.1 i (by omega) (by omega)
 unfold artAt at this
 rw [Bool.and_eq_true] at this; exact this.1
theorem art_true {a : S91} (h : art a = true) : (0 ≤ a.f1 ∧ a.f1 ≤ 3) ∧ (20 ≤ a.f2 ∧ a.f2 ≤ 300) ∧ (0 ≤ a.f3 ∧ a.f3 ≤ 10000) ∧ (0 ≤ a.f4 ∧ a.f4 ≤ a.f3) ∧ (1 ≤ a.f5 ∧ a.f5 ≤ 50) ∧ (0 ≤ a.f6 ∧ a.f6 ≤ 10000) ∧ (1 ≤ a.f7 ∧ a.f7 ≤ 100000) ∧ 0 ≤ a.f8 ∧ a.f8 ≤ 3 := by
 unfold art at h
 simp only [Bool.and_eq_true, inB_true] at h; exact h.2
theorem arOf_ok {B : List S91} (hB : areArts B = true) {c : S80} (hc : 0 ≤ find B c.f2) : art (arOf B c) = true ∧ find B c.f2 < (B.length : Int) := by
 rcases find_range B c.f2 with h | h
 ·omega
 ·exact ⟨(areArts_true hB).2 _ (by omega), h.2⟩
theorem time_range {A : List S87} (hA : isScore A = true) {b : Nat} (hb : b < A.length) {e : Int} (he : 0 ≤ e ∧ e ≤ bt_at A b - 1) : 0 ≤ tm A b + e * ln_at A b ∧ tm A b + e * ln_at A b ≤ 2000000 := by
 have hs := isScore_true hA; have hl := hs.2.2 b hb; have ht := tm_le hA b (by omega); have h1 : 0 ≤ e * ln_at A b := Int.mul_nonneg he.1 (by omega); have h2 : e * ln_at A b ≤ 16 * ln_at A b := Int.mul_le_mul_of_nonneg_right (by omega) (by omega)
 omega
theorem ftime_range {A : List S87} (hA : isScore A = true) {B : List S91} (hB : areArts B = true) {c : S80} (hc : 0 ≤ find B c.f2) (hb : hasBeat A c.f0 c.f1 = true) : -10000 ≤ ftime A B c ∧ ftime A B c ≤ 2000000 := by
 obtain ⟨b, e, h1, h2, h3⟩ := hasBeat_true hb; have ha := art_true (arOf_ok hB hc).1; have := time_range hA h1 ⟨h2, h3⟩
 unfold ftime
 rw [e, Int.toNat_natCast]
 omega
theorem spec_ftime {A : List S87} (hA : isScore A = true) {B : List S91} (hB : areArts B = true) (C : List S80) {c : S80} (hc : 0 ≤ find B c.f2) (hb : hasBeat A c.f0 c.f1 = true) (k : Nat) (hk : 100 ≤ k) : spec_l08Time.f k A B C c.f0 c.f1 c.f2 c.f3 = some (ftime A B c) := by
 obtain ⟨b, e, h1, h2, h3⟩ := hasBeat_true hb; have hs := isScore_true hA; have hl := hs.2.2 b h1; have hf := arOf_ok hB hc; have hr := time_range hA h1 ⟨h2, h3⟩; have ha := art_true hf.1; have hB12 := (areArts_true hB).1
 have ft : ftime A B c = tm A b + c.f1 * ln_at A b - (arOf B c).f3 := by unfold ftime; rw [e, Int.toNat_natCast]
 unfold spec_l08Time.f
 rw [e, spec_time hA b h1 c.f1 (by omega) k (by omega)]; simp only [Option.bind_some]; rw [spec_find B (by omega) c.f2 k (by omega)]; simp only [Option.bind_some]; rw [if_pos hc, if_pos hf.2, ft]
 have er : rd_T91 B (find B c.f2) = arOf B c := by
  have := rd_art B (find B c.f2).toNat; rw [show ((find B c.f2).toNat : Int) = find B c.f2 by omega] at this; exact this
 rw [er, w64 (by omega)]
theorem impl_ftime {A : List S87} (hA : isScore A = true) {B : List S91} (hB : areArts B = true) (C : List S80) (c : S80) (k : Nat) (hk : 100 ≤ k) : impl_firedAt.f k A B C c.f0 c.f1 c.f2 c.f3 = some (if 0 ≤ find B c.f2 ∧ hasBeat A c.f0 c.f1 = true then mx (-1) (ftime A B c) else -1) := by
 have hs := isScore_true hA; have hB12 := (areArts_true hB).1
 unfold impl_firedAt.f
 rw [impl_find B (by omega) c.f2 k (by omega)]; simp only [Option.bind_some]
 by_cases hc : 0 ≤ find B c.f2
 ·rw [if_neg (by omega), impl_has hA]
  simp only [Option.bind_some]
  by_cases hb : hasBeat A c.f0 c.f1 = true
  ·obtain ⟨b, e, h1, h2, h3⟩ := hasBeat_true hb
   have hl := hs.2.2 b h1; have hf := arOf_ok hB hc; have hr := time_range hA h1 ⟨h2, h3⟩; have ha := art_true hf.1
   have ft : ftime A B c = tm A b + c.f1 * ln_at A b - (arOf B c).f3 := by unfold ftime; rw [e, Int.toNat_natCast]
   have er : rd_T91 B (find B c.f2) = arOf B c := by
    have := rd_art B (find B c.f2).toNat; rw [show ((find B c.f2).toNat : Int) = find B c.f2 by omega] at this; exact this
   rw [if_pos hb, if_pos (show 0 ≤ find B c.f2 ∧ hasBeat A c.f0 c.f1 = true from ⟨hc, hb⟩), e, impl_time hA b c.f1 (.inl h1) (by omega) k (by omega)]; simp only [Option.bind_some]; rw [if_pos hc, if_pos hf.2, er, ft, w64 (by omega)]
  ·rw [if_neg hb, if_neg (show ¬ (0 ≤ find B c.f2 ∧ hasBeat A c.f0 c.f1 = true) from fun x => hb x.2)]
 ·rw [if_pos (by omega), if_neg (show ¬ (0 ≤ find B c.f2 ∧ hasBeat A c.f0 c.f1 = true) from fun x => hc x.1)]
def cueOk (A : List S87) (B : List S91) (c : S80) : Bool := hasBeat A c.f0 c.f1 && (decide (0 ≤ find B c.f2) && (inB c.f3 0 11 && decide (0 ≤ ftime A B c)))
def isShow (A : List S87) (B : List S91) (C : List S80) : Bool := isScore A && (areArts B && (decide ((C.length : Int) ≤ 20) && allF (fun i => cueOk A B (cu_at C i)) 0 C.length))
theorem cueOk_true {A : List S87} {B : List S91} {c : S80} (h : cueOk A B c = true) : hasBeat A c.f0 c.f1 = true ∧ 0 ≤ find B c.f2 ∧ (0 ≤ c.f3 ∧ c.f3 ≤ 11) ∧ 0 ≤ ftime A B c := by
 unfold cueOk at h
 simpa only [Bool.and_eq_true, inB_true, decide_eq_true_iff] using h
theorem isShow_true {A : List S87} {B : List S91} {C : List S80} (h : isShow A B C = true) : isScore A = true ∧ areArts B = true ∧ C.length ≤ 20 ∧ ∀ i, i < C.length → cueOk A B (cu_at C i) = true := by
 unfold isShow at h
 rw [Bool.and_eq_true, Bool.and_eq_true, Bool.and_eq_true, allF_true, decide_eq_true_iff] at h; exact ⟨h.1, h.2.1, by omega, fun i hi => h.2.2.2 i (by omega) (by omega)⟩
theorem spec_show (n : Nat) (A : List S87) (B : List S91) (C : List S80) (hA : A.length ≤ 9223372036854775807) (hB : B.length ≤ 9223372036854775807) (hC : C.length ≤ 9223372036854775807) (hS : Small n B) (k : Nat) (hk : A.length + B.length + C.length + n + 200 ≤ k) : spec_IsShow.f k A B C = some (isShow A B C) := by
 obtain ⟨k, rfl⟩ : ∃ m, k = m + 1 := ⟨k - 1, by omega⟩
 unfold spec_IsShow.f isShow
 rw [spec_score A (by omega) (k + 1) (by omega)]; simp only [Option.bind_some]
 cases a : isScore A with
 | false => rfl
 | true =>
  rw [if_pos rfl, spec_arts n B (by omega) hS (k + 1) (by omega)]; simp only [Option.bind_some]
  cases b : areArts B with
  | false => rfl
  | true =>
   rw [if_pos rfl]
   by_cases c : (C.length : Int) > 20
   ·rw [decide_eq_true c, decide_eq_false (by omega)]; rfl
   ·rw [decide_eq_false c, decide_eq_true (by omega)]
    simp only [spec_IsShow.j0, Bool.false_eq_true, if_false, Bool.true_and]; have hB12 := (areArts_true b).1
    have loop : ∀ d k i, C.length - i = d → i ≤ C.length → d + 110 ≤ k → spec_IsShow.l0 k (i : Int) A B C = some (allF (fun i => cueOk A B (cu_at C i)) i d) := by
     intro d
     induction d with
     | zero =>
      intro k i hd hi hk; obtain ⟨k, rfl⟩ : ∃ m, k = m + 1 := ⟨k - 1, by omega⟩; simp only [spec_IsShow.l0]; rw [if_neg (by omega)]
      rfl
     | succ d ih =>
      intro k i hd hi hk; obtain ⟨k, rfl⟩ : ∃ m, k = m + 1 := ⟨k - 1, by omega⟩; have nx := ih k (i + 1) (by omega) (by omega) (by omega); simp only [spec_IsShow.l0]; rw [if_pos (by omega), if_pos (by omega), rd_cue, spec_has a, spec_find B (by omega) _ k (by omega), In_eq, w64 (n := (i : Int) + 1) (by omega)]; simp only [Option.bind_some]
      unfold allF cueOk
      cases hb : hasBeat A (cu_at C i).f0 (cu_at C i).f1 with
      | false => rfl
      | true =>
       rw [if_pos rfl, Bool.true_and]
       by_cases hf : 0 ≤ find B (cu_at C i).f2
       ·rw [if_neg (by omega), decide_eq_true hf, Bool.true_and]
        cases hr : inB (cu_at C i).f3 0 11 with
        | false => rfl
        | true =>
         rw [if_pos rfl, Bool.true_and, spec_ftime a b C hf hb k (by omega)]; simp only [Option.bind_some]
         by_cases ht : ftime A B (cu_at C i) < 0
         ·rw [if_pos ht, decide_eq_false (by omega)]; rfl
         ·rw [if_neg ht, decide_eq_true (by omega), Bool.true_and]
          exact nx
       ·rw [if_pos (by omega), decide_eq_false hf]; rfl
    exact loop C.length k 0 (by omega) (by omega) (by omega)
theorem impl_show (n : Nat) (A : List S87) (B : List S91) (C : List S80) (hA : A.length ≤ 9223372036854775807) (hB : B.length ≤ 9223372036854775807) (hC : C.length ≤ 9223372036854775807) (hS : Small n B) (k : Nat) (hk : A.length + B.length + C.length + n + 200 ≤ k) : impl_IsShow.f k A B C = some (isShow A B C) := by
 obtain ⟨k, rfl⟩ : ∃ m, k = m + 1 := ⟨k - 1, by omega⟩
 unfold impl_IsShow.f isShow
 rw [impl_score A (by omega) (k + 1) (by omega)]; simp only [Option.bind_some]
 cases a : isScore A with
 | false => rfl
 | true =>
  rw [if_pos rfl, impl_arts n B (by omega) hS (k + 1) (by omega)]; simp only [Option.bind_some]
  cases b : areArts B with
  | false => rfl
  | true =>
   rw [if_pos rfl]
   by_cases c : (C.length : Int) > 20
   ·rw [decide_eq_true c, decide_eq_false (by omega)]; rfl
   ·rw [decide_eq_false c, decide_eq_true (by omega)]
    simp only [impl_IsShow.j0, Bool.false_eq_true, if_false, Bool.true_and]; have hB12 := (areArts_true b).1
    have loop : ∀ d k i, C.length - i = d → i ≤ C.length → d + 110 ≤ k → impl_IsShow.l0 k C (C.length : Int) (i : Int) A B C = some (allF (fun i => cueOk A B (cu_at C i)) i d) := by
     intro d
     induction d with
     | zero =>
      intro k i hd hi hk; obtain ⟨k, rfl⟩ : ∃ m, k = m + 1 := ⟨k - 1, by omega⟩; simp only [impl_IsShow.l0]; rw [if_neg (by omega)]
      rfl
     | succ d ih =>
      intro k i hd hi hk; obtain ⟨k, rfl⟩ : ∃ m, k = m + 1 := ⟨k - 1, by omega⟩; have nx := ih k (i + 1) (by omega) (by omega) (by omega); simp only [impl_IsShow.l0]; rw [if_pos (by omega), if_pos (by omega), if_pos (by omega), rd_cue, Wi_eq, impl_ftime a b C _ k (by omega), w64 (n := (i : Int) + 1) (by omega)]; simp only [Option.bind_some]
      unfold allF cueOk
      cases hr : inB (cu_at C i).f3 0 11 with
      | false =>
       rw [if_neg (by decide)]
       simp
      | true =>
       rw [if_pos rfl]
       cases hb : hasBeat A (cu_at C i).f0 (cu_at C i).f1 with
       | false =>
        rw [if_neg (show ¬ (0 ≤ find B (cu_at C i).f2 ∧ false = true) from fun x => absurd x.2 (by decide)), if_pos (by omega)]; rfl
       | true =>
        by_cases hf : 0 ≤ find B (cu_at C i).f2
        ·rw [if_pos (show 0 ≤ find B (cu_at C i).f2 ∧ true = true from ⟨hf, rfl⟩), decide_eq_true hf]
         by_cases ht : ftime A B (cu_at C i) < 0
         ·rw [if_pos (by unfold mx; split <;> omega), decide_eq_false (by omega)]; rfl
         ·rw [if_neg (by unfold mx; split <;> omega), decide_eq_true (by omega)]
          exact nx
        ·rw [if_neg (show ¬ (0 ≤ find B (cu_at C i).f2 ∧ true = true) from fun x => hf x.1), if_pos (by omega), decide_eq_false hf]; rfl
    exact loop C.length k 0 (by omega) (by omega) (by omega)
def Frame (n0 : Nat) (A : List S87) (B : List S91) (C : List S80) : Prop := A.length ≤ 9223372036854775807 ∧ B.length ≤ 9223372036854775807 ∧ C.length ≤ 9223372036854775807 ∧ Small n0 B
theorem ss_ok {n0 : Nat} {A : List S87} {B : List S91} {C : List S80} (h : Frame n0 A B C) (k : Nat) (hk : 36893488147419103428 ≤ k) : spec_IsShow.f k A B C = some (isShow A B C) := spec_show n0 A B C h.1 h.2.1 h.2.2.1 h.2.2.2 k (by have := h.1; have := h.2.1; have := h.2.2.1; have := h.2.2.2.1; omega)
theorem si_ok {n0 : Nat} {A : List S87} {B : List S91} {C : List S80} (h : Frame n0 A B C) (k : Nat) (hk : 36893488147419103428 ≤ k) : impl_IsShow.f k A B C = some (isShow A B C) := impl_show n0 A B C h.1 h.2.1 h.2.2.1 h.2.2.2 k (by have := h.1; have := h.2.1; have := h.2.2.1; have := h.2.2.2.1; omega)
theorem cu_ok {A : List S87} {B : List S91} {C : List S80} (h : isShow A B C = true) {i : Nat} (hi : i < C.length) : hasBeat A (cu_at C i).f0 (cu_at C i).f1 = true ∧ 0 ≤ find B (cu_at C i).f2 ∧ find B (cu_at C i).f2 < (B.length : Int) ∧ 0 ≤ ftime A B (cu_at C i) ∧ ftime A B (cu_at C i) ≤ 2000000 ∧ art (arOf B (cu_at C i)) = true := by
 obtain ⟨hA, hB, hC, hc⟩ := isShow_true h; obtain ⟨h1, h2, h3, h4⟩ := cueOk_true (hc i hi); have := ftime_range hA hB h2 h1; have := arOf_ok hB h2; exact ⟨h1, h2, this.2, h4, by omega, this.1⟩
theorem rd_arOf (B : List S91) (c : S80) (h : 0 ≤ find B c.f2) : rd_T91 B (find B c.f2) = arOf B c := by
 have := rd_art B (find B c.f2).toNat; rw [show ((find B c.f2).toNat : Int) = find B c.f2 by omega] at this; exact this
theorem cue_time {A : List S87} {B : List S91} {C : List S80} (h : isShow A B C = true) {i : Nat} (hi : i < C.length) (k : Nat) (hk : 100 ≤ k) : spec_l08Time.f k A B C (cu_at C i).f0 (cu_at C i).f1 (cu_at C i).f2 (cu_at C i).f3 = some (ftime A B (cu_at C i)) ∧ impl_firedAt.f k A B C (cu_at C i).f0 (cu_at C i).f1 (cu_at C i).f2 (cu_at C i).f3 = some (ftime A B (cu_at C i)) := by
 obtain ⟨hA, hB, hC, hc⟩ := isShow_true h; obtain ⟨h1, h2, h3, h4⟩ := cueOk_true (hc i hi); refine ⟨spec_ftime hA hB C h2 h1 k hk, ?_⟩; rw [impl_ftime hA hB C _ k hk, if_pos (show 0 ≤ find B (cu_at C i).f2 ∧ hasBeat A (cu_at C i).f0 (cu_at C i).f1 = true from ⟨h2, h1⟩)]
 unfold mx
 rw [if_pos (by omega)]
theorem with_ok (A : List S87) (B : List S91) (C D : List S80) (hA : A.length ≤ 1000000) (hB : B.length ≤ 1000000) (hD : D.length ≤ 1000010) : spec_l08With.f A B C D = some (A, B, D) := by
 unfold spec_l08With.f
 simp only [Option.bind_some, List.nil_append, List.length_nil]; rw [if_pos (by omega), if_pos (by omega), if_pos (by omega)]
def addR (A : List S87) (B : List S91) (C : List S80) (c : S80) : List S87 × List S91 × List S80 × Int := if isShow A B C = true then (if (C.length : Int) = 20 then ([], [], [], 3) else (if isShow A B (C ++ [c]) = true then (A, B, C ++ [c], 0) else ([], [], [], 5))) else ([], [], [], 1)
theorem add_spec (n0 : Nat) {A : List S87} {B : List S91} {C : List S80} (hF : Frame n0 A B C) (hL : A.length ≤ 1000000 ∧ B.length ≤ 1000000 ∧ C.length ≤ 1000000) (x0 x1 : Int) (x2 : ByteArray) (x3 : Int) (k : Nat) (hk : 36893488147419103528 ≤ k) : spec_AddCue.f k A B C x0 x1 x2 x3 = some (addR A B C ⟨x0, x1, x2, x3⟩) := by
 unfold spec_AddCue.f addR
 rw [ss_ok hF k (by omega)]; simp only [Option.bind_some]
 cases h : isShow A B C with
 | false => rfl
 | true =>
  simp only [if_true]; have hC := (isShow_true h).2.2.1
  by_cases c : (C.length : Int) = 20
  ·rw [if_pos c, if_pos c]
  ·have hl : (C ++ [(⟨x0, x1, x2, x3⟩ : S80)]).length = C.length + 1 := by rw [List.length_append, List.length_singleton]
   have hF2 : Frame n0 A B (C ++ [(⟨x0, x1, x2, x3⟩ : S80)]) := ⟨hF.1, hF.2.1, by omega, hF.2.2.2⟩; rw [if_neg c, if_neg c]; simp only [Option.bind_some, List.nil_append, List.length_nil, List.length_singleton]; rw [if_pos (show 0 + C.length < 3518437208883 by omega), if_pos (show C.length + 1 < 3518437208883 by omega), with_ok A B C _ hL.1 hL.2.1 (by rw [hl]; omega)]; simp only [Option.bind_some]; rw [ss_ok hF2 k (by omega)]; simp only [Option.bind_some]
   cases isShow A B (C ++ [(⟨x0, x1, x2, x3⟩ : S80)]) <;> rfl
end Go.Proofs.Ytnifblnlpepehaa.F
