import Derived.Test.YthhijbdekboahaaJFnBursts3
import Derived.Below
import Derived.Deep.Draws
import Derived.Deep.AppendLies
import Derived.Maps.AppendAt
import Derived.OwnWalk
import Derived.Laws.BytesArg
import Derived.Laws.MakeOwn
import Derived.Laws.OwnMore
import Derived.Tactics
import Derived.Lib.ConvBytes
import Derived.Laws.Slices
import Derived.WalkKit
import Derived.KernelRfl
import Derived.RowKit3
import Derived.Deep.LoopGhost
import Derived.Deep.QuietTactic
import Derived.BigQuiet
import Derived.WideLaws
import Derived.Deep.DeepCutAuto
import Derived.Deep.CutBlock
import Derived.Deep.RegionHeld3
import Derived.Lib.AppendStr
import Derived.ArgAppend
import Derived.Laws.IdiomCopy
import Derived.RowKit
import Derived.OrdersHeld
import Derived.Laws.BitsLemmas
import Derived.Laws.StructEq
import Derived.Test.YthhijbdekboahaaProg
import Derived.Laws.Cover1
namespace Go.Proofs.Ythhijbdekboahaa.F
open Go.RowKit Go.Proofs.YthhijbdekboahaaW.PrintWords Go.Proofs.YthhijbdekboahaaW.PrintLast Go.Proofs.YthhijbdekboahaaW.PrintMore
attribute [local go_sem] max2_int min2_int max_two min_two max_three min_three max_four min_four
set_option linter.unusedVariables false
set_option linter.unusedSimpArgs false
def spec_l01Good.f (s0_0 : List Int) (s0_1 : Int) (s0_2 : Int) : Option (ByteArray × Int × Int) := (some (([(⟨#[97, 100, 97]⟩ : ByteArray), (⟨#[98, 114, 117, 110, 111]⟩ : ByteArray), (⟨#[99, 108, 97, 114, 97]⟩ : ByteArray), (⟨#[100, 111, 114, 97]⟩ : ByteArray), (⟨#[101, 109, 105, 108]⟩ : ByteArray), (⟨#[102, 114, 105, 100, 97]⟩ : ByteArray), (⟨#[103, 117, 115, 116, 97, 118]⟩ : ByteArray), (⟨#[104, 97, 110, 110, 97]⟩ : ByteArray), (⟨#[105, 118, 97, 110]⟩ : ByteArray), (⟨#[106, 97, 110, 97]⟩ : ByteArray), (⟨#[107, 97, 114, 108]⟩ : ByteArray), (⟨#[108, 101, 110, 97]⟩ : ByteArray)] : List ByteArray) : List ByteArray)).bind fun y342 => ((spec_l01Next.f s0_0 s0_1 s0_2 12).bind fun bt345 => (if 0 ≤ bt345.1 then (if bt345.1 < (y342.length : Int) then (some (rdOf ByteArray.empty y342 bt345.1, bt345.2.1, bt345.2.2)) else (none)) else (none)))
set_option maxHeartbeats 8000000 in
set_option maxRecDepth 100000 in
theorem spec_l01Good.calls (g : Nat) (s0_0 : List Int) (s0_1 : Int) (s0_2 : Int) (r1 : ByteArray) (r2 : Int) (r3 : Int) (w0 w : World) (hI : IsS100 w0 w g s0_0 s0_1 s0_2) (hB : Below w0.heap.size w0 w) (h : spec_l01Good.f s0_0 s0_1 s0_2 = some (r1, r2, r3)) :
  Calls Try.prog 103 #[.pointer (some ⟨g, 0, none⟩)] w fun e w' => e = .returned (.string r1) ∧ IsS100 w0 w' g s0_0 r2 r3 ∧ Below w0.heap.size w0 w' ∧ KeepBut w w' g none := by
 have HI0 := am_ hI; have HK := am_ (KeepBut.refl w g none); have HL := am_ hB.size; clear hI; have HW0 := am_ hB.size; have HB := am_ hB; clear hB; have H : ((some (([(⟨#[97, 100, 97]⟩ : ByteArray), (⟨#[98, 114, 117, 110, 111]⟩ : ByteArray), (⟨#[99, 108, 97, 114, 97]⟩ : ByteArray), (⟨#[100, 111, 114, 97]⟩ : ByteArray), (⟨#[101, 109, 105, 108]⟩ : ByteArray), (⟨#[102, 114, 105, 100, 97]⟩ : ByteArray), (⟨#[103, 117, 115, 116, 97, 118]⟩ : ByteArray), (⟨#[104, 97, 110, 110, 97]⟩ : ByteArray), (⟨#[105, 118, 97, 110]⟩ : ByteArray), (⟨#[106, 97, 110, 97]⟩ : ByteArray), (⟨#[107, 97, 114, 108]⟩ : ByteArray), (⟨#[108, 101, 110, 97]⟩ : ByteArray)] : List ByteArray) : List ByteArray)).bind fun y342 => ((spec_l01Next.f s0_0 s0_1 s0_2 12).bind fun bt345 => (if 0 ≤ bt345.1 then (if bt345.1 < (y342.length : Int) then (some (rdOf ByteArray.empty y342 bt345.1, bt345.2.1, bt345.2.2)) else (none)) else (none)))) = some (r1, r2, r3) := h; clear h; obtain ⟨y342, hy342⟩ : ∃ y_ : List ByteArray, y_ = (([(⟨#[97, 100, 97]⟩ : ByteArray), (⟨#[98, 114, 117, 110, 111]⟩ : ByteArray), (⟨#[99, 108, 97, 114, 97]⟩ : ByteArray), (⟨#[100, 111, 114, 97]⟩ : ByteArray), (⟨#[101, 109, 105, 108]⟩ : ByteArray), (⟨#[102, 114, 105, 100, 97]⟩ : ByteArray), (⟨#[103, 117, 115, 116, 97, 118]⟩ : ByteArray), (⟨#[104, 97, 110, 110, 97]⟩ : ByteArray), (⟨#[105, 118, 97, 110]⟩ : ByteArray), (⟨#[106, 97, 110, 97]⟩ : ByteArray), (⟨#[107, 97, 114, 108]⟩ : ByteArray), (⟨#[108, 101, 110, 97]⟩ : ByteArray)] : List ByteArray)) := ⟨_, rfl⟩
 (first | (rw [← hy342] at H; with_reducible replace H := bindZ H) | rw [← hy342] at H | skip)
 have Ny342 := am_ hy342; clear hy342; replace H := Option.bind_eq_some_iff.mp H; obtain ⟨⟨t345, t346, t347⟩, A20, H⟩ := H
 dsimp only at H
 have A2 := am_ A20; clear A20
 by_cases c3 : 0 ≤ t345
 ·rw [if_pos c3] at H
  have c3b0 := decide_eq_true c3; clear c3
  by_cases c4 : t345 < (y342.length : Int)
  ·rw [if_pos c4] at H
   have c4b0 := decide_eq_true c4; clear c4; simp only [Option.some.injEq, Prod.mk.injEq] at H; obtain ⟨rfl, rfl, rfl⟩ := H
   go_enter Try.func103, Try.ntmps103
   go_wp2_with (first | ((with_reducible refine gate_dst (N := 3) rfl ?_); refine Kd.R_lit Kd.string _ 9 ?hg (N := 3) ?hd (xs := ([(⟨#[97, 100, 97]⟩ : ByteArray), (⟨#[98, 114, 117, 110, 111]⟩ : ByteArray), (⟨#[99, 108, 97, 114, 97]⟩ : ByteArray), (⟨#[100, 111, 114, 97]⟩ : ByteArray), (⟨#[101, 109, 105, 108]⟩ : ByteArray), (⟨#[102, 114, 105, 100, 97]⟩ : ByteArray), (⟨#[103, 117, 115, 116, 97, 118]⟩ : ByteArray), (⟨#[104, 97, 110, 110, 97]⟩ : ByteArray), (⟨#[105, 118, 97, 110]⟩ : ByteArray), (⟨#[106, 97, 110, 97]⟩ : ByteArray), (⟨#[107, 97, 114, 108]⟩ : ByteArray), (⟨#[108, 101, 110, 97]⟩ : ByteArray)] : List ByteArray)) (inner := [.string (⟨#[97, 100, 97]⟩ : ByteArray), .string (⟨#[98, 114, 117, 110, 111]⟩ : ByteArray), .string (⟨#[99, 108, 97, 114, 97]⟩ : ByteArray), .string (⟨#[100, 111, 114, 97]⟩ : ByteArray), .string (⟨#[101, 109, 105, 108]⟩ : ByteArray), .string (⟨#[102, 114, 105, 100, 97]⟩ : ByteArray), .string (⟨#[103, 117, 115, 116, 97, 118]⟩ : ByteArray), .string (⟨#[104, 97, 110, 110, 97]⟩ : ByteArray), .string (⟨#[105, 118, 97, 110]⟩ : ByteArray), .string (⟨#[106, 97, 110, 97]⟩ : ByteArray), .string (⟨#[107, 97, 114, 108]⟩ : ByteArray), .string (⟨#[108, 101, 110, 97]⟩ : ByteArray)]) (ok := fun _ => True) (okp := fun _ => True) ?hr ?hp (fun _ hk => hk) trivial (Below.refl _ _) (Nat.le_refl _) (by simp) ?_; (case hd => rfl); (case hg => rfl); (case hr => first | (go_simp; done) | (go_simp; rfl)); (case hp => exact (Reps.one (show Kd.M Kd.string _ _ _ (⟨#[97, 100, 97]⟩ : ByteArray) [.string (⟨#[97, 100, 97]⟩ : ByteArray)] from rfl) (Reps.one (show Kd.M Kd.string _ _ _ (⟨#[98, 114, 117, 110, 111]⟩ : ByteArray) [.string (⟨#[98, 114, 117, 110, 111]⟩ : ByteArray)] from rfl) (Reps.one (show Kd.M Kd.string _ _ _ (⟨#[99, 108, 97, 114, 97]⟩ : ByteArray) [.string (⟨#[99, 108, 97, 114, 97]⟩ : ByteArray)] from rfl) (Reps.one (show Kd.M Kd.string _ _ _ (⟨#[100, 111, 114, 97]⟩ : ByteArray) [.string (⟨#[100, 111, 114, 97]⟩ : ByteArray)] from rfl) (Reps.one (show Kd.M Kd.string _ _ _ (⟨#[101, 109, 105, 108]⟩ : ByteArray) [.string (⟨#[101, 109, 105, 108]⟩ : ByteArray)] from rfl) (Reps.one (show Kd.M Kd.string _ _ _ (⟨#[102, 114, 105, 100, 97]⟩ : ByteArray) [.string (⟨#[102, 114, 105, 100, 97]⟩ : ByteArray)] from rfl) (Reps.one (show Kd.M Kd.string _ _ _ (⟨#[103, 117, 115, 116, 97, 118]⟩ : ByteArray) [.string (⟨#[103, 117, 115, 116, 97, 118]⟩ : ByteArray)] from rfl) (Reps.one (show Kd.M Kd.string _ _ _ (⟨#[104, 97, 110, 110, 97]⟩ : ByteArray) [.string (⟨#[104, 97, 110, 110, 97]⟩ : ByteArray)] from rfl) (Reps.one (show Kd.M Kd.string _ _ _ (⟨#[105, 118, 97, 110]⟩ : ByteArray) [.string (⟨#[105, 118, 97, 110]⟩ : ByteArray)] from rfl) (Reps.one (show Kd.M Kd.string _ _ _ (⟨#[106, 97, 110, 97]⟩ : ByteArray) [.string (⟨#[106, 97, 110, 97]⟩ : ByteArray)] from rfl) (Reps.one (show Kd.M Kd.string _ _ _ (⟨#[107, 97, 114, 108]⟩ : ByteArray) [.string (⟨#[107, 97, 114, 108]⟩ : ByteArray)] from rfl) (Reps.one (show Kd.M Kd.string _ _ _ (⟨#[108, 101, 110, 97]⟩ : ByteArray) [.string (⟨#[108, 101, 110, 97]⟩ : ByteArray)] from rfl) (Reps.none _ _)))))))))))))); intro v343 w5 ho6 hb hg_ hnew_; clear hg_ hnew_; (first | rw [← Ny342.out] at ho6 | (simp only [Int.reduceToNat] at ho6; rw [← Ny342.out] at ho6)); replace HO344 := am_ (Kd.R_lower ho6 (keep_size (w := w) (g := g) (row := none) Zo)); replace HK := am_ (KeepBut.trans Zo (KeepBut.of_below hb g none) (.inl rfl)); replace HB := (bsZ Zn hb); replace HI0 := am_ (IsS100.below Zm hb); clear hb ho6) | ((with_reducible refine gate_callee (f := 52) rfl ?_); refine gZ 5 Try.func52 #[.pointer (some ⟨g, 0, none⟩), .int .i64 12] ?_; (with_reducible refine (spec_l01Next.calls g s0_0 s0_1 s0_2 12 t345 t346 t347 w0 _ ?_ ?_ A2.out).mono ?_); exact Zm; exact Zn; rintro e w7 ⟨rfl, hi, hb, hk⟩; refine ⟨_, rfl, ?_⟩; replace HO344 := (hoZ (IsS100.apart (show IsS100 w0 _ g s0_0 s0_1 s0_2 from Zm) (Zaa HO344) (by decide)) hk); replace HK := am_ (KeepBut.trans Zo hk (.inl rfl)); replace HB := am_ (hb); replace HI0 := am_ (hi); clear hb hk hi; obtain ⟨Ao8, co8, eo8⟩ := Kd.R_slice HO344.out; subst eo8; have p348 : 0 ≤ (t345 : Int) := of_decide_eq_true Zc; have q348 : t345 < (y342.length : Int) := of_decide_eq_true Zc; obtain ⟨ad348, e348, hx348_0⟩ := Kd.at_string (Kd.R_reads' HO344.out).2.2 t345 p348 q348; cases e348; replace p348 := eq_true p348; replace q348 := eq_true q348))
   go_ret
   exact ⟨Zl, Zm, Zn, Zo⟩
  ·rw [if_neg c4] at H
   exact absurd H (by simp)
 ·rw [if_neg c3] at H
  exact absurd H (by simp)
def spec_l01DrawWord.f (s0_0 : List Int) (s0_1 : Int) (s0_2 : Int) : Option (ByteArray × Int × Int) := (spec_l01Next.f s0_0 s0_1 s0_2 24).bind fun bt349 => (if bt349.1 = 0 then ((some (([(⟨#[]⟩ : ByteArray), (⟨#[65, 100, 97]⟩ : ByteArray), (⟨#[97, 49]⟩ : ByteArray), (⟨#[97, 98, 99, 100, 101, 102, 103, 104, 105, 106, 107, 108, 109, 110, 111, 112]⟩ : ByteArray), (⟨#[97, 98, 99, 100, 101, 102, 103, 104, 105, 106, 107, 108, 109, 110, 111, 112, 113]⟩ : ByteArray), (⟨#[97, 32, 98]⟩ : ByteArray)] : List ByteArray) : List ByteArray)).bind fun y352 => ((spec_l01Next.f s0_0 bt349.2.1 bt349.2.2 6).bind fun bt355 => (if 0 ≤ bt355.1 then (if bt355.1 < (y352.length : Int) then (some (rdOf ByteArray.empty y352 bt355.1, bt355.2.1, bt355.2.2)) else (none)) else (none)))) else ((spec_l01Good.f s0_0 bt349.2.1 bt349.2.2).bind fun bt359 => (some (bt359.1, bt359.2.1, bt359.2.2))))
set_option maxHeartbeats 8000000 in
set_option maxRecDepth 100000 in
theorem spec_l01DrawWord.calls (g : Nat) (s0_0 : List Int) (s0_1 : Int) (s0_2 : Int) (r1 : ByteArray) (r2 : Int) (r3 : Int) (w0 w : World) (hI : IsS100 w0 w g s0_0 s0_1 s0_2) (hB : Below w0.heap.size w0 w) (h : spec_l01DrawWord.f s0_0 s0_1 s0_2 = some (r1, r2, r3)) :
  Calls Try.prog 102 #[.pointer (some ⟨g, 0, none⟩)] w fun e w' => e = .returned (.string r1) ∧ IsS100 w0 w' g s0_0 r2 r3 ∧ Below w0.heap.size w0 w' ∧ KeepBut w w' g none := by
 have HI0 := am_ hI; have HK := am_ (KeepBut.refl w g none); have HL := am_ hB.size; clear hI; have HW0 := am_ hB.size; have HB := am_ hB; clear hB; have H : ((spec_l01Next.f s0_0 s0_1 s0_2 24).bind fun bt349 => (if bt349.1 = 0 then ((some (([(⟨#[]⟩ : ByteArray), (⟨#[65, 100, 97]⟩ : ByteArray), (⟨#[97, 49]⟩ : ByteArray), (⟨#[97, 98, 99, 100, 101, 102, 103, 104, 105, 106, 107, 108, 109, 110, 111, 112]⟩ : ByteArray), (⟨#[97, 98, 99, 100, 101, 102, 103, 104, 105, 106, 107, 108, 109, 110, 111, 112, 113]⟩ : ByteArray), (⟨#[97, 32, 98]⟩ : ByteArray)] : List ByteArray) : List ByteArray)).bind fun y352 => ((spec_l01Next.f s0_0 bt349.2.1 bt349.2.2 6).bind fun bt355 => (if 0 ≤ bt355.1 then (if bt355.1 < (y352.length : Int) then (some (rdOf ByteArray.empty y352 bt355.1, bt355.2.1, bt355.2.2)) else (none)) else (none)))) else ((spec_l01Good.f s0_0 bt349.2.1 bt349.2.2).bind fun bt359 => (some (bt359.1, bt359.2.1, bt359.2.2))))) = some (r1, r2, r3) := h; clear h; replace H := Option.bind_eq_some_iff.mp H; obtain ⟨⟨t349, t350, t351⟩, A20, H⟩ := H
 dsimp only at H
 have A2 := am_ A20; clear A20; have HS_ := am_ H; clear H
 go_enter Try.func102, Try.ntmps102
 go_wp2_with (first | ((with_reducible refine gate_callee (f := 52) rfl ?_); refine gZ 4 Try.func52 #[.pointer (some ⟨g, 0, none⟩), .int .i64 24] ?_; (with_reducible refine (spec_l01Next.calls g s0_0 s0_1 s0_2 24 t349 t350 t351 w0 _ ?_ ?_ A2.out).mono ?_); exact Zm; exact Zn; rintro e w7 ⟨rfl, hi, hb, hk⟩; refine ⟨_, rfl, ?_⟩; replace HK := am_ (KeepBut.trans Zo hk (.inl rfl)); replace HB := am_ (hb); replace HI0 := am_ (hi); clear hb hk hi; refine ?roundEnd))
 case roundEnd =>
  by_cases c3 : t349 = 0
  ·have H := HS_.out
   clear HS_; rw [if_pos c3] at H; have c3b0 := beq_iff_eq.mpr c3; have c3b1 := bne_eq_false_iff_eq.mpr c3; clear c3; obtain ⟨y352, hy352⟩ : ∃ y_ : List ByteArray, y_ = (([(⟨#[]⟩ : ByteArray), (⟨#[65, 100, 97]⟩ : ByteArray), (⟨#[97, 49]⟩ : ByteArray), (⟨#[97, 98, 99, 100, 101, 102, 103, 104, 105, 106, 107, 108, 109, 110, 111, 112]⟩ : ByteArray), (⟨#[97, 98, 99, 100, 101, 102, 103, 104, 105, 106, 107, 108, 109, 110, 111, 112, 113]⟩ : ByteArray), (⟨#[97, 32, 98]⟩ : ByteArray)] : List ByteArray)) := ⟨_, rfl⟩
   (first | (rw [← hy352] at H; with_reducible replace H := bindZ H) | rw [← hy352] at H | skip)
   have Ny352 := am_ hy352; clear hy352; replace H := Option.bind_eq_some_iff.mp H; obtain ⟨⟨t355, t356, t357⟩, A40, H⟩ := H
   dsimp only at H
   have A4 := am_ A40; clear A40
   by_cases c5 : 0 ≤ t355
   ·rw [if_pos c5] at H
    have c5b0 := decide_eq_true c5; clear c5
    by_cases c6 : t355 < (y352.length : Int)
    ·rw [if_pos c6] at H
     have c6b0 := decide_eq_true c6; clear c6; simp only [Option.some.injEq, Prod.mk.injEq] at H; obtain ⟨rfl, rfl, rfl⟩ := H
     go_wp2_with (first | ((with_reducible refine gate_dst (N := 6) rfl ?_); refine Kd.R_lit Kd.string _ 9 ?hg (N := 6) ?hd (xs := ([(⟨#[]⟩ : ByteArray), (⟨#[65, 100, 97]⟩ : ByteArray), (⟨#[97, 49]⟩ : ByteArray), (⟨#[97, 98, 99, 100, 101, 102, 103, 104, 105, 106, 107, 108, 109, 110, 111, 112]⟩ : ByteArray), (⟨#[97, 98, 99, 100, 101, 102, 103, 104, 105, 106, 107, 108, 109, 110, 111, 112, 113]⟩ : ByteArray), (⟨#[97, 32, 98]⟩ : ByteArray)] : List ByteArray)) (inner := [.string (⟨#[]⟩ : ByteArray), .string (⟨#[65, 100, 97]⟩ : ByteArray), .string (⟨#[97, 49]⟩ : ByteArray), .string (⟨#[97, 98, 99, 100, 101, 102, 103, 104, 105, 106, 107, 108, 109, 110, 111, 112]⟩ : ByteArray), .string (⟨#[97, 98, 99, 100, 101, 102, 103, 104, 105, 106, 107, 108, 109, 110, 111, 112, 113]⟩ : ByteArray), .string (⟨#[97, 32, 98]⟩ : ByteArray)]) (ok := fun _ => True) (okp := fun _ => True) ?hr ?hp (fun _ hk => hk) trivial (Below.refl _ _) (Nat.le_refl _) (by simp) ?_; (case hd => rfl); (case hg => rfl); (case hr => first | (go_simp; done) | (go_simp; rfl)); (case hp => exact (Reps.one (show Kd.M Kd.string _ _ _ (⟨#[]⟩ : ByteArray) [.string (⟨#[]⟩ : ByteArray)] from rfl) (Reps.one (show Kd.M Kd.string _ _ _ (⟨#[65, 100, 97]⟩ : ByteArray) [.string (⟨#[65, 100, 97]⟩ : ByteArray)] from rfl) (Reps.one (show Kd.M Kd.string _ _ _ (⟨#[97, 49]⟩ : ByteArray) [.string (⟨#[97, 49]⟩ : ByteArray)] from rfl) (Reps.one (show Kd.M Kd.string _ _ _ (⟨#[97, 98, 99, 100, 101, 102, 103, 104, 105, 106, 107, 108, 109, 110, 111, 112]⟩ : ByteArray) [.string (⟨#[97, 98, 99, 100, 101, 102, 103, 104, 105, 106, 107, 108, 109, 110, 111, 112]⟩ : ByteArray)] from rfl) (Reps.one (show Kd.M Kd.string _ _ _ (⟨#[97, 98, 99, 100, 101, 102, 103, 104, 105, 106, 107, 108, 109, 110, 111, 112, 113]⟩ : ByteArray) [.string (⟨#[97, 98, 99, 100, 101, 102, 103, 104, 105, 106, 107, 108, 109, 110, 111, 112, 113]⟩ : ByteArray)] from rfl) (Reps.one (show Kd.M Kd.string _ _ _ (⟨#[97, 32, 98]⟩ : ByteArray) [.string (⟨#[97, 32, 98]⟩ : ByteArray)] from rfl) (Reps.none _ _)))))))); intro v353 w8 ho9 hb hg_ hnew_; clear hg_ hnew_; (first | rw [← Ny352.out] at ho9 | (simp only [Int.reduceToNat] at ho9; rw [← Ny352.out] at ho9)); replace HO354 := am_ (Kd.R_lower ho9 (keep_size (w := w) (g := g) (row := none) Zo)); replace HK := am_ (KeepBut.trans Zo (KeepBut.of_below hb g none) (.inl rfl)); replace HB := (bsZ Zn hb); replace HI0 := am_ (IsS100.below Zm hb); clear hb ho9) | ((with_reducible refine gate_callee (f := 52) rfl ?_); refine gZ 8 Try.func52 #[.pointer (some ⟨g, 0, none⟩), .int .i64 6] ?_; (with_reducible refine (spec_l01Next.calls g s0_0 t350 t351 6 t355 t356 t357 w0 _ ?_ ?_ A4.out).mono ?_); exact Zm; exact Zn; rintro e w10 ⟨rfl, hi, hb, hk⟩; refine ⟨_, rfl, ?_⟩; replace HO354 := (hoZ (IsS100.apart (show IsS100 w0 _ g s0_0 t350 t351 from Zm) (Zaa HO354) (by decide)) hk); replace HK := am_ (KeepBut.trans Zo hk (.inl rfl)); replace HB := am_ (hb); replace HI0 := am_ (hi); clear hb hk hi; obtain ⟨Ao11, co11, eo11⟩ := Kd.R_slice HO354.out; subst eo11; have p358 : 0 ≤ (t355 : Int) := of_decide_eq_true Zc; have q358 : t355 < (y352.length : Int) := of_decide_eq_true Zc; obtain ⟨ad358, e358, hx358_0⟩ := Kd.at_string (Kd.R_reads' HO354.out).2.2 t355 p358 q358; cases e358; replace p358 := eq_true p358; replace q358 := eq_true q358))
     go_ret
     exact ⟨Zl, Zm, Zn, Zo⟩
    ·rw [if_neg c6] at H
     exact absurd H (by simp)
   ·rw [if_neg c5] at H
    exact absurd H (by simp)
  ·have H := HS_.out
   clear HS_; rw [if_neg c3] at H; have c3b0 := beq_eq_false_iff_ne.mpr c3; have c3b1 := bne_iff_ne.mpr c3; replace H := Option.bind_eq_some_iff.mp H; obtain ⟨⟨t359, t360, t361⟩, A120, H⟩ := H
   dsimp only at H
   have A12 := am_ A120; clear A120; simp only [Option.some.injEq, Prod.mk.injEq] at H; obtain ⟨rfl, rfl, rfl⟩ := H
   go_wp2_with (first | ((with_reducible refine gate_callee (f := 103) rfl ?_); refine gZ 12 Try.func103 #[.pointer (some ⟨g, 0, none⟩)] ?_; (with_reducible refine (spec_l01Good.calls g s0_0 t350 t351 t359 t360 t361 w0 _ ?_ ?_ A12.out).mono ?_); exact Zm; exact Zn; rintro e w14 ⟨rfl, hi, hb, hk⟩; refine ⟨_, rfl, ?_⟩; replace HK := am_ (KeepBut.trans Zo hk (.inl rfl)); replace HB := am_ (hb); replace HI0 := am_ (hi); clear hb hk hi))
   go_ret
   exact ⟨Zl, Zm, Zn, Zo⟩
def spec_l03Draw.f (s0_0 : List Int) (s0_1 : Int) (s0_2 : Int) (a1 : ByteArray) : Option (ByteArray × Int × Int × Int × Int × Int × Int × Int × Int × Int × Int) := (spec_l03Good.f s0_0 s0_1 s0_2 a1).bind fun bt363 => ((spec_l01Next.f s0_0 bt363.2.2.2.2.2.2.2.2.2.1 bt363.2.2.2.2.2.2.2.2.2.2 60).bind fun bt375 => (if bt375.1 = 0 then ((spec_l01Pick.f s0_0 bt375.2.1 bt375.2.2 (([19, 20, 300, 301] : List Int))).bind fun bt381 => (some (bt363.1, bt363.2.1, bt381.1, bt363.2.2.2.1, bt363.2.2.2.2.1, bt363.2.2.2.2.2.1, bt363.2.2.2.2.2.2.1, bt363.2.2.2.2.2.2.2.1, bt363.2.2.2.2.2.2.2.2.1, bt381.2.1, bt381.2.2))) else (if bt375.1 = 1 then ((spec_l01Pick.f s0_0 bt375.2.1 bt375.2.2 (([bt363.2.2.2.1, wrap64 (bt363.2.2.2.1 + 1), (-1)] : List Int))).bind fun bt387 => (some (bt363.1, bt363.2.1, bt363.2.2.1, bt363.2.2.2.1, bt387.1, bt363.2.2.2.2.2.1, bt363.2.2.2.2.2.2.1, bt363.2.2.2.2.2.2.2.1, bt363.2.2.2.2.2.2.2.2.1, bt387.2.1, bt387.2.2))) else (if bt375.1 = 2 then ((spec_l01Pick.f s0_0 bt375.2.1 bt375.2.2 (([0, 50, 51] : List Int))).bind fun bt393 => (some (bt363.1, bt363.2.1, bt363.2.2.1, bt363.2.2.2.1, bt363.2.2.2.2.1, bt393.1, bt363.2.2.2.2.2.2.1, bt363.2.2.2.2.2.2.2.1, bt363.2.2.2.2.2.2.2.2.1, bt393.2.1, bt393.2.2))) else (if bt375.1 = 3 then ((spec_l01DrawWord.f s0_0 bt375.2.1 bt375.2.2).bind fun bt396 => (some (bt396.1, bt363.2.1, bt363.2.2.1, bt363.2.2.2.1, bt363.2.2.2.2.1, bt363.2.2.2.2.2.1, bt363.2.2.2.2.2.2.1, bt363.2.2.2.2.2.2.2.1, bt363.2.2.2.2.2.2.2.2.1, bt396.2.1, bt396.2.2))) else (if bt375.1 = 4 then ((spec_l01Pick.f s0_0 bt375.2.1 bt375.2.2 (([0, 100000, 100001] : List Int))).bind fun bt402 => (some (bt363.1, bt363.2.1, bt363.2.2.1, bt363.2.2.2.1, bt363.2.2.2.2.1, bt363.2.2.2.2.2.1, bt363.2.2.2.2.2.2.1, bt402.1, bt363.2.2.2.2.2.2.2.2.1, bt402.2.1, bt402.2.2))) else (some (bt363.1, bt363.2.1, bt363.2.2.1, bt363.2.2.2.1, bt363.2.2.2.2.1, bt363.2.2.2.2.2.1, bt363.2.2.2.2.2.2.1, bt363.2.2.2.2.2.2.2.1, bt363.2.2.2.2.2.2.2.2.1, bt375.2.1, bt375.2.2))))))))
set_option maxHeartbeats 8000000 in
set_option maxRecDepth 100000 in
theorem spec_l03Draw.calls (g : Nat) (s0_0 : List Int) (s0_1 : Int) (s0_2 : Int) (a1 : ByteArray) (r1 : ByteArray) (r2 : Int) (r3 : Int) (r4 : Int) (r5 : Int) (r6 : Int) (r7 : Int) (r8 : Int) (r9 : Int) (r10 : Int) (r11 : Int) (w0 w : World) (hI : IsS100 w0 w g s0_0 s0_1 s0_2) (hB : Below w0.heap.size w0 w) (h : spec_l03Draw.f s0_0 s0_1 s0_2 a1 = some (r1, r2, r3, r4, r5, r6, r7, r8, r9, r10, r11)) :
  Calls Try.prog 98 #[.pointer (some ⟨g, 0, none⟩), .string a1] w fun e w' => e = .returned (.agg #[.string r1, .int .i64 r2, .int .i64 r3, .int .i64 r4, .int .i64 r5, .int .i64 r6, .int .i64 r7, .int .i64 r8, .int .i64 r9]) ∧ IsS100 w0 w' g s0_0 r10 r11 ∧ Below w0.heap.size w0 w' ∧ KeepBut w w' g none := by
 have hu62 := Try.underlying62; have HI0 := am_ hI; have HK := am_ (KeepBut.refl w g none); have HL := am_ hB.size; clear hI; have HW0 := am_ hB.size; have HB := am_ hB; clear hB; have H : ((spec_l03Good.f s0_0 s0_1 s0_2 a1).bind fun bt363 => ((spec_l01Next.f s0_0 bt363.2.2.2.2.2.2.2.2.2.1 bt363.2.2.2.2.2.2.2.2.2.2 60).bind fun bt375 => (if bt375.1 = 0 then ((spec_l01Pick.f s0_0 bt375.2.1 bt375.2.2 (([19, 20, 300, 301] : List Int))).bind fun bt381 => (some (bt363.1, bt363.2.1, bt381.1, bt363.2.2.2.1, bt363.2.2.2.2.1, bt363.2.2.2.2.2.1, bt363.2.2.2.2.2.2.1, bt363.2.2.2.2.2.2.2.1, bt363.2.2.2.2.2.2.2.2.1, bt381.2.1, bt381.2.2))) else (if bt375.1 = 1 then ((spec_l01Pick.f s0_0 bt375.2.1 bt375.2.2 (([bt363.2.2.2.1, wrap64 (bt363.2.2.2.1 + 1), (-1)] : List Int))).bind fun bt387 => (some (bt363.1, bt363.2.1, bt363.2.2.1, bt363.2.2.2.1, bt387.1, bt363.2.2.2.2.2.1, bt363.2.2.2.2.2.2.1, bt363.2.2.2.2.2.2.2.1, bt363.2.2.2.2.2.2.2.2.1, bt387.2.1, bt387.2.2))) else (if bt375.1 = 2 then ((spec_l01Pick.f s0_0 bt375.2.1 bt375.2.2 (([0, 50, 51] : List Int))).bind fun bt393 => (some (bt363.1, bt363.2.1, bt363.2.2.1, bt363.2.2.2.1, bt363.2.2.2.2.1, bt393.1, bt363.2.2.2.2.2.2.1, bt363.2.2.2.2.2.2.2.1, bt363.2.2.2.2.2.2.2.2.1, bt393.2.1, bt393.2.2))) else (if bt375.1 = 3 then ((spec_l01DrawWord.f s0_0 bt375.2.1 bt375.2.2).bind fun bt396 => (some (bt396.1, bt363.2.1, bt363.2.2.1, bt363.2.2.2.1, bt363.2.2.2.2.1, bt363.2.2.2.2.2.1, bt363.2.2.2.2.2.2.1, bt363.2.2.2.2.2.2.2.1, bt363.2.2.2.2.2.2.2.2.1, bt396.2.1, bt396.2.2))) else (if bt375.1 = 4 then ((spec_l01Pick.f s0_0 bt375.2.1 bt375.2.2 (([0, 100000, 100001] : List Int))).bind fun bt402 => (some (bt363.1, bt363.2.1, bt363.2.2.1, bt363.2.2.2.1, bt363.2.2.2.2.1, bt363.2.2.2.2.2.1, bt363.2.2.2.2.2.2.1, bt402.1, bt363.2.2.2.2.2.2.2.2.1, bt402.2.1, bt402.2.2))) else (some (bt363.1, bt363.2.1, bt363.2.2.1, bt363.2.2.2.1, bt363.2.2.2.2.1, bt363.2.2.2.2.2.1, bt363.2.2.2.2.2.2.1, bt363.2.2.2.2.2.2.2.1, bt363.2.2.2.2.2.2.2.2.1, bt375.2.1, bt375.2.2))))))))) = some (r1, r2, r3, r4, r5, r6, r7, r8, r9, r10, r11) := h; clear h; replace H := Option.bind_eq_some_iff.mp H; obtain ⟨⟨t363, t364, t365, t366, t367, t368, t369, t370, t371, t372, t373⟩, A30, H⟩ := H
 dsimp only at H
 have A3 := am_ A30; clear A30; replace H := Option.bind_eq_some_iff.mp H; obtain ⟨⟨t375, t376, t377⟩, A40, H⟩ := H
 dsimp only at H
 have A4 := am_ A40; clear A40; have HS_ := am_ H; clear H
 go_enter Try.func98, Try.ntmps98
 go_wp2_with (first | ((with_reducible refine gate_dst (N := 4) rfl ?_); refine boxZ 4 #[.string (⟨#[]⟩ : ByteArray), .int .i64 0, .int .i64 0, .int .i64 0, .int .i64 0, .int .i64 0, .int .i64 0, .int .i64 0, .int .i64 0] 62 ?_; intro gb362 hg w7 hbox hb; replace HB := (bsZ Zn hb); replace BK362 := am_ (hbox); replace GW362 := am_ ((Zau : w.heap.size ≤ gb362)); replace GE362 := am_ ((Nat.le_trans HW0.out (Zau : w.heap.size ≤ gb362) : w0.heap.size ≤ gb362)); replace HK := am_ (KeepBut.trans Zo (KeepBut.of_below hb g none) (.inl rfl)); replace NB0_362 := am_ ((Zav : g ≠ gb362)); replace NB362_0 := am_ ((Zaw : gb362 ≠ g)); replace HI0 := am_ (IsS100.below Zm hb); clear hb hbox hg) | ((with_reducible refine gate_callee (f := 97) rfl ?_); refine gZ 8 Try.func97 #[.pointer (some ⟨g, 0, none⟩), .string a1] ?_; (with_reducible refine (spec_l03Good.calls g s0_0 s0_1 s0_2 a1 t363 t364 t365 t366 t367 t368 t369 t370 t371 t372 t373 w0 _ ?_ ?_ A3.out).mono ?_); exact (Zax NB0_362); exact (Zay GE362); rintro e w8 ⟨rfl, hi, hb, hk⟩; refine ⟨_, rfl, ?_⟩; replace BK362 := (kbZ BK362 hk NB362_0); replace HK := am_ (KeepBut.trans (Zaz GW362) hk (.inl rfl)); replace HB := am_ (hb); replace HI0 := am_ (hi); clear hb hk hi) | ((with_reducible refine gate_dst (N := 5) rfl ?_); refine boxZ 5 #[.string (⟨#[]⟩ : ByteArray), .int .i64 0, .int .i64 0, .int .i64 0, .int .i64 0, .int .i64 0, .int .i64 0, .int .i64 0, .int .i64 0] 62 ?_; intro gb374 hg w9 hbox hb; replace HB := (bsZ (Zay GE362) hb); replace BK374 := am_ (hbox); replace GW374 := am_ (((Zba GW362) : w.heap.size ≤ gb374)); replace GE374 := am_ ((Nat.le_trans HW0.out ((Zba GW362) : w.heap.size ≤ gb374) : w0.heap.size ≤ gb374)); replace HK := am_ (KeepBut.trans (Zaz GW362) (KeepBut.of_below hb g none) (.inl rfl)); replace NB362_374 := am_ ((by rw [hg]; exact Nat.ne_of_lt (blk_lt (g := gb362) (b0Z BK362)) : gb362 ≠ gb374)); replace NB374_362 := am_ ((by rw [hg]; exact Nat.ne_of_gt (blk_lt (g := gb362) (b0Z BK362)) : gb374 ≠ gb362)); replace BK362 := (bkZ BK362 hb); replace NB0_374 := am_ ((by rw [hg]; exact Nat.ne_of_lt (IsS100.lt (show IsS100 w0 _ g s0_0 t372 t373 from (Zax NB0_362))) : g ≠ gb374)); replace NB374_0 := am_ ((by rw [hg]; exact Nat.ne_of_gt (IsS100.lt (show IsS100 w0 _ g s0_0 t372 t373 from (Zax NB0_362))) : gb374 ≠ g)); replace HI0 := am_ (IsS100.below (Zax NB0_362) hb); clear hb hbox hg; have hnb10 := NB374_362.out; have hnc10 := NB362_374.out; have hnb11 := NB374_0.out; have hnc11 := NB0_374.out; refine ci9 BK374 ?_; intros) | ((with_reducible refine gate_callee (f := 52) rfl ?_); refine gZ 10 Try.func52 #[.pointer (some ⟨g, 0, none⟩), .int .i64 60] ?_; (with_reducible refine (spec_l01Next.calls g s0_0 t372 t373 60 t375 t376 t377 w0 _ ?_ ?_ A4.out).mono ?_); exact (Zbd NB0_362 NB0_374); exact (Zbe GE362 GE374); rintro e w13 ⟨rfl, hi, hb, hk⟩; refine ⟨_, rfl, ?_⟩; replace BK362 := am_ (KeepBut.blk hk (g' := gb362) (bfZ BK362 NB362_374) NB362_0.out (by simp)); replace BK374 := am_ (KeepBut.blk hk (g' := gb374) (o := .cells #[.string t363, .int .i64 t364, .int .i64 t365, .int .i64 t366, .int .i64 t367, .int .i64 t368, .int .i64 t369, .int .i64 t370, .int .i64 t371] 62 (0, 0)) (bpZ BK374) NB374_0.out (by simp)); replace HK := am_ (KeepBut.trans (Zbf GW362 GW374) hk (.inl rfl)); replace HB := am_ (hb); replace HI0 := am_ (hi); clear hb hk hi; refine ?roundEnd))
 case roundEnd =>
  by_cases c5 : t375 = 0
  ·have H := HS_.out
   clear HS_; rw [if_pos c5] at H; have c5b0 := beq_iff_eq.mpr c5; have c5b1 := bne_eq_false_iff_eq.mpr c5; clear c5; obtain ⟨y378, hy378⟩ : ∃ y_ : List Int, y_ = (([19, 20, 300, 301] : List Int)) := ⟨_, rfl⟩
   (first | (rw [← hy378] at H; with_reducible replace H := bindZ H) | rw [← hy378] at H | skip)
   have Ny378 := am_ hy378; clear hy378; replace H := Option.bind_eq_some_iff.mp H; obtain ⟨⟨t381, t382, t383⟩, A60, H⟩ := H
   dsimp only at H
   have A6 := am_ A60; clear A60; simp only [Option.some.injEq, Prod.mk.injEq] at H; obtain ⟨rfl, rfl, rfl, rfl, rfl, rfl, rfl, rfl, rfl, rfl, rfl⟩ := H
   go_wp2_with (first | ((with_reducible refine gate_dst (N := 14) rfl ?_); refine Kd.R_lit (Kd.int .i64) _ 2 ?hg (N := 14) ?hd (xs := ([19, 20, 300, 301] : List Int)) (inner := [.int .i64 19, .int .i64 20, .int .i64 300, .int .i64 301]) (ok := fun _ => True) (okp := fun _ => True) ?hr ?hp (fun _ hk => hk) trivial (Below.refl _ _) (Nat.le_refl _) (by simp) ?_; (case hd => rfl); (case hg => rfl); (case hr => first | (go_simp; done) | (go_simp; rfl)); (case hp => exact (Reps.one (show Kd.M (Kd.int .i64) _ _ _ 19 [.int .i64 19] from rfl) (Reps.one (show Kd.M (Kd.int .i64) _ _ _ 20 [.int .i64 20] from rfl) (Reps.one (show Kd.M (Kd.int .i64) _ _ _ 300 [.int .i64 300] from rfl) (Reps.one (show Kd.M (Kd.int .i64) _ _ _ 301 [.int .i64 301] from rfl) (Reps.none _ _)))))); intro v379 w14 ho15 hb hg_ hnew_; clear hg_ hnew_; (first | rw [← Ny378.out] at ho15 | (simp only [Int.reduceToNat] at ho15; rw [← Ny378.out] at ho15)); replace HO380 := am_ (Kd.R_lower ho15 (keep_size (w := w) (g := g) (row := none) (Zbf GW362 GW374))); replace BK362 := (bkZ BK362 hb); replace BK374 := (bkZ BK374 hb); replace HK := am_ (KeepBut.trans (Zbf GW362 GW374) (KeepBut.of_below hb g none) (.inl rfl)); replace HB := (bsZ (Zbe GE362 GE374) hb); replace HI0 := am_ (IsS100.below (Zbd NB0_362 NB0_374) hb); clear hb ho15; obtain ⟨Ao16, co16, eo16⟩ := Kd.R_slice HO380.out; subst eo16) | ((with_reducible refine gate_callee (f := 51) rfl ?_); refine gZ 15 Try.func51 #[.pointer (some ⟨g, 0, none⟩), .slice Ao16 y378.length co16] ?_; (with_reducible refine (spec_l01Pick.calls g s0_0 t376 t377 _ _ y378 t381 t382 t383 w0 _ ?_ ?_ ?_ ?_ ?_ A6.out).mono ?_); exact (Zbd NB0_362 NB0_374); exact (Zbe GE362 GE374); exact (Zar HO380); exact (Kd.R_reads' HO380.out).2.1; exact far_slice (IsS100.own_ne HI0.out HO380.out (by decide)); rintro e w17 ⟨rfl, hi, hb, hk⟩; refine ⟨_, rfl, ?_⟩; replace BK362 := (kbZ BK362 hk NB362_0); replace BK374 := (kbZ BK374 hk NB374_0); replace HO380 := (hoZ (IsS100.apart (show IsS100 w0 _ g s0_0 t376 t377 from (Zbd NB0_362 NB0_374)) (Zaa HO380) (by decide)) hk); replace HK := am_ (KeepBut.trans (Zbf GW362 GW374) hk (.inl rfl)); replace HB := am_ (hb); replace HI0 := am_ (hi); clear hb hk hi; refine ci9 BK374 ?_; intros; have hnb19 := NB362_0.out; have hnc19 := NB0_362.out; refine ci9 BK362 ?_; intros))
   refine bodyPost_ret (results_cell_row rfl _ _ gb362 62 #[.string t363, .int .i64 t364, .int .i64 t381, .int .i64 t366, .int .i64 t367, .int .i64 t368, .int .i64 t369, .int .i64 t370, .int .i64 t371] (0, 0) _ rfl (bmZ BK362 NB362_374) Try.underlying62 rfl Zk) rfl ?_; exact ⟨Zl, (Zbd NB0_362 NB0_374), (Zbe GE362 GE374), (Zbf GW362 GW374)⟩
  ·have H := HS_.out
   clear HS_; rw [if_neg c5] at H; have c5b0 := beq_eq_false_iff_ne.mpr c5; have c5b1 := bne_iff_ne.mpr c5; have HS_ := am_ H; clear H
   by_cases c21 : t375 = 1
   ·have H := HS_.out
    clear HS_; rw [if_pos c21] at H; have c21b0 := beq_iff_eq.mpr c21; have c21b1 := bne_eq_false_iff_eq.mpr c21; clear c21; obtain ⟨y384, hy384⟩ : ∃ y_ : List Int, y_ = (([t366, wrap64 (t366 + 1), (-1)] : List Int)) := ⟨_, rfl⟩
    (first | (rw [← hy384] at H; with_reducible replace H := bindZ H) | rw [← hy384] at H | skip)
    have Ny384 := am_ hy384; clear hy384; replace H := Option.bind_eq_some_iff.mp H; obtain ⟨⟨t387, t388, t389⟩, A220, H⟩ := H
    dsimp only at H
    have A22 := am_ A220; clear A220; simp only [Option.some.injEq, Prod.mk.injEq] at H; obtain ⟨rfl, rfl, rfl, rfl, rfl, rfl, rfl, rfl, rfl, rfl, rfl⟩ := H; refine ci9 BK374 ?_; intros
    go_wp2_with (first | ((with_reducible refine gate_dst (N := 25) rfl ?_); refine Kd.R_lit (Kd.int .i64) _ 2 ?hg (N := 25) ?hd (xs := ([t366, wrap64 (t366 + 1), (-1)] : List Int)) (inner := [.int .i64 t366, .int .i64 (wrap64 (t366 + 1)), .int .i64 (-1)]) (ok := fun _ => True) (okp := fun _ => True) ?hr ?hp (fun _ hk => hk) trivial (Below.refl _ _) (Nat.le_refl _) (by simp) ?_; (case hd => rfl); (case hg => rfl); (case hr => first | (go_simp; done) | (go_simp; rfl)); (case hp => exact (Reps.one (show Kd.M (Kd.int .i64) _ _ _ t366 [.int .i64 t366] from rfl) (Reps.one (show Kd.M (Kd.int .i64) _ _ _ (wrap64 (t366 + 1)) [.int .i64 (wrap64 (t366 + 1))] from rfl) (Reps.one (show Kd.M (Kd.int .i64) _ _ _ (-1) [.int .i64 (-1)] from rfl) (Reps.none _ _))))); intro v385 w31 ho32 hb hg_ hnew_; clear hg_ hnew_; (first | rw [← Ny384.out] at ho32 | (simp only [Int.reduceToNat] at ho32; rw [← Ny384.out] at ho32)); replace HO386 := am_ (Kd.R_lower ho32 (keep_size (w := w) (g := g) (row := none) (Zbf GW362 GW374))); replace BK362 := (bkZ BK362 hb); replace BK374 := (bkZ BK374 hb); replace HK := am_ (KeepBut.trans (Zbf GW362 GW374) (KeepBut.of_below hb g none) (.inl rfl)); replace HB := (bsZ (Zbe GE362 GE374) hb); replace HI0 := am_ (IsS100.below (Zbd NB0_362 NB0_374) hb); clear hb ho32; obtain ⟨Ao33, co33, eo33⟩ := Kd.R_slice HO386.out; subst eo33) | ((with_reducible refine gate_callee (f := 51) rfl ?_); refine gZ 26 Try.func51 #[.pointer (some ⟨g, 0, none⟩), .slice Ao33 y384.length co33] ?_; (with_reducible refine (spec_l01Pick.calls g s0_0 t376 t377 _ _ y384 t387 t388 t389 w0 _ ?_ ?_ ?_ ?_ ?_ A22.out).mono ?_); exact (Zbd NB0_362 NB0_374); exact (Zbe GE362 GE374); exact (Zar HO386); exact (Kd.R_reads' HO386.out).2.1; exact far_slice (IsS100.own_ne HI0.out HO386.out (by decide)); rintro e w34 ⟨rfl, hi, hb, hk⟩; refine ⟨_, rfl, ?_⟩; replace BK362 := (kbZ BK362 hk NB362_0); replace BK374 := (kbZ BK374 hk NB374_0); replace HO386 := (hoZ (IsS100.apart (show IsS100 w0 _ g s0_0 t376 t377 from (Zbd NB0_362 NB0_374)) (Zaa HO386) (by decide)) hk); replace HK := am_ (KeepBut.trans (Zbf GW362 GW374) hk (.inl rfl)); replace HB := am_ (hb); replace HI0 := am_ (hi); clear hb hk hi; refine ci9 BK374 ?_; intros; have hnb36 := NB362_0.out; have hnc36 := NB0_362.out; refine ci9 BK362 ?_; intros))
    refine bodyPost_ret (results_cell_row rfl _ _ gb362 62 #[.string t363, .int .i64 t364, .int .i64 t365, .int .i64 t366, .int .i64 t387, .int .i64 t368, .int .i64 t369, .int .i64 t370, .int .i64 t371] (0, 0) _ rfl (bmZ BK362 NB362_374) Try.underlying62 rfl Zk) rfl ?_; exact ⟨Zl, (Zbd NB0_362 NB0_374), (Zbe GE362 GE374), (Zbf GW362 GW374)⟩
   ·have H := HS_.out
    clear HS_; rw [if_neg c21] at H; have c21b0 := beq_eq_false_iff_ne.mpr c21; have c21b1 := bne_iff_ne.mpr c21; have HS_ := am_ H; clear H
    by_cases c38 : t375 = 2
    ·have H := HS_.out
     clear HS_; rw [if_pos c38] at H; have c38b0 := beq_iff_eq.mpr c38; have c38b1 := bne_eq_false_iff_eq.mpr c38; clear c38; obtain ⟨y390, hy390⟩ : ∃ y_ : List Int, y_ = (([0, 50, 51] : List Int)) := ⟨_, rfl⟩
     (first | (rw [← hy390] at H; with_reducible replace H := bindZ H) | rw [← hy390] at H | skip)
     have Ny390 := am_ hy390; clear hy390; replace H := Option.bind_eq_some_iff.mp H; obtain ⟨⟨t393, t394, t395⟩, A390, H⟩ := H
     dsimp only at H
     have A39 := am_ A390; clear A390; simp only [Option.some.injEq, Prod.mk.injEq] at H; obtain ⟨rfl, rfl, rfl, rfl, rfl, rfl, rfl, rfl, rfl, rfl, rfl⟩ := H
     go_wp2_with (first | ((with_reducible refine gate_dst (N := 31) rfl ?_); refine Kd.R_lit (Kd.int .i64) _ 2 ?hg (N := 31) ?hd (xs := ([0, 50, 51] : List Int)) (inner := [.int .i64 0, .int .i64 50, .int .i64 51]) (ok := fun _ => True) (okp := fun _ => True) ?hr ?hp (fun _ hk => hk) trivial (Below.refl _ _) (Nat.le_refl _) (by simp) ?_; (case hd => rfl); (case hg => rfl); (case hr => first | (go_simp; done) | (go_simp; rfl)); (case hp => exact (Reps.one (show Kd.M (Kd.int .i64) _ _ _ 0 [.int .i64 0] from rfl) (Reps.one (show Kd.M (Kd.int .i64) _ _ _ 50 [.int .i64 50] from rfl) (Reps.one (show Kd.M (Kd.int .i64) _ _ _ 51 [.int .i64 51] from rfl) (Reps.none _ _))))); intro v391 w47 ho48 hb hg_ hnew_; clear hg_ hnew_; (first | rw [← Ny390.out] at ho48 | (simp only [Int.reduceToNat] at ho48; rw [← Ny390.out] at ho48)); replace HO392 := am_ (Kd.R_lower ho48 (keep_size (w := w) (g := g) (row := none) (Zbf GW362 GW374))); replace BK362 := (bkZ BK362 hb); replace BK374 := (bkZ BK374 hb); replace HK := am_ (KeepBut.trans (Zbf GW362 GW374) (KeepBut.of_below hb g none) (.inl rfl)); replace HB := (bsZ (Zbe GE362 GE374) hb); replace HI0 := am_ (IsS100.below (Zbd NB0_362 NB0_374) hb); clear hb ho48; obtain ⟨Ao49, co49, eo49⟩ := Kd.R_slice HO392.out; subst eo49) | ((with_reducible refine gate_callee (f := 51) rfl ?_); refine gZ 32 Try.func51 #[.pointer (some ⟨g, 0, none⟩), .slice Ao49 y390.length co49] ?_; (with_reducible refine (spec_l01Pick.calls g s0_0 t376 t377 _ _ y390 t393 t394 t395 w0 _ ?_ ?_ ?_ ?_ ?_ A39.out).mono ?_); exact (Zbd NB0_362 NB0_374); exact (Zbe GE362 GE374); exact (Zar HO392); exact (Kd.R_reads' HO392.out).2.1; exact far_slice (IsS100.own_ne HI0.out HO392.out (by decide)); rintro e w50 ⟨rfl, hi, hb, hk⟩; refine ⟨_, rfl, ?_⟩; replace BK362 := (kbZ BK362 hk NB362_0); replace BK374 := (kbZ BK374 hk NB374_0); replace HO392 := (hoZ (IsS100.apart (show IsS100 w0 _ g s0_0 t376 t377 from (Zbd NB0_362 NB0_374)) (Zaa HO392) (by decide)) hk); replace HK := am_ (KeepBut.trans (Zbf GW362 GW374) hk (.inl rfl)); replace HB := am_ (hb); replace HI0 := am_ (hi); clear hb hk hi; refine ci9 BK374 ?_; intros; have hnb52 := NB362_0.out; have hnc52 := NB0_362.out; refine ci9 BK362 ?_; intros))
     refine bodyPost_ret (results_cell_row rfl _ _ gb362 62 #[.string t363, .int .i64 t364, .int .i64 t365, .int .i64 t366, .int .i64 t367, .int .i64 t393, .int .i64 t369, .int .i64 t370, .int .i64 t371] (0, 0) _ rfl (bmZ BK362 NB362_374) Try.underlying62 rfl Zk) rfl ?_; exact ⟨Zl, (Zbd NB0_362 NB0_374), (Zbe GE362 GE374), (Zbf GW362 GW374)⟩
    ·have H := HS_.out
     clear HS_; rw [if_neg c38] at H; have c38b0 := beq_eq_false_iff_ne.mpr c38; have c38b1 := bne_iff_ne.mpr c38; have HS_ := am_ H; clear H
     by_cases c54 : t375 = 3
     ·have H := HS_.out
      clear HS_; rw [if_pos c54] at H; have c54b0 := beq_iff_eq.mpr c54; have c54b1 := bne_eq_false_iff_eq.mpr c54; clear c54; replace H := Option.bind_eq_some_iff.mp H; obtain ⟨⟨t396, t397, t398⟩, A550, H⟩ := H
      dsimp only at H
      have A55 := am_ A550; clear A550; simp only [Option.some.injEq, Prod.mk.injEq] at H; obtain ⟨rfl, rfl, rfl, rfl, rfl, rfl, rfl, rfl, rfl, rfl, rfl⟩ := H
      go_wp2_with (first | ((with_reducible refine gate_callee (f := 102) rfl ?_); refine gZ 37 Try.func102 #[.pointer (some ⟨g, 0, none⟩)] ?_; (with_reducible refine (spec_l01DrawWord.calls g s0_0 t376 t377 t396 t397 t398 w0 _ ?_ ?_ A55.out).mono ?_); exact (Zbd NB0_362 NB0_374); exact (Zbe GE362 GE374); rintro e w63 ⟨rfl, hi, hb, hk⟩; refine ⟨_, rfl, ?_⟩; replace BK362 := (kbZ BK362 hk NB362_0); replace BK374 := (kbZ BK374 hk NB374_0); replace HK := am_ (KeepBut.trans (Zbf GW362 GW374) hk (.inl rfl)); replace HB := am_ (hb); replace HI0 := am_ (hi); clear hb hk hi; refine ci9 BK374 ?_; intros; have hnb65 := NB362_0.out; have hnc65 := NB0_362.out; refine ci9 BK362 ?_; intros))
      refine bodyPost_ret (results_cell_row rfl _ _ gb362 62 #[.string t396, .int .i64 t364, .int .i64 t365, .int .i64 t366, .int .i64 t367, .int .i64 t368, .int .i64 t369, .int .i64 t370, .int .i64 t371] (0, 0) _ rfl (bmZ BK362 NB362_374) Try.underlying62 rfl Zk) rfl ?_; exact ⟨Zl, (Zbd NB0_362 NB0_374), (Zbe GE362 GE374), (Zbf GW362 GW374)⟩
     ·have H := HS_.out
      clear HS_; rw [if_neg c54] at H; have c54b0 := beq_eq_false_iff_ne.mpr c54; have c54b1 := bne_iff_ne.mpr c54; have HS_ := am_ H; clear H
      by_cases c67 : t375 = 4
      ·have H := HS_.out
       clear HS_; rw [if_pos c67] at H; have c67b0 := beq_iff_eq.mpr c67; have c67b1 := bne_eq_false_iff_eq.mpr c67; clear c67; obtain ⟨y399, hy399⟩ : ∃ y_ : List Int, y_ = (([0, 100000, 100001] : List Int)) := ⟨_, rfl⟩
       (first | (rw [← hy399] at H; with_reducible replace H := bindZ H) | rw [← hy399] at H | skip)
       have Ny399 := am_ hy399; clear hy399; replace H := Option.bind_eq_some_iff.mp H; obtain ⟨⟨t402, t403, t404⟩, A680, H⟩ := H
       dsimp only at H
       have A68 := am_ A680; clear A680; simp only [Option.some.injEq, Prod.mk.injEq] at H; obtain ⟨rfl, rfl, rfl, rfl, rfl, rfl, rfl, rfl, rfl, rfl, rfl⟩ := H
       go_wp2_with (first | ((with_reducible refine gate_dst (N := 42) rfl ?_); refine Kd.R_lit (Kd.int .i64) _ 2 ?hg (N := 42) ?hd (xs := ([0, 100000, 100001] : List Int)) (inner := [.int .i64 0, .int .i64 100000, .int .i64 100001]) (ok := fun _ => True) (okp := fun _ => True) ?hr ?hp (fun _ hk => hk) trivial (Below.refl _ _) (Nat.le_refl _) (by simp) ?_; (case hd => rfl); (case hg => rfl); (case hr => first | (go_simp; done) | (go_simp; rfl)); (case hp => exact (Reps.one (show Kd.M (Kd.int .i64) _ _ _ 0 [.int .i64 0] from rfl) (Reps.one (show Kd.M (Kd.int .i64) _ _ _ 100000 [.int .i64 100000] from rfl) (Reps.one (show Kd.M (Kd.int .i64) _ _ _ 100001 [.int .i64 100001] from rfl) (Reps.none _ _))))); intro v400 w76 ho77 hb hg_ hnew_; clear hg_ hnew_; (first | rw [← Ny399.out] at ho77 | (simp only [Int.reduceToNat] at ho77; rw [← Ny399.out] at ho77)); replace HO401 := am_ (Kd.R_lower ho77 (keep_size (w := w) (g := g) (row := none) (Zbf GW362 GW374))); replace BK362 := (bkZ BK362 hb); replace BK374 := (bkZ BK374 hb); replace HK := am_ (KeepBut.trans (Zbf GW362 GW374) (KeepBut.of_below hb g none) (.inl rfl)); replace HB := (bsZ (Zbe GE362 GE374) hb); replace HI0 := am_ (IsS100.below (Zbd NB0_362 NB0_374) hb); clear hb ho77; obtain ⟨Ao78, co78, eo78⟩ := Kd.R_slice HO401.out; subst eo78) | ((with_reducible refine gate_callee (f := 51) rfl ?_); refine gZ 43 Try.func51 #[.pointer (some ⟨g, 0, none⟩), .slice Ao78 y399.length co78] ?_; (with_reducible refine (spec_l01Pick.calls g s0_0 t376 t377 _ _ y399 t402 t403 t404 w0 _ ?_ ?_ ?_ ?_ ?_ A68.out).mono ?_); exact (Zbd NB0_362 NB0_374); exact (Zbe GE362 GE374); exact (Zar HO401); exact (Kd.R_reads' HO401.out).2.1; exact far_slice (IsS100.own_ne HI0.out HO401.out (by decide)); rintro e w79 ⟨rfl, hi, hb, hk⟩; refine ⟨_, rfl, ?_⟩; replace BK362 := (kbZ BK362 hk NB362_0); replace BK374 := (kbZ BK374 hk NB374_0); replace HO401 := (hoZ (IsS100.apart (show IsS100 w0 _ g s0_0 t376 t377 from (Zbd NB0_362 NB0_374)) (Zaa HO401) (by decide)) hk); replace HK := am_ (KeepBut.trans (Zbf GW362 GW374) hk (.inl rfl)); replace HB := am_ (hb); replace HI0 := am_ (hi); clear hb hk hi; refine ci9 BK374 ?_; intros; have hnb81 := NB362_0.out; have hnc81 := NB0_362.out; refine ci9 BK362 ?_; intros))
       refine bodyPost_ret (results_cell_row rfl _ _ gb362 62 #[.string t363, .int .i64 t364, .int .i64 t365, .int .i64 t366, .int .i64 t367, .int .i64 t368, .int .i64 t369, .int .i64 t402, .int .i64 t371] (0, 0) _ rfl (bmZ BK362 NB362_374) Try.underlying62 rfl Zk) rfl ?_; exact ⟨Zl, (Zbd NB0_362 NB0_374), (Zbe GE362 GE374), (Zbf GW362 GW374)⟩
      ·have H := HS_.out
       clear HS_; rw [if_neg c67] at H; have c67b0 := beq_eq_false_iff_ne.mpr c67; have c67b1 := bne_iff_ne.mpr c67; simp only [Option.some.injEq, Prod.mk.injEq] at H; obtain ⟨rfl, rfl, rfl, rfl, rfl, rfl, rfl, rfl, rfl, rfl, rfl⟩ := H; refine ci9 BK374 ?_; intros; have hnb91 := NB362_0.out; have hnc91 := NB0_362.out; refine ci9 BK362 ?_; intros
       go_wp2_with (first | fail)
       refine bodyPost_ret (results_cell_row rfl _ _ gb362 62 #[.string t363, .int .i64 t364, .int .i64 t365, .int .i64 t366, .int .i64 t367, .int .i64 t368, .int .i64 t369, .int .i64 t370, .int .i64 t371] (0, 0) _ rfl (bpZ BK362) Try.underlying62 rfl Zk) rfl ?_; exact ⟨Zl, (Zbd NB0_362 NB0_374), (Zbe GE362 GE374), (Zbf GW362 GW374)⟩
mutual
def spec_l03List.l0 : Nat → List (S62) → List ByteArray → Int → List Int → Int → Int → Option ((List (S62)) × Int × Int)
 | 0, _, _, _, _, _, _ => none
 | k + 1, x3, x4, x5, x1000, x1001, x1002 => if x5 < (x4.length : Int) then ((spec_l01Next.f x1000 x1001 x1002 3).bind fun bt411 => (if bt411.1 > 0 then (if 0 ≤ x5 then ((spec_l03Draw.f x1000 bt411.2.1 bt411.2.2 (rdOf ByteArray.empty x4 x5)).bind fun bt415 => (if x3.length < 1759218604441 then (spec_l03List.l0 k (x3 ++ [(⟨bt415.1, bt415.2.1, bt415.2.2.1, bt415.2.2.2.1, bt415.2.2.2.2.1, bt415.2.2.2.2.2.1, bt415.2.2.2.2.2.2.1, bt415.2.2.2.2.2.2.2.1, bt415.2.2.2.2.2.2.2.2.1⟩ : S62)]) x4 (wrap64 (x5 + 1)) x1000 bt415.2.2.2.2.2.2.2.2.2.1 bt415.2.2.2.2.2.2.2.2.2.2) else (none))) else (none)) else (spec_l03List.l0 k x3 x4 (wrap64 (x5 + 1)) x1000 bt411.2.1 bt411.2.2))) else ((spec_l01Next.f x1000 x1001 x1002 30).bind fun bt429 => (if bt429.1 = 0 then ((spec_l03Good.f x1000 bt429.2.1 bt429.2.2 (⟨#[97, 115, 116, 101, 114]⟩ : ByteArray)).bind fun bt432 => (if x3.length < 1759218604441 then (some ((x3 ++ [(⟨bt432.1, bt432.2.1, bt432.2.2.1, bt432.2.2.2.1, bt432.2.2.2.2.1, bt432.2.2.2.2.2.1, bt432.2.2.2.2.2.2.1, bt432.2.2.2.2.2.2.2.1, bt432.2.2.2.2.2.2.2.2.1⟩ : S62)]), bt432.2.2.2.2.2.2.2.2.2.1, bt432.2.2.2.2.2.2.2.2.2.2)) else (none))) else (if bt429.1 = 1 then (spec_l03List.l1 k x3 0 x1000 bt429.2.1 bt429.2.2) else (some (x3, bt429.2.1, bt429.2.2)))))
def spec_l03List.l1 : Nat → List (S62) → Int → List Int → Int → Int → Option ((List (S62)) × Int × Int)
 | 0, _, _, _, _, _ => none
 | k + 1, x3, x6, x1000, x1001, x1002 => (spec_l01Next.f x1000 x1001 x1002 2).bind fun bt446 => (if (x3.length : Int) < (wrap64 (12 + bt446.1)) then (if x6 < 14 then (if 0 ≤ x6 then (if x6 ≤ (wrap64 (x6 + 1)) then (if (wrap64 (x6 + 1)) ≤ 14 then (if 1 + ((⟨#[97, 98, 99, 100, 101, 102, 103, 104, 105, 106, 107, 108, 109, 110]⟩ : ByteArray).extract (x6 : Int).toNat ((wrap64 (x6 + 1)) : Int).toNat).size ≤ 9223372036854775807 then ((spec_l03Good.f x1000 bt446.2.1 bt446.2.2 ((⟨#[120]⟩ : ByteArray) ++ ((⟨#[97, 98, 99, 100, 101, 102, 103, 104, 105, 106, 107, 108, 109, 110]⟩ : ByteArray).extract (x6 : Int).toNat ((wrap64 (x6 + 1)) : Int).toNat))).bind fun bt449 => (if x3.length < 1759218604441 then (spec_l03List.l1 k (x3 ++ [(⟨bt449.1, bt449.2.1, bt449.2.2.1, bt449.2.2.2.1, bt449.2.2.2.2.1, bt449.2.2.2.2.2.1, bt449.2.2.2.2.2.2.1, bt449.2.2.2.2.2.2.2.1, bt449.2.2.2.2.2.2.2.2.1⟩ : S62)]) (wrap64 (x6 + 1)) x1000 bt449.2.2.2.2.2.2.2.2.2.1 bt449.2.2.2.2.2.2.2.2.2.2) else (none))) else (none)) else (none)) else (none)) else (none)) else (some (x3, bt446.2.1, bt446.2.2))) else (some (x3, bt446.2.1, bt446.2.2)))
end
def spec_l03List.f (k : Nat) (s0_0 : List Int) (s0_1 : Int) (s0_2 : Int) : Option ((List (S62)) × Int × Int) := (spec_l03Names.f).bind fun t408 => (spec_l03List.l0 k (([] : List (S62))) t408 0 s0_0 s0_1 s0_2)
set_option maxHeartbeats 8000000 in
set_option maxRecDepth 100000 in
theorem spec_l03List.calls (k : Nat) (g : Nat) (s0_0 : List Int) (s0_1 : Int) (s0_2 : Int) (r1 : List (S62)) (r2 : Int) (r3 : Int) (w0 w : World) (hI : IsS100 w0 w g s0_0 s0_1 s0_2) (hB : Below w0.heap.size w0 w) (h : spec_l03List.f k s0_0 s0_1 s0_2 = some (r1, r2, r3)) :
  Calls Try.prog 86 #[.pointer (some ⟨g, 0, none⟩)] w fun e w' => ∃ v0_ : Value, e = .returned (v0_) ∧ Kd.R k62 62 w' w.heap.size (fun _ => True) v0_ r1 ∧ IsS100 w0 w' g s0_0 r2 r3 ∧ Below w0.heap.size w0 w' ∧ KeepBut w w' g none := by
 have HI0 := am_ hI; have HK := am_ (KeepBut.refl w g none); have HL := am_ hB.size; clear hI; have HW0 := am_ hB.size; have HB := am_ hB; clear hB; have H : ((spec_l03Names.f).bind fun t408 => (spec_l03List.l0 k (([] : List (S62))) t408 0 s0_0 s0_1 s0_2)) = some (r1, r2, r3) := h; clear h; obtain ⟨y405, hy405⟩ : ∃ y_ : List (S62), y_ = (([] : List (S62))) := ⟨_, rfl⟩
 replace H : ((spec_l03Names.f).bind fun t408 => (spec_l03List.l0 k y405 t408 0 s0_0 s0_1 s0_2)) = some (r1, r2, r3) := by (try rw [hy405]); first | with_reducible exact H | with_reducible exact (Option.bind_some _ _).symm.trans H | exact H
 have Ny405 := am_ hy405; clear hy405; replace H := Option.bind_eq_some_iff.mp H; obtain ⟨t408, A20, H⟩ := H; have A2 := am_ A20; clear A20; have H' := am_ H; clear H
 go_enter Try.func86, Try.ntmps86
 go_wp2_with (first | ((with_reducible refine gate_dst (N := 7) rfl ?_); refine Kd.R_lit k62 _ 62 ?hg (N := 7) ?hd (xs := ([] : List (S62))) (inner := []) (ok := fun _ => True) (okp := fun _ => True) ?hr ?hp (fun _ hk => hk) trivial (Below.refl _ _) (Nat.le_refl _) (by simp) ?_; (case hd => rfl); (case hg => rfl); (case hr => first | (go_simp; done) | (go_simp; rfl)); (case hp => exact (Reps.none _ _)); intro v406 w3 ho4 hb hg_ hnew_; clear hg_ hnew_; (first | rw [← Ny405.out] at ho4 | (simp only [Int.reduceToNat] at ho4; rw [← Ny405.out] at ho4)); replace HO407 := am_ (Kd.R_lower ho4 (keep_size (w := w) (g := g) (row := none) Zo)); replace HK := am_ (KeepBut.trans Zo (KeepBut.of_below hb g none) (.inl rfl)); replace HB := (bsZ Zn hb); replace HI0 := am_ (IsS100.below Zm hb); clear hb ho4) | ((with_reducible refine gate_callee (f := 96) rfl ?_); refine gZ 8 Try.func96 #[] ?_; (with_reducible refine (spec_l03Names.calls  t408 _ A2.out).mono ?_); rintro e w5 ⟨v409, rfl, ho0, hb⟩; refine ⟨_, rfl, ?_⟩; replace HO407 := (hbZ HO407 hb); replace HO410 := am_ (Kd.R_lower ho0 (keep_size (w := w) (g := g) (row := none) Zo)); replace HK := am_ (KeepBut.trans Zo (KeepBut.of_below hb g none) (.inl rfl)); replace HB := (bsZ Zn hb); replace HI0 := am_ (IsS100.below Zm hb); clear hb ho0))
 go_loopg [3, 5] k (fun kq v3 v5 w' => ∃ (x3_1 : List (S62)) (x5_1 : Int) (x1001_1 : Int) (x1002_1 : Int), v5 = .int .i64 x5_1 ∧ Aside0 (spec_l03List.l0 kq x3_1 t408 x5_1 s0_0 x1001_1 x1002_1 = some (r1, r2, r3)) ∧ Aside0 (kq ≤ k) ∧ Aside0 (Kd.R k62 62 w' w.heap.size (fun _ => True) v3 x3_1) ∧ Aside0 (Kd.R Kd.string 9 w' w.heap.size (fun _ => True) v409 t408) ∧ Aside0 (IsS100 w0 w' g s0_0 x1001_1 x1002_1) ∧ Aside0 (KeepBut w w' g none) ∧ Aside0 (Below w0.heap.size w0 w'))
 case atStart => exact ⟨(y405), (0), (s0_1), (s0_2), Za, H', ⟨Nat.le_refl _⟩, ⟨(Zaa HO407)⟩, ⟨(Zaa HO410)⟩, ⟨Zm⟩, ⟨Zo⟩, ⟨Zn⟩⟩
 case round =>
  clear H'
  try clear p2
  obtain ⟨x3_1, x5_1, x1001_1, x1002_1, rfl, HA, HK1, HO_3, HO_4, HI0, HK, HB⟩ := hrel
  cases gk with
  | zero => exact absurd HA.out (by simp [spec_l03List.l0])
  | succ k1 =>
   have H := HA.out; clear HA; simp only [spec_l03List.l0] at H
   by_cases c6 : x5_1 < (t408.length : Int)
   ·rw [if_pos c6] at H
    have c6b0 := decide_eq_true c6; clear c6; replace H := Option.bind_eq_some_iff.mp H; obtain ⟨⟨t411, t412, t413⟩, A70, H⟩ := H
    dsimp only at H
    have A7 := am_ A70; clear A70; have HS_ := am_ H; clear H; obtain ⟨Ao12, co12, eo12⟩ := Kd.R_slice HO_4.out; subst eo12
    go_wp2_with (first | ((with_reducible refine gate_callee (f := 52) rfl ?_); refine gZ 16 Try.func52 #[.pointer (some ⟨g, 0, none⟩), .int .i64 3] ?_; (with_reducible refine (spec_l01Next.calls g s0_0 x1001_1 x1002_1 3 t411 t412 t413 w0 _ ?_ ?_ A7.out).mono ?_); exact Zm; exact Zn; rintro e w13 ⟨rfl, hi, hb, hk⟩; refine ⟨_, rfl, ?_⟩; replace HO_3 := (hoZ (IsS100.apart (show IsS100 w0 _ g s0_0 x1001_1 x1002_1 from Zm) (Zaa HO_3) (by decide)) hk); replace HO_4 := (hoZ (IsS100.apart (show IsS100 w0 _ g s0_0 x1001_1 x1002_1 from Zm) (Zaa HO_4) (by decide)) hk); replace HK := am_ (KeepBut.trans Zo hk (.inl rfl)); replace HB := am_ (hb); replace HI0 := am_ (hi); clear hb hk hi; refine ?roundEnd))
    case roundEnd =>
     by_cases c8 : t411 > 0
     ·have H := HS_.out
      clear HS_; rw [if_pos c8] at H; have c8b0 : decide (0 < t411) = true := decide_eq_true c8; clear c8
      by_cases c9 : 0 ≤ x5_1
      ·rw [if_pos c9] at H
       have c9b0 := decide_eq_true c9; clear c9; replace H := Option.bind_eq_some_iff.mp H; obtain ⟨⟨t415, t416, t417, t418, t419, t420, t421, t422, t423, t424, t425⟩, A100, H⟩ := H
       dsimp only at H
       have A10 := am_ A100; clear A100
       by_cases c11 : x3_1.length < 1759218604441
       ·rw [if_pos c11] at H
        have LMc11 := am_ c11; clear c11; obtain ⟨y426, hy426⟩ : ∃ y_ : List (S62), y_ = (x3_1 ++ [(⟨t415, t416, t417, t418, t419, t420, t421, t422, t423⟩ : S62)]) := ⟨_, rfl⟩
        (first | (rw [← hy426] at H; with_reducible replace H := bindZ H) | rw [← hy426] at H | skip)
        have Ny426 := am_ hy426; clear hy426; have H' := am_ H; clear H; have p414 : 0 ≤ (x5_1 : Int) := of_decide_eq_true Zc; have q414 : x5_1 < (t408.length : Int) := of_decide_eq_true Zc; obtain ⟨ad414, e414, hx414_0⟩ := Kd.at_string (Kd.R_reads' HO_4.out).2.2 x5_1 p414 q414
        cases e414
        replace p414 := eq_true p414; replace q414 := eq_true q414
        go_wp2_with (first | ((with_reducible refine gate_callee (f := 98) rfl ?_); refine gZ 24 Try.func98 #[.pointer (some ⟨g, 0, none⟩), .string (rdOf ByteArray.empty t408 x5_1)] ?_; (with_reducible refine (spec_l03Draw.calls g s0_0 t412 t413 (rdOf ByteArray.empty t408 x5_1) t415 t416 t417 t418 t419 t420 t421 t422 t423 t424 t425 w0 _ ?_ ?_ A10.out).mono ?_); exact Zm; exact Zn; rintro e w14 ⟨rfl, hi, hb, hk⟩; refine ⟨_, rfl, ?_⟩; replace HO_3 := (hoZ (IsS100.apart (show IsS100 w0 _ g s0_0 t412 t413 from Zm) (Zaa HO_3) (by decide)) hk); replace HO_4 := (hoZ (IsS100.apart (show IsS100 w0 _ g s0_0 t412 t413 from Zm) (Zaa HO_4) (by decide)) hk); replace HK := am_ (KeepBut.trans Zo hk (.inl rfl)); replace HB := am_ (hb); replace HI0 := am_ (hi); clear hb hk hi) | ((with_reducible refine gate_builtin (b := .append) (xs := #[.tmp 18, .tmp 25]) rfl ?_); at_builtin; refine Kd.R_append k62 w.heap.size rfl (.tmp 18) (.tmp 25) 25 62 (.agg #[(.string ⟨#[]⟩), (.int .i64 0), (.int .i64 0), (.int .i64 0), (.int .i64 0), (.int .i64 0), (.int .i64 0), (.int .i64 0), (.int .i64 0)]) 80 rfl Try.underlying25 info62 rfl (by decide) (by omega) u3 x3_1 (⟨t415, t416, t417, t418, t419, t420, t421, t422, t423⟩ : S62) [.string t415, .int .i64 t416, .int .i64 t417, .int .i64 t418, .int .i64 t419, .int .i64 t420, .int .i64 t421, .int .i64 t422, .int .i64 t423] (fun _ => True) (fun _ => False) rfl rfl ?aP (fun _ hk => hk.elim) ?aF ?aO (Below.refl _ _) ?aS ?aL ?_; (case aP => exact k62_mkM _ _ _ (⟨t415, t416, t417, t418, t419, t420, t421, t422, t423⟩ : S62)); (case aF => exact (fun _ _ => trivial)); (case aO => exact (Zaa HO_3)); (case aS => exact (keep_size (w := w) (g := g) (row := none) Zo)); (case aL => have := LMc11.out; omega); intro v427 w15 ho hb hg hat; rw [← Ny426.out] at ho; replace HO_4 := am_ (Kd.R_over' (Zaa HO_4) (Kd.R_typed (Zaa HO_3)) (by decide) hg); replace HB := am_ (below_weaken Zn HL.out hb); replace HI0 := am_ (IsS100.grown Zm hg (IsS100.own_ne HI0.out HO_3.out (by decide))); replace HK := am_ (KeepBut.trans Zo (KeepBut.of_grown hg g) (Kd.R_base2 HO_3.out)); replace HO428 := am_ (ho); clear HO_3; clear ho hb hg hat))
        go_roundg k1
        case measure => have := HK1.out; omega
        case rel => exact ⟨(y426), (wrap64 (x5_1 + 1)), (t424), (t425), Za, H', ⟨Zd⟩, ⟨(Zaa HO428)⟩, ⟨(Zaa HO_4)⟩, ⟨Zm⟩, ⟨Zo⟩, ⟨Zn⟩⟩
       ·rw [if_neg c11] at H
        exact absurd H (by simp)
      ·rw [if_neg c9] at H
       exact absurd H (by simp)
     ·have H := HS_.out
      clear HS_; rw [if_neg c8] at H; have c8b0 : decide (0 < t411) = false := decide_eq_false c8; clear c8; have H' := am_ H; clear H
      go_wp2_with (first | fail)
      go_roundg k1
      case measure => have := HK1.out; omega
      case rel => exact ⟨(x3_1), (wrap64 (x5_1 + 1)), (t412), (t413), Za, H', ⟨Zd⟩, ⟨(Zaa HO_3)⟩, ⟨(Zaa HO_4)⟩, ⟨Zm⟩, ⟨Zo⟩, ⟨Zn⟩⟩
   ·rw [if_neg c6] at H
    have c6b0 := decide_eq_false c6; clear c6; replace H := Option.bind_eq_some_iff.mp H; obtain ⟨⟨t429, t430, t431⟩, A180, H⟩ := H
    dsimp only at H
    have A18 := am_ A180; clear A180; have HS_ := am_ H; clear H; obtain ⟨Ao22, co22, eo22⟩ := Kd.R_slice HO_4.out; subst eo22
    go_wp2_with (first | ((with_reducible refine gate_callee (f := 52) rfl ?_); refine gZ 28 Try.func52 #[.pointer (some ⟨g, 0, none⟩), .int .i64 30] ?_; (with_reducible refine (spec_l01Next.calls g s0_0 x1001_1 x1002_1 30 t429 t430 t431 w0 _ ?_ ?_ A18.out).mono ?_); exact Zm; exact Zn; rintro e w23 ⟨rfl, hi, hb, hk⟩; refine ⟨_, rfl, ?_⟩; replace HO_3 := (hoZ (IsS100.apart (show IsS100 w0 _ g s0_0 x1001_1 x1002_1 from Zm) (Zaa HO_3) (by decide)) hk); replace HO_4 := (hoZ (IsS100.apart (show IsS100 w0 _ g s0_0 x1001_1 x1002_1 from Zm) (Zaa HO_4) (by decide)) hk); replace HK := am_ (KeepBut.trans Zo hk (.inl rfl)); replace HB := am_ (hb); replace HI0 := am_ (hi); clear hb hk hi; refine ?roundEnd))
    case roundEnd =>
     by_cases c19 : t429 = 0
     ·have H := HS_.out
      clear HS_; rw [if_pos c19] at H; have c19b0 := beq_iff_eq.mpr c19; have c19b1 := bne_eq_false_iff_eq.mpr c19; clear c19; replace H := Option.bind_eq_some_iff.mp H; obtain ⟨⟨t432, t433, t434, t435, t436, t437, t438, t439, t440, t441, t442⟩, A200, H⟩ := H
      dsimp only at H
      have A20 := am_ A200; clear A200
      by_cases c21 : x3_1.length < 1759218604441
      ·rw [if_pos c21] at H
       have LMc21 := am_ c21; clear c21; obtain ⟨y443, hy443⟩ : ∃ y_ : List (S62), y_ = (x3_1 ++ [(⟨t432, t433, t434, t435, t436, t437, t438, t439, t440⟩ : S62)]) := ⟨_, rfl⟩
       (first | (rw [← hy443] at H; with_reducible replace H := bindZ H) | rw [← hy443] at H | skip)
       have Ny443 := am_ hy443; clear hy443; simp only [Option.some.injEq, Prod.mk.injEq] at H; obtain ⟨rfl, rfl, rfl⟩ := H
       go_wp2_with (first | ((with_reducible refine gate_callee (f := 97) rfl ?_); refine gZ 33 Try.func97 #[.pointer (some ⟨g, 0, none⟩), .string (⟨#[97, 115, 116, 101, 114]⟩ : ByteArray)] ?_; (with_reducible refine (spec_l03Good.calls g s0_0 t430 t431 (⟨#[97, 115, 116, 101, 114]⟩ : ByteArray) t432 t433 t434 t435 t436 t437 t438 t439 t440 t441 t442 w0 _ ?_ ?_ A20.out).mono ?_); exact Zm; exact Zn; rintro e w24 ⟨rfl, hi, hb, hk⟩; refine ⟨_, rfl, ?_⟩; replace HO_3 := (hoZ (IsS100.apart (show IsS100 w0 _ g s0_0 t430 t431 from Zm) (Zaa HO_3) (by decide)) hk); replace HO_4 := (hoZ (IsS100.apart (show IsS100 w0 _ g s0_0 t430 t431 from Zm) (Zaa HO_4) (by decide)) hk); replace HK := am_ (KeepBut.trans Zo hk (.inl rfl)); replace HB := am_ (hb); replace HI0 := am_ (hi); clear hb hk hi) | ((with_reducible refine gate_builtin (b := .append) (xs := #[.tmp 31, .tmp 34]) rfl ?_); at_builtin; refine Kd.R_append k62 w.heap.size rfl (.tmp 31) (.tmp 34) 25 62 (.agg #[(.string ⟨#[]⟩), (.int .i64 0), (.int .i64 0), (.int .i64 0), (.int .i64 0), (.int .i64 0), (.int .i64 0), (.int .i64 0), (.int .i64 0)]) 80 rfl Try.underlying25 info62 rfl (by decide) (by omega) u3 x3_1 (⟨t432, t433, t434, t435, t436, t437, t438, t439, t440⟩ : S62) [.string t432, .int .i64 t433, .int .i64 t434, .int .i64 t435, .int .i64 t436, .int .i64 t437, .int .i64 t438, .int .i64 t439, .int .i64 t440] (fun _ => True) (fun _ => False) rfl rfl ?aP (fun _ hk => hk.elim) ?aF ?aO (Below.refl _ _) ?aS ?aL ?_; (case aP => exact k62_mkM _ _ _ (⟨t432, t433, t434, t435, t436, t437, t438, t439, t440⟩ : S62)); (case aF => exact (fun _ _ => trivial)); (case aO => exact (Zaa HO_3)); (case aS => exact (keep_size (w := w) (g := g) (row := none) Zo)); (case aL => have := LMc21.out; omega); intro v444 w25 ho hb hg hat; rw [← Ny443.out] at ho; replace HO_4 := am_ (Kd.R_over' (Zaa HO_4) (Kd.R_typed (Zaa HO_3)) (by decide) hg); replace HB := am_ (below_weaken Zn HL.out hb); replace HI0 := am_ (IsS100.grown Zm hg (IsS100.own_ne HI0.out HO_3.out (by decide))); replace HK := am_ (KeepBut.trans Zo (KeepBut.of_grown hg g) (Kd.R_base2 HO_3.out)); replace HO445 := am_ (ho); clear HO_3; clear ho hb hg hat))
       go_ret
       exact ⟨_, Zl, (Zaa HO445), Zm, Zn, Zo⟩
      ·rw [if_neg c21] at H
       exact absurd H (by simp)
     ·have H := HS_.out
      clear HS_; rw [if_neg c19] at H; have c19b0 := beq_eq_false_iff_ne.mpr c19; have c19b1 := bne_iff_ne.mpr c19; have HS_ := am_ H; clear H
      by_cases c26 : t429 = 1
      ·have H := HS_.out
       clear HS_; rw [if_pos c26] at H; have c26b0 := beq_iff_eq.mpr c26; have c26b1 := bne_eq_false_iff_eq.mpr c26; clear c26; have H' := am_ H; clear H
       go_wp2_with (first | fail)
       go_loopg [3, 6] k1 (fun kq v3 v6 w' => ∃ (x3_2 : List (S62)) (x6_2 : Int) (x1001_2 : Int) (x1002_2 : Int), v6 = .int .i64 x6_2 ∧ Aside0 (spec_l03List.l1 kq x3_2 x6_2 s0_0 x1001_2 x1002_2 = some (r1, r2, r3)) ∧ Aside0 (kq ≤ k1) ∧ Aside0 (Kd.R k62 62 w' w.heap.size (fun _ => True) v3 x3_2) ∧ Aside0 (IsS100 w0 w' g s0_0 x1001_2 x1002_2) ∧ Aside0 (KeepBut w w' g none) ∧ Aside0 (Below w0.heap.size w0 w'))
       case atStart => exact ⟨(x3_1), (0), (t430), (t431), Za, H', ⟨Nat.le_refl _⟩, ⟨(Zaa HO_3)⟩, ⟨Zm⟩, ⟨Zo⟩, ⟨Zn⟩⟩
       case round =>
        clear H'
        try clear c1
        try clear c2
        try clear p2
        try clear p4
        try clear q4
        try clear hx4
        try clear c5
        try clear c6
        try clear c6b0
        try clear p6
        try clear c8
        try clear c8b0
        try clear c9
        try clear c9b0
        try clear c11
        try clear c19
        try clear c19b0
        try clear c19b1
        try clear c21
        try clear c26
        try clear c26b0
        try clear c26b1
        try clear hx414_0
        try clear p2
        try clear p414
        try clear q414
        obtain ⟨x3_2, x6_2, x1001_2, x1002_2, rfl, HA, HK2, HO_3, HI0, HK, HB⟩ := hrel
        cases gk with
        | zero => exact absurd HA.out (by simp [spec_l03List.l1])
        | succ k2 =>
         have H := HA.out; clear HA; simp only [spec_l03List.l1] at H; replace H := Option.bind_eq_some_iff.mp H; obtain ⟨⟨t446, t447, t448⟩, A290, H⟩ := H
         dsimp only at H
         have A29 := am_ A290; clear A290; have HS_ := am_ H; clear H; obtain ⟨Ao38, co38, eo38⟩ := Kd.R_slice HO_3.out; subst eo38
         go_wp2_with (first | ((with_reducible refine gate_callee (f := 52) rfl ?_); refine gZ 41 Try.func52 #[.pointer (some ⟨g, 0, none⟩), .int .i64 2] ?_; (with_reducible refine (spec_l01Next.calls g s0_0 x1001_2 x1002_2 2 t446 t447 t448 w0 _ ?_ ?_ A29.out).mono ?_); exact Zm; exact Zn; rintro e w39 ⟨rfl, hi, hb, hk⟩; refine ⟨_, rfl, ?_⟩; replace HO_3 := (hoZ (IsS100.apart (show IsS100 w0 _ g s0_0 x1001_2 x1002_2 from Zm) (Zaa HO_3) (by decide)) hk); replace HK := am_ (KeepBut.trans Zo hk (.inl rfl)); replace HB := am_ (hb); replace HI0 := am_ (hi); clear hb hk hi; refine ?roundEnd))
         case roundEnd =>
          by_cases c30 : (x3_2.length : Int) < (wrap64 (12 + t446))
          ·have H := HS_.out
           clear HS_; rw [if_pos c30] at H; have c30b0 := decide_eq_true c30; clear c30; have HS_ := am_ H; clear H
           by_cases c31 : x6_2 < 14
           ·have H := HS_.out
            clear HS_; rw [if_pos c31] at H; have c31b0 := decide_eq_true c31; clear c31
            by_cases c32 : 0 ≤ x6_2
            ·rw [if_pos c32] at H
             have c32b0 := eq_true c32; have c32b1 := decide_eq_true c32; clear c32
             by_cases c33 : x6_2 ≤ (wrap64 (x6_2 + 1))
             ·rw [if_pos c33] at H
              have c33b0 := eq_true c33; have c33b1 := decide_eq_true c33
              by_cases c34 : (wrap64 (x6_2 + 1)) ≤ 14
              ·rw [if_pos c34] at H
               have c34b0 := eq_true c34; have c34b1 := decide_eq_true c34
               by_cases c35 : 1 + ((⟨#[97, 98, 99, 100, 101, 102, 103, 104, 105, 106, 107, 108, 109, 110]⟩ : ByteArray).extract (x6_2 : Int).toNat ((wrap64 (x6_2 + 1)) : Int).toNat).size ≤ 9223372036854775807
               ·rw [if_pos c35] at H
                have c35b0 := eq_true c35; have c35b1 := decide_eq_true c35
                try have c35b2 : (9223372036854775807 < 1 + ((⟨#[97, 98, 99, 100, 101, 102, 103, 104, 105, 106, 107, 108, 109, 110]⟩ : ByteArray).extract (x6_2 : Int).toNat ((wrap64 (x6_2 + 1)) : Int).toNat).size) = False := eq_false (Nat.not_lt.2 c35)
                replace H := Option.bind_eq_some_iff.mp H; obtain ⟨⟨t449, t450, t451, t452, t453, t454, t455, t456, t457, t458, t459⟩, A360, H⟩ := H
                dsimp only at H
                have A36 := am_ A360; clear A360
                by_cases c37 : x3_2.length < 1759218604441
                ·rw [if_pos c37] at H
                 have LMc37 := am_ c37; clear c37; obtain ⟨y460, hy460⟩ : ∃ y_ : List (S62), y_ = (x3_2 ++ [(⟨t449, t450, t451, t452, t453, t454, t455, t456, t457⟩ : S62)]) := ⟨_, rfl⟩
                 (first | (rw [← hy460] at H; with_reducible replace H := bindZ H) | rw [← hy460] at H | skip)
                 have Ny460 := am_ hy460; clear hy460; have H' := am_ H; clear H
                 go_wp2_with (first | ((with_reducible refine gate_callee (f := 97) rfl ?_); refine gZ 57 Try.func97 #[.pointer (some ⟨g, 0, none⟩), .string ((⟨#[120]⟩ : ByteArray) ++ ((⟨#[97, 98, 99, 100, 101, 102, 103, 104, 105, 106, 107, 108, 109, 110]⟩ : ByteArray).extract (x6_2 : Int).toNat ((wrap64 (x6_2 + 1)) : Int).toNat))] ?_; (with_reducible refine (spec_l03Good.calls g s0_0 t447 t448 ((⟨#[120]⟩ : ByteArray) ++ ((⟨#[97, 98, 99, 100, 101, 102, 103, 104, 105, 106, 107, 108, 109, 110]⟩ : ByteArray).extract (x6_2 : Int).toNat ((wrap64 (x6_2 + 1)) : Int).toNat)) t449 t450 t451 t452 t453 t454 t455 t456 t457 t458 t459 w0 _ ?_ ?_ A36.out).mono ?_); exact Zm; exact Zn; rintro e w40 ⟨rfl, hi, hb, hk⟩; refine ⟨_, rfl, ?_⟩; replace HO_3 := (hoZ (IsS100.apart (show IsS100 w0 _ g s0_0 t447 t448 from Zm) (Zaa HO_3) (by decide)) hk); replace HK := am_ (KeepBut.trans Zo hk (.inl rfl)); replace HB := am_ (hb); replace HI0 := am_ (hi); clear hb hk hi) | ((with_reducible refine gate_builtin (b := .append) (xs := #[.tmp 50, .tmp 58]) rfl ?_); at_builtin; refine Kd.R_append k62 w.heap.size rfl (.tmp 50) (.tmp 58) 25 62 (.agg #[(.string ⟨#[]⟩), (.int .i64 0), (.int .i64 0), (.int .i64 0), (.int .i64 0), (.int .i64 0), (.int .i64 0), (.int .i64 0), (.int .i64 0)]) 80 rfl Try.underlying25 info62 rfl (by decide) (by omega) (.slice Ao38 x3_2.length co38) x3_2 (⟨t449, t450, t451, t452, t453, t454, t455, t456, t457⟩ : S62) [.string t449, .int .i64 t450, .int .i64 t451, .int .i64 t452, .int .i64 t453, .int .i64 t454, .int .i64 t455, .int .i64 t456, .int .i64 t457] (fun _ => True) (fun _ => False) rfl rfl ?aP (fun _ hk => hk.elim) ?aF ?aO (Below.refl _ _) ?aS ?aL ?_; (case aP => exact k62_mkM _ _ _ (⟨t449, t450, t451, t452, t453, t454, t455, t456, t457⟩ : S62)); (case aF => exact (fun _ _ => trivial)); (case aO => exact (Zaa HO_3)); (case aS => exact (keep_size (w := w) (g := g) (row := none) Zo)); (case aL => have := LMc37.out; omega); intro v461 w41 ho hb hg hat; rw [← Ny460.out] at ho; replace HB := am_ (below_weaken Zn HL.out hb); replace HI0 := am_ (IsS100.grown Zm hg (IsS100.own_ne HI0.out HO_3.out (by decide))); replace HK := am_ (KeepBut.trans Zo (KeepBut.of_grown hg g) (Kd.R_base2 HO_3.out)); replace HO462 := am_ (ho); clear HO_3; clear ho hb hg hat))
                 go_roundg k2
                 case measure => have := HK1.out; have := HK2.out; omega
                 case rel => exact ⟨(y460), (wrap64 (x6_2 + 1)), (t458), (t459), Za, H', ⟨Zce⟩, ⟨(Zaa HO462)⟩, ⟨Zm⟩, ⟨Zo⟩, ⟨Zn⟩⟩
                ·rw [if_neg c37] at H
                 exact absurd H (by simp)
               ·rw [if_neg c35] at H
                exact absurd H (by simp)
              ·rw [if_neg c34] at H
               exact absurd H (by simp)
             ·rw [if_neg c33] at H
              exact absurd H (by simp)
            ·rw [if_neg c32] at H
             exact absurd H (by simp)
           ·have H := HS_.out
            clear HS_; rw [if_neg c31] at H; have c31b0 := decide_eq_false c31; clear c31; simp only [Option.some.injEq, Prod.mk.injEq] at H; obtain ⟨rfl, rfl, rfl⟩ := H
            go_wp2_with (first | fail)
            go_ret
            exact ⟨_, Zl, (Zaa HO_3), Zm, Zn, Zo⟩
          ·have H := HS_.out
           clear HS_; rw [if_neg c30] at H; have c30b0 := decide_eq_false c30; clear c30; simp only [Option.some.injEq, Prod.mk.injEq] at H; obtain ⟨rfl, rfl, rfl⟩ := H
           go_wp2_with (first | fail)
           go_ret
           exact ⟨_, Zl, (Zaa HO_3), Zm, Zn, Zo⟩
      ·have H := HS_.out
       clear HS_; rw [if_neg c26] at H; have c26b0 := beq_eq_false_iff_ne.mpr c26; have c26b1 := bne_iff_ne.mpr c26; simp only [Option.some.injEq, Prod.mk.injEq] at H; obtain ⟨rfl, rfl, rfl⟩ := H
       go_wp2_with (first | fail)
       go_ret
       exact ⟨_, Zl, (Zaa HO_3), Zm, Zn, Zo⟩
def spec_l08Draw.l0 : Nat → List Int → Int → Int → List (S104) → List (S62) → List (S39) → Int → Int → ByteArray → Int → Option ((List (S104)) × (List (S62)) × (List (S39)) × Int × Int)
 | 0, _, _, _, _, _, _, _, _, _, _ => none
 | k + 1, x1000, x1001, x1002, x476000, x476001, x476002, x503000, x503001, x503002, x503003 => (spec_l01Next.f x1000 x1001 x1002 2).bind fun bt503 => (if (x476002.length : Int) < (wrap64 (20 + bt503.1)) then (if x476002.length < 3518437208883 then (spec_l08Draw.l0 k x1000 bt503.2.1 bt503.2.2 x476000 x476001 (x476002 ++ [(⟨x503000, x503001, x503002, x503003⟩ : S39)]) x503000 x503001 x503002 x503003) else (none)) else (some (x476000, x476001, x476002, bt503.2.1, bt503.2.2)))
def spec_l08Draw.f (k : Nat) (s0_0 : List Int) (s0_1 : Int) (s0_2 : Int) : Option ((List (S104)) × (List (S62)) × (List (S39)) × Int × Int) := (spec_l08Good.f k s0_0 s0_1 s0_2).bind fun bt464 => ((spec_l01Next.f s0_0 bt464.2.2.2.1 bt464.2.2.2.2 40).bind fun bt476 => (if bt476.1 = 0 then ((spec_l07Draw.f k s0_0 bt476.2.1 bt476.2.2).bind fun bt479 => (some (bt479.1, bt464.2.1, bt464.2.2.1, bt479.2.1, bt479.2.2))) else (if bt476.1 = 1 then ((spec_l03List.f k s0_0 bt476.2.1 bt476.2.2).bind fun bt484 => (some (bt464.1, bt484.1, bt464.2.2.1, bt484.2.1, bt484.2.2))) else (if bt476.1 = 2 then ((spec_l01Next.f s0_0 bt476.2.1 bt476.2.2 8).bind fun bt489 => ((spec_l01Next.f s0_0 bt489.2.1 bt489.2.2 5).bind fun bt492 => ((spec_l01Next.f s0_0 bt492.2.1 bt492.2.2 14).bind fun bt495 => (if bt464.2.2.1.length < 3518437208883 then (some (bt464.1, bt464.2.1, (bt464.2.2.1 ++ [(⟨wrap64 (bt489.1 - 1), bt492.1, (⟨#[112, 101, 111, 110, 121]⟩ : ByteArray), wrap64 (bt495.1 - 1)⟩ : S39)]), bt495.2.1, bt495.2.2)) else (none))))) else (if bt476.1 = 3 then (if (bt464.2.2.1.length : Int) > 0 then (if 0 < (bt464.2.2.1.length : Int) then (spec_l08Draw.l0 k s0_0 bt476.2.1 bt476.2.2 bt464.1 bt464.2.1 bt464.2.2.1 ((rd_T39 bt464.2.2.1 0).f0) ((rd_T39 bt464.2.2.1 0).f1) ((rd_T39 bt464.2.2.1 0).f2) ((rd_T39 bt464.2.2.1 0).f3)) else (none)) else (some (bt464.1, bt464.2.1, bt464.2.2.1, bt476.2.1, bt476.2.2))) else (some (bt464.1, bt464.2.1, bt464.2.2.1, bt476.2.1, bt476.2.2)))))))
def spec_l08Draw.T8 : Bool × List (List Nat × List Nat) := (true, [([], []), ([0], [0]), ([], []), ([2], [2]), ([3], [3]), ([], []), ([5, 3], [5]), ([], []), ([7, 6], [7]), ([8], [8]), ([4, 6, 9], [4, 6, 9]), ([10], [10]), ([1, 11, 8], [1, 11]), ([0, 1, 2, 3, 4, 5, 6, 7, 8, 9, 10, 11, 12], []), ([13, 12, 12, 0, 1, 2, 3, 4, 5, 6, 7, 8, 9, 10, 11, 12], [12, 13])])
def spec_l08Draw.B8 : List Nat := [0, 1, 0, 4, 12, 0, 44, 0, 236, 492, 1020, 2044, 4095, 8191, 16383]
theorem spec_l08Draw.tab8 : rtab .any (opsOf Try.f50 8) = spec_l08Draw.T8 := by kernel_rfl
theorem spec_l08Draw.bits8 : waitsOk spec_l08Draw.T8.2 spec_l08Draw.B8 = true := by kernel_rfl
set_option maxHeartbeats 8000000 in
set_option maxRecDepth 100000 in
theorem spec_l08Draw.calls (k : Nat) (g : Nat) (s0_0 : List Int) (s0_1 : Int) (s0_2 : Int) (r1 : List (S104)) (r2 : List (S62)) (r3 : List (S39)) (r4 : Int) (r5 : Int) (w0 w : World) (hI : IsS100 w0 w g s0_0 s0_1 s0_2) (hB : Below w0.heap.size w0 w) (h : spec_l08Draw.f k s0_0 s0_1 s0_2 = some (r1, r2, r3, r4, r5)) :
  Calls Try.prog 50 #[.pointer (some ⟨g, 0, none⟩)] w fun e w' => ∃ v0_ v1_ v2_ : Value, e = .returned (.agg #[v0_, v1_, v2_]) ∧ Kd.R k104 104 w' w.heap.size (fun _ => True) v0_ r1 ∧ Kd.R k62 62 w' w.heap.size (fun _ => True) v1_ r2 ∧ Kd.R k39 39 w' w.heap.size (fun _ => True) v2_ r3 ∧ IsS100 w0 w' g s0_0 r4 r5 ∧ Below w0.heap.size w0 w' ∧ KeepBut w w' g none := by
 have hu28 := Try.underlying28; have hu39 := Try.underlying39; have HI0 := am_ hI; have HK := am_ (KeepBut.refl w g none); have HL := am_ hB.size; clear hI; have HW0 := am_ hB.size; have HB := am_ hB; clear hB; have H : ((spec_l08Good.f k s0_0 s0_1 s0_2).bind fun bt464 => ((spec_l01Next.f s0_0 bt464.2.2.2.1 bt464.2.2.2.2 40).bind fun bt476 => (if bt476.1 = 0 then ((spec_l07Draw.f k s0_0 bt476.2.1 bt476.2.2).bind fun bt479 => (some (bt479.1, bt464.2.1, bt464.2.2.1, bt479.2.1, bt479.2.2))) else (if bt476.1 = 1 then ((spec_l03List.f k s0_0 bt476.2.1 bt476.2.2).bind fun bt484 => (some (bt464.1, bt484.1, bt464.2.2.1, bt484.2.1, bt484.2.2))) else (if bt476.1 = 2 then ((spec_l01Next.f s0_0 bt476.2.1 bt476.2.2 8).bind fun bt489 => ((spec_l01Next.f s0_0 bt489.2.1 bt489.2.2 5).bind fun bt492 => ((spec_l01Next.f s0_0 bt492.2.1 bt492.2.2 14).bind fun bt495 => (if bt464.2.2.1.length < 3518437208883 then (some (bt464.1, bt464.2.1, (bt464.2.2.1 ++ [(⟨wrap64 (bt489.1 - 1), bt492.1, (⟨#[112, 101, 111, 110, 121]⟩ : ByteArray), wrap64 (bt495.1 - 1)⟩ : S39)]), bt495.2.1, bt495.2.2)) else (none))))) else (if bt476.1 = 3 then (if (bt464.2.2.1.length : Int) > 0 then (if 0 < (bt464.2.2.1.length : Int) then (spec_l08Draw.l0 k s0_0 bt476.2.1 bt476.2.2 bt464.1 bt464.2.1 bt464.2.2.1 ((rd_T39 bt464.2.2.1 0).f0) ((rd_T39 bt464.2.2.1 0).f1) ((rd_T39 bt464.2.2.1 0).f2) ((rd_T39 bt464.2.2.1 0).f3)) else (none)) else (some (bt464.1, bt464.2.1, bt464.2.2.1, bt476.2.1, bt476.2.2))) else (some (bt464.1, bt464.2.1, bt464.2.2.1, bt476.2.1, bt476.2.2)))))))) = some (r1, r2, r3, r4, r5) := h; clear h; replace H := Option.bind_eq_some_iff.mp H; obtain ⟨⟨t464, t467, t470, t473, t474⟩, A20, H⟩ := H
 dsimp only at H
 have A2 := am_ A20; clear A20; replace H := Option.bind_eq_some_iff.mp H; obtain ⟨⟨t476, t477, t478⟩, A30, H⟩ := H
 dsimp only at H
 have A3 := am_ A30; clear A30; have HS_ := am_ H; clear H
 go_enter Try.func50, Try.ntmps50
 go_wp2_with (first | ((with_reducible refine gate_dst (N := 2) rfl ?_); refine boxZ 2 #[.slice none 0 0, .slice none 0 0, .slice none 0 0] 28 ?_; intro gb463 hg w6 hbox hb; replace HB := (bsZ Zn hb); replace BK463 := am_ (hbox); replace GW463 := am_ ((Zau : w.heap.size ≤ gb463)); replace GE463 := am_ ((Nat.le_trans HW0.out (Zau : w.heap.size ≤ gb463) : w0.heap.size ≤ gb463)); replace HK := am_ (KeepBut.trans Zo (KeepBut.of_below hb g none) (.inl rfl)); replace NB0_463 := am_ ((Zav : g ≠ gb463)); replace NB463_0 := am_ ((Zaw : gb463 ≠ g)); replace HI0 := am_ (IsS100.below Zm hb); clear hb hbox hg) | ((with_reducible refine gate_callee (f := 84) rfl ?_); refine gZ 6 Try.func84 #[.pointer (some ⟨g, 0, none⟩)] ?_; (with_reducible refine (spec_l08Good.calls k g s0_0 s0_1 s0_2 t464 t467 t470 t473 t474 w0 _ ?_ ?_ A2.out).mono ?_); exact (Zax NB0_463); exact (Zay GE463); rintro e w7 ⟨v465, v468, v471, rfl, ho0, ho1, ho2, hi, hb, hk⟩; refine ⟨_, rfl, ?_⟩; replace BK463 := (kbZ BK463 hk NB463_0); replace HO466 := am_ (Kd.R_lower ho0 (keep_size (w := w) (g := g) (row := none) (Zaz GW463))); replace HO469 := am_ (Kd.R_lower ho1 (keep_size (w := w) (g := g) (row := none) (Zaz GW463))); replace HO472 := am_ (Kd.R_lower ho2 (keep_size (w := w) (g := g) (row := none) (Zaz GW463))); replace HK := am_ (KeepBut.trans (Zaz GW463) hk (.inl rfl)); replace HB := am_ (hb); replace HI0 := am_ (hi); clear hb hk hi ho0 ho1 ho2) | ((with_reducible refine gate_dst (N := 3) rfl ?_); refine boxZ 3 #[.slice none 0 0, .slice none 0 0, .slice none 0 0] 28 ?_; intro gb475 hg w8 hbox hb; replace HO466 := (hbZ HO466 hb); replace HO469 := (hbZ HO469 hb); replace HO472 := (hbZ HO472 hb); replace HB := (bsZ (Zay GE463) hb); replace BK475 := am_ (hbox); replace GW475 := am_ (((Zba GW463) : w.heap.size ≤ gb475)); replace GE475 := am_ ((Nat.le_trans HW0.out ((Zba GW463) : w.heap.size ≤ gb475) : w0.heap.size ≤ gb475)); replace HK := am_ (KeepBut.trans (Zaz GW463) (KeepBut.of_below hb g none) (.inl rfl)); replace NB463_475 := am_ ((by rw [hg]; exact Nat.ne_of_lt (blk_lt (g := gb463) (b0Z BK463)) : gb463 ≠ gb475)); replace NB475_463 := am_ ((by rw [hg]; exact Nat.ne_of_gt (blk_lt (g := gb463) (b0Z BK463)) : gb475 ≠ gb463)); replace BK463 := (bkZ BK463 hb); replace NB0_475 := am_ ((by rw [hg]; exact Nat.ne_of_lt (IsS100.lt (show IsS100 w0 _ g s0_0 t473 t474 from (Zax NB0_463))) : g ≠ gb475)); replace NB475_0 := am_ ((by rw [hg]; exact Nat.ne_of_gt (IsS100.lt (show IsS100 w0 _ g s0_0 t473 t474 from (Zax NB0_463))) : gb475 ≠ g)); replace HI0 := am_ (IsS100.below (Zax NB0_463) hb); clear hb hbox hg; obtain ⟨Ao9, co9, eo9⟩ := Kd.R_slice HO466.out; subst eo9; have hnb10 := NB475_463.out; have hnc10 := NB463_475.out; have hnb11 := NB475_0.out; have hnc11 := NB0_475.out; refine ci3 BK475 ?_; intros; obtain ⟨Ao13, co13, eo13⟩ := Kd.R_slice HO469.out; subst eo13; obtain ⟨Ao14, co14, eo14⟩ := Kd.R_slice HO472.out; subst eo14) | ((with_reducible refine gate_callee (f := 52) rfl ?_); refine gZ 8 Try.func52 #[.pointer (some ⟨g, 0, none⟩), .int .i64 40] ?_; (with_reducible refine (spec_l01Next.calls g s0_0 t473 t474 40 t476 t477 t478 w0 _ ?_ ?_ A3.out).mono ?_); exact (Zbd NB0_463 NB0_475); exact (Zbe GE463 GE475); rintro e w15 ⟨rfl, hi, hb, hk⟩; refine ⟨_, rfl, ?_⟩; replace BK463 := am_ (KeepBut.blk hk (g' := gb463) (bfZ BK463 NB463_475) NB463_0.out (by simp)); replace HO466 := (hoZ (IsS100.apart (show IsS100 w0 _ g s0_0 t473 t474 from (Zbd NB0_463 NB0_475)) (Zat HO466 BK475) (by decide)) hk); replace HO469 := (hoZ (IsS100.apart (show IsS100 w0 _ g s0_0 t473 t474 from (Zbd NB0_463 NB0_475)) (Zat HO469 BK475) (by decide)) hk); replace HO472 := (hoZ (IsS100.apart (show IsS100 w0 _ g s0_0 t473 t474 from (Zbd NB0_463 NB0_475)) (Zat HO472 BK475) (by decide)) hk); replace BK475 := am_ (KeepBut.blk hk (g' := gb475) (o := .cells #[.slice Ao9 t464.length co9, .slice Ao13 t467.length co13, .slice Ao14 t470.length co14] 28 (0, 0)) (bpZ BK475) NB475_0.out (by simp)); replace HK := am_ (KeepBut.trans (Zbf GW463 GW475) hk (.inl rfl)); replace HB := am_ (hb); replace HI0 := am_ (hi); clear hb hk hi; refine ?roundEnd))
 case roundEnd =>
  by_cases c4 : t476 = 0
  ·have H := HS_.out
   clear HS_; rw [if_pos c4] at H; have c4b0 := beq_iff_eq.mpr c4; have c4b1 := bne_eq_false_iff_eq.mpr c4; clear c4; replace H := Option.bind_eq_some_iff.mp H; obtain ⟨⟨t479, t482, t483⟩, A50, H⟩ := H
   dsimp only at H
   have A5 := am_ A50; clear A50; simp only [Option.some.injEq, Prod.mk.injEq] at H; obtain ⟨rfl, rfl, rfl, rfl, rfl⟩ := H
   go_wp2_with (first | ((with_reducible refine gate_callee (f := 85) rfl ?_); refine gZ 12 Try.func85 #[.pointer (some ⟨g, 0, none⟩)] ?_; (with_reducible refine (spec_l07Draw.calls k g s0_0 t477 t478 t479 t482 t483 w0 _ ?_ ?_ A5.out).mono ?_); exact (Zbd NB0_463 NB0_475); exact (Zbe GE463 GE475); rintro e w16 ⟨v480, rfl, ho0, hi, hb, hk⟩; refine ⟨_, rfl, ?_⟩; replace BK463 := (kbZ BK463 hk NB463_0); replace HO469 := (hoZ (IsS100.apart (show IsS100 w0 _ g s0_0 t477 t478 from (Zbd NB0_463 NB0_475)) (Zaa HO469) (by decide)) hk); replace HO472 := (hoZ (IsS100.apart (show IsS100 w0 _ g s0_0 t477 t478 from (Zbd NB0_463 NB0_475)) (Zaa HO472) (by decide)) hk); replace BK475 := (kbZ BK475 hk NB475_0); replace HO481 := am_ (Kd.R_lower (Kd.R_new' ho0 (Kd.R_lt (Zaa HO466))) (keep_size (w := w) (g := g) (row := none) (Zbf GW463 GW475))); replace HO466 := am_ (Kd.R_mono (Kd.R_told (Kd.R_oldK (IsS100.apart (show IsS100 w0 _ g s0_0 t477 t478 from (Zbd NB0_463 NB0_475)) (Zaa HO466) (by decide)) hk) (Kd.R_base ho0)) (fun _ h_ => h_.1)); replace HK := am_ (KeepBut.trans (Zbf GW463 GW475) hk (.inl rfl)); replace HB := am_ (hb); replace HI0 := am_ (hi); clear hb hk hi ho0; obtain ⟨Ao17, co17, eo17⟩ := Kd.R_slice HO481.out; subst eo17; refine ci3 BK475 ?_; intros; have hnb19 := NB463_0.out; have hnc19 := NB0_463.out; refine ci3 BK463 ?_; intros))
   refine bodyPost_ret (results_cell_row rfl _ _ gb463 28 #[.slice Ao17 t479.length co17, .slice Ao13 t467.length co13, .slice Ao14 t470.length co14] (0, 0) _ rfl (bmZ BK463 NB463_475) Try.underlying28 rfl Zk) rfl ?_; exact ⟨_, _, _, Zl, (Zcf HO481 BK475 BK463), (Zcf HO469 BK475 BK463), (Zcf HO472 BK475 BK463), (Zbd NB0_463 NB0_475), (Zbe GE463 GE475), (Zbf GW463 GW475)⟩
  ·have H := HS_.out
   clear HS_; rw [if_neg c4] at H; have c4b0 := beq_eq_false_iff_ne.mpr c4; have c4b1 := bne_iff_ne.mpr c4; have HS_ := am_ H; clear H
   by_cases c21 : t476 = 1
   ·have H := HS_.out
    clear HS_; rw [if_pos c21] at H; have c21b0 := beq_iff_eq.mpr c21; have c21b1 := bne_eq_false_iff_eq.mpr c21; clear c21; replace H := Option.bind_eq_some_iff.mp H; obtain ⟨⟨t484, t487, t488⟩, A220, H⟩ := H
    dsimp only at H
    have A22 := am_ A220; clear A220; simp only [Option.some.injEq, Prod.mk.injEq] at H; obtain ⟨rfl, rfl, rfl, rfl, rfl⟩ := H
    go_wp2_with (first | ((with_reducible refine gate_callee (f := 86) rfl ?_); refine gZ 17 Try.func86 #[.pointer (some ⟨g, 0, none⟩)] ?_; (with_reducible refine (spec_l03List.calls k g s0_0 t477 t478 t484 t487 t488 w0 _ ?_ ?_ A22.out).mono ?_); exact (Zbd NB0_463 NB0_475); exact (Zbe GE463 GE475); rintro e w33 ⟨v485, rfl, ho0, hi, hb, hk⟩; refine ⟨_, rfl, ?_⟩; replace BK463 := (kbZ BK463 hk NB463_0); replace HO466 := (hoZ (IsS100.apart (show IsS100 w0 _ g s0_0 t477 t478 from (Zbd NB0_463 NB0_475)) (Zaa HO466) (by decide)) hk); replace HO472 := (hoZ (IsS100.apart (show IsS100 w0 _ g s0_0 t477 t478 from (Zbd NB0_463 NB0_475)) (Zaa HO472) (by decide)) hk); replace BK475 := (kbZ BK475 hk NB475_0); replace HO486 := am_ (Kd.R_lower (Kd.R_new' ho0 (Kd.R_lt (Zaa HO469))) (keep_size (w := w) (g := g) (row := none) (Zbf GW463 GW475))); replace HO469 := am_ (Kd.R_mono (Kd.R_told (Kd.R_oldK (IsS100.apart (show IsS100 w0 _ g s0_0 t477 t478 from (Zbd NB0_463 NB0_475)) (Zaa HO469) (by decide)) hk) (Kd.R_base ho0)) (fun _ h_ => h_.1)); replace HK := am_ (KeepBut.trans (Zbf GW463 GW475) hk (.inl rfl)); replace HB := am_ (hb); replace HI0 := am_ (hi); clear hb hk hi ho0; obtain ⟨Ao34, co34, eo34⟩ := Kd.R_slice HO486.out; subst eo34; refine ci3 BK475 ?_; intros; have hnb36 := NB463_0.out; have hnc36 := NB0_463.out; refine ci3 BK463 ?_; intros))
    refine bodyPost_ret (results_cell_row rfl _ _ gb463 28 #[.slice Ao9 t464.length co9, .slice Ao34 t484.length co34, .slice Ao14 t470.length co14] (0, 0) _ rfl (bmZ BK463 NB463_475) Try.underlying28 rfl Zk) rfl ?_; exact ⟨_, _, _, Zl, (Zcg HO466 BK475 BK463), (Zcg HO486 BK475 BK463), (Zcg HO472 BK475 BK463), (Zbd NB0_463 NB0_475), (Zbe GE463 GE475), (Zbf GW463 GW475)⟩
   ·have H := HS_.out
    clear HS_; rw [if_neg c21] at H; have c21b0 := beq_eq_false_iff_ne.mpr c21; have c21b1 := bne_iff_ne.mpr c21; have HS_ := am_ H; clear H
    by_cases c38 : t476 = 2
    ·have H := HS_.out
     clear HS_; rw [if_pos c38] at H; have c38b0 := beq_iff_eq.mpr c38; have c38b1 := bne_eq_false_iff_eq.mpr c38; clear c38; replace H := Option.bind_eq_some_iff.mp H; obtain ⟨⟨t489, t490, t491⟩, A390, H⟩ := H
     dsimp only at H
     have A39 := am_ A390; clear A390; replace H := Option.bind_eq_some_iff.mp H; obtain ⟨⟨t492, t493, t494⟩, A400, H⟩ := H
     dsimp only at H
     have A40 := am_ A400; clear A400; replace H := Option.bind_eq_some_iff.mp H; obtain ⟨⟨t495, t496, t497⟩, A410, H⟩ := H
     dsimp only at H
     have A41 := am_ A410; clear A410
     by_cases c42 : t470.length < 3518437208883
     ·rw [if_pos c42] at H
      have LMc42 := am_ c42; clear c42; obtain ⟨y498, hy498⟩ : ∃ y_ : List (S39), y_ = (t470 ++ [(⟨wrap64 (t489 - 1), t492, (⟨#[112, 101, 111, 110, 121]⟩ : ByteArray), wrap64 (t495 - 1)⟩ : S39)]) := ⟨_, rfl⟩
      (first | (rw [← hy498] at H; with_reducible replace H := bindZ H) | rw [← hy498] at H | skip)
      have Ny498 := am_ hy498; clear hy498; simp only [Option.some.injEq, Prod.mk.injEq] at H; obtain ⟨rfl, rfl, rfl, rfl, rfl⟩ := H
      try go_wp2_with (first | fail)
      replace HO466 := am_ (Kd.R_drew HO466.out); replace HO469 := am_ (Kd.R_drew HO469.out); replace HO472 := am_ (Kd.R_drew HO472.out); replace BK463 := am_ (blk_drew BK463.out); replace BK475 := am_ (blk_drew BK475.out); replace HI0 := am_ (IsS100.drew HI0.out); replace HK := am_ (keep_drew HK.out); replace HB := am_ (below_drew1 HB.out); refine start_ (n := 15) (S := fun w' => w'.cell? ⟨gb475, 0, none⟩ = some (.slice Ao9 t464.length co9) ∧ w'.cell? ⟨gb475, 1, none⟩ = some (.slice Ao13 t467.length co13) ∧ w'.cell? ⟨gb475, 2, none⟩ = some (.slice Ao14 t470.length co14)) (ds := [14]) (bT 15 0) Zk rfl rfl ⟨(blk_cell BK475.out 0).trans rfl, (blk_cell BK475.out 1).trans rfl, (blk_cell BK475.out 2).trans rfl⟩ (fun hHeld => ?_); refine with_tabW spec_l08Draw.tab8 spec_l08Draw.bits8 (fun HT_ HW_ => ?_); generalize w15.drew = w53 at HO466 HO469 HO472 BK463 BK475 HI0 HK HB hHeld ⊢; refine pureZ HT_ 0 (some 21) (bT 15 1) ?_; refine pureZ HT_ 2 (some 23) (bB 15 5) ?_; refine pureZ HT_ 5 (some 26) (bB 15 37) ?_; refine pureZ HT_ 7 (some 28) (bB 15 165) ?_; refine takeZ3 HT_ HW_ 1 (some 22) (bB 15 167) hHeld ?_; refine one_ (i := 3) (N := some 24) (bB 15 175) rfl rfl (one_of HT_.out Zk) (by decide) (fun K hK => ?_); refine goes_ Try.func52 Zk rfl #[.pointer (some ⟨g, 0, none⟩), .int .i64 8] (by rfl) rfl rfl Zs ?_
      with_reducible refine (spec_l01Next.calls g s0_0 t477 t478 8 t489 t490 t491 w0 _ ?side1 ?side2 A39.out).mono ?_
      (case side1 => exact (Zbd NB0_463 NB0_475))
      (case side2 => exact (Zbe GE463 GE475))
      rintro e w54 ⟨rfl, hi, hb, hk⟩; refine ⟨_, rfl, ?_⟩; replace BK463 := (kbZ BK463 hk NB463_0); replace HO466 := (hoZ (IsS100.apart (show IsS100 w0 _ g s0_0 t477 t478 from (Zbd NB0_463 NB0_475)) (Zaa HO466) (by decide)) hk); replace HO469 := (hoZ (IsS100.apart (show IsS100 w0 _ g s0_0 t477 t478 from (Zbd NB0_463 NB0_475)) (Zaa HO469) (by decide)) hk); replace HO472 := (hoZ (IsS100.apart (show IsS100 w0 _ g s0_0 t477 t478 from (Zbd NB0_463 NB0_475)) (Zaa HO472) (by decide)) hk); replace BK475 := (kbZ BK475 hk NB475_0); replace HK := am_ (KeepBut.trans (Zbf GW463 GW475) hk (.inl rfl)); replace HB := am_ (hb); replace HI0 := am_ (hi)
      (try clear hb)
      (try clear hb2)
      (try clear hk)
      (try clear hi)
      refine hK.out _ _ (Zy BK475) (fun hHeld => ?_); clear hK K; refine normZ 24 ?_; refine pureZ HT_ 4 (some 25) (bB 15 191) ?_; refine one_ (i := 6) (N := some 27) (bT 15 8) rfl rfl (one_of HT_.out Zk) (by decide) (fun K hK => ?_); refine goes_ Try.func52 Zk rfl #[.pointer (some ⟨g, 0, none⟩), .int .i64 5] (by rfl) rfl rfl Zs ?_
      with_reducible refine (spec_l01Next.calls g s0_0 t490 t491 5 t492 t493 t494 w0 _ ?side1 ?side2 A40.out).mono ?_
      (case side1 => exact (Zbd NB0_463 NB0_475))
      (case side2 => exact (Zbe GE463 GE475))
      rintro e w55 ⟨rfl, hi, hb, hk⟩; refine ⟨_, rfl, ?_⟩; replace BK463 := (kbZ BK463 hk NB463_0); replace HO466 := (hoZ (IsS100.apart (show IsS100 w0 _ g s0_0 t490 t491 from (Zbd NB0_463 NB0_475)) (Zaa HO466) (by decide)) hk); replace HO469 := (hoZ (IsS100.apart (show IsS100 w0 _ g s0_0 t490 t491 from (Zbd NB0_463 NB0_475)) (Zaa HO469) (by decide)) hk); replace HO472 := (hoZ (IsS100.apart (show IsS100 w0 _ g s0_0 t490 t491 from (Zbd NB0_463 NB0_475)) (Zaa HO472) (by decide)) hk); replace BK475 := (kbZ BK475 hk NB475_0); replace HK := am_ (KeepBut.trans (Zbf GW463 GW475) hk (.inl rfl)); replace HB := am_ (hb); replace HI0 := am_ (hi)
      (try clear hb)
      (try clear hb2)
      (try clear hk)
      (try clear hi)
      refine hK.out _ _ (Zy BK475) (fun hHeld => ?_); clear hK K; refine normZ 27 ?_; refine one_ (i := 8) (N := some 29) (bT 15 9) rfl rfl (one_of HT_.out Zk) (by decide) (fun K hK => ?_); refine goes_ Try.func52 Zk rfl #[.pointer (some ⟨g, 0, none⟩), .int .i64 14] (by rfl) rfl rfl Zs ?_
      with_reducible refine (spec_l01Next.calls g s0_0 t493 t494 14 t495 t496 t497 w0 _ ?side1 ?side2 A41.out).mono ?_
      (case side1 => exact (Zbd NB0_463 NB0_475))
      (case side2 => exact (Zbe GE463 GE475))
      rintro e w56 ⟨rfl, hi, hb, hk⟩; refine ⟨_, rfl, ?_⟩; replace BK463 := (kbZ BK463 hk NB463_0); replace HO466 := (hoZ (IsS100.apart (show IsS100 w0 _ g s0_0 t493 t494 from (Zbd NB0_463 NB0_475)) (Zaa HO466) (by decide)) hk); replace HO469 := (hoZ (IsS100.apart (show IsS100 w0 _ g s0_0 t493 t494 from (Zbd NB0_463 NB0_475)) (Zaa HO469) (by decide)) hk); replace HO472 := (hoZ (IsS100.apart (show IsS100 w0 _ g s0_0 t493 t494 from (Zbd NB0_463 NB0_475)) (Zaa HO472) (by decide)) hk); replace BK475 := (kbZ BK475 hk NB475_0); replace HK := am_ (KeepBut.trans (Zbf GW463 GW475) hk (.inl rfl)); replace HB := am_ (hb); replace HI0 := am_ (hi)
      (try clear hb)
      (try clear hb2)
      (try clear hk)
      (try clear hi)
      refine hK.out _ _ (Zy BK475) (fun hHeld => ?_); clear hK K; refine normZ 29 ?_; refine pureZ HT_ 9 (some 30) (bT 15 10) ?_; refine pureZ HT_ 10 (some 31) (bT 15 11) ?_; refine one_ (i := 11) (N := some 32) (bT 15 12) rfl rfl (one_of HT_.out Zk) (by decide) (fun K hK => ?_); refine value_ (w1 := ?_) (v := ?_) (by rfl) rfl ?_ ?_; rotate_left 2
      ·go_simp
       constructor
       ·rfl
       ·rfl
      refine hK.out _ _ ⟨(blk_cell (blk_alloc BK475.out _) 0).trans rfl, (blk_cell (blk_alloc BK475.out _) 1).trans rfl, (blk_cell (blk_alloc BK475.out _) 2).trans rfl⟩ (fun hHeld => ?_); clear hK K; refine normZ 32 ?_; refine one_ (i := 12) (N := some 33) (bT 15 13) rfl rfl (one_of HT_.out Zk) (by decide) (fun K hK => ?_); refine Kd.R_append_step k39 w.heap.size (by rfl) (.tmp 22) (.tmp 32) 26 39 (.agg #[(.int .i64 0), (.int .i64 0), (.string ⟨#[]⟩), (.int .i64 0)]) 40 rfl Try.underlying26 info39 rfl (by decide) (by omega) (.slice Ao14 t470.length co14) t470 (⟨wrap64 (t489 - 1), t492, (⟨#[112, 101, 111, 110, 121]⟩ : ByteArray), wrap64 (t495 - 1)⟩ : S39) [.int .i64 (wrap64 (t489 - 1)), .int .i64 t492, .string (⟨#[112, 101, 111, 110, 121]⟩ : ByteArray), .int .i64 (wrap64 (t495 - 1))] (fun _ => True) (fun _ => False) rfl rfl ?aP (fun _ hk => hk.elim) ?aF ?aO (Below.refl _ _) ?aS ?aL ?_
      (case aP => exact k39_mkM _ _ _ (⟨wrap64 (t489 - 1), t492, (⟨#[112, 101, 111, 110, 121]⟩ : ByteArray), wrap64 (t495 - 1)⟩ : S39))
      (case aF => exact (fun _ _ => trivial))
      (case aO => exact (Zaa HO472))
      (case aS => exact (keep_size (w := w) (g := g) (row := none) (Zbf GW463 GW475)))
      (case aL => have := LMc42.out; omega)
      intro v499 w57 ho hb hg hat; rw [← Ny498.out] at ho; replace BK463 := am_ (blk_grown (g := gb463) (b0Z BK463) hg (Kd.R_ne HO472.out BK463.out (by decide))); replace HO466 := am_ (Kd.R_over' (Zaa HO466) (Kd.R_typed (Zaa HO472)) (by decide) hg); replace HO469 := am_ (Kd.R_over' (Zaa HO469) (Kd.R_typed (Zaa HO472)) (by decide) hg); replace BK475 := am_ (blk_grown (g := gb475) (b0Z BK475) hg (Kd.R_ne HO472.out BK475.out (by decide))); replace HB := am_ (below_weaken (Zbe GE463 GE475) HL.out hb); replace HI0 := am_ (IsS100.grown (Zbd NB0_463 NB0_475) hg (IsS100.own_ne HI0.out HO472.out (by decide))); replace HK := am_ (KeepBut.trans (Zbf GW463 GW475) (KeepBut.of_grown hg g) (Kd.R_base2 HO472.out)); replace HO500 := am_ (ho); clear HO472; clear ho hb hg hat; obtain ⟨Ao58, co58, eo58⟩ := Kd.R_slice HO500.out
      (first | subst eo58 | (injection eo58 with f1_ f2_ f3_; have f4_ := f1_.symm; have f5_ := f3_.symm; clear f1_ f2_ f3_; subst f4_; subst f5_))
      refine hK.out _ _ (Zy BK475) (fun hHeld => ?_); clear hK K; refine normZ 33 ?_; refine pureZ HT_ 13 (some 34) (bT 15 14) ?_; refine last_ (i := 14) (N := none) (bT 15 15) rfl rfl (one_of HT_.out Zk) (by decide) (fun K hK => ?_); have hs59 : w57.cell? ⟨gb475, 2, none⟩ = some (.slice Ao14 t470.length co14) := (blk_cell BK475.out 2).trans rfl; have hfs59 := blk_frozen BK475.out 2; have hns59_0 := NB463_475.out; have hms59_0 := NB475_463.out; refine skip_ (w1 := ?_) (by rfl) rfl ?_ ?_; rotate_left
      ·go_simp
       rfl
      refine hK.out _ _ ?_; clear hK K; refine done_ (done_of HT_.out Zk) ?_; refine ci3 BK475 ?_; intros; have hnb61 := NB463_0.out; have hnc61 := NB0_463.out; refine ci3 BK463 ?_; intros
      try go_wp2
      refine bodyPost_ret (results_cell_row rfl _ _ gb463 28 #[.slice Ao9 t464.length co9, .slice Ao13 t467.length co13, .slice Ao58 y498.length co58] (0, 0) _ rfl (bmZ BK463 NB463_475) Try.underlying28 rfl Zk) rfl ?_; exact ⟨_, _, _, Zl, (Zch HO466 BK475 BK463), (Zch HO469 BK475 BK463), (Zch HO500 BK475 BK463), (Zbd NB0_463 NB0_475), (Zbe GE463 GE475), (Zbf GW463 GW475)⟩
     ·rw [if_neg c42] at H
      exact absurd H (by simp)
    ·have H := HS_.out
     clear HS_; rw [if_neg c38] at H; have c38b0 := beq_eq_false_iff_ne.mpr c38; have c38b1 := bne_iff_ne.mpr c38; have HS_ := am_ H; clear H; refine ci3 BK475 ?_; intros
     by_cases c63 : t476 = 3
     ·have H := HS_.out
      clear HS_; rw [if_pos c63] at H; have c63b0 := beq_iff_eq.mpr c63; have c63b1 := bne_eq_false_iff_eq.mpr c63; clear c63; have HS_ := am_ H; clear H
      by_cases c64 : (t470.length : Int) > 0
      ·have H := HS_.out
       clear HS_; rw [if_pos c64] at H; have c64b0 : decide (0 < (t470.length : Int)) = true := decide_eq_true c64; have c64b1 : decide (0 < t470.length) = true := decide_eq_true (by omega); clear c64
       by_cases c65 : 0 < (t470.length : Int)
       ·rw [if_pos c65] at H
        have c65b0 := decide_eq_true c65; have c65b1 : decide (0 < t470.length) = true := decide_eq_true (by omega); clear c65; have H' := am_ H; clear H; have p501 : 0 ≤ (0 : Int) := (by omega); have q501 : 0 < (t470.length : Int) := of_decide_eq_true Zc; obtain ⟨ad501, e501, hx501_0, hx501_1, hx501_2, hx501_3⟩ := at_T39 (Kd.R_reads' HO472.out).2.2 0 p501 q501
        cases e501
        have qi501 : (0 < t470.length) = True := eq_true (by omega)
        (try rw [show ((0 : Int)).toNat = 0 from rfl] at hx501_0)
        (try rw [show 0 * 4 = 0 from rfl] at hx501_0)
        (try rw [Addr.add_zero'] at hx501_0)
        (try rw [show ((0 : Int)).toNat = 0 from rfl] at hx501_1)
        (try rw [show 0 * 4 = 0 from rfl] at hx501_1)
        (try rw [Addr.add_zero'] at hx501_1)
        (try rw [show ((0 : Int)).toNat = 0 from rfl] at hx501_2)
        (try rw [show 0 * 4 = 0 from rfl] at hx501_2)
        (try rw [Addr.add_zero'] at hx501_2)
        (try rw [show ((0 : Int)).toNat = 0 from rfl] at hx501_3)
        (try rw [show 0 * 4 = 0 from rfl] at hx501_3)
        (try rw [Addr.add_zero'] at hx501_3)
        replace p501 := eq_true p501; replace q501 := eq_true q501
        go_wp2_with (first | ((with_reducible refine gate_dst (N := 4) rfl ?_); refine boxZ 4 #[.int .i64 0, .int .i64 0, .string (⟨#[]⟩ : ByteArray), .int .i64 0] 39 ?_; intro gb502 hg w77 hbox hb; replace HO466 := (hbZ HO466 hb); replace HO469 := (hbZ HO469 hb); replace HO472 := am_ (Kd.R_below (Kd.R_elderB (Zaa HO472) gb502 (Nat.le_of_eq hg.symm)) hb); replace HB := (bsZ (Zbe GE463 GE475) hb); replace BK502 := am_ (hbox); replace GW502 := am_ (((Zbj GW463 GW475) : w.heap.size ≤ gb502)); replace GE502 := am_ ((Nat.le_trans HW0.out ((Zbj GW463 GW475) : w.heap.size ≤ gb502) : w0.heap.size ≤ gb502)); replace HK := am_ (KeepBut.trans (Zbf GW463 GW475) (KeepBut.of_below hb g none) (.inl rfl)); replace NB463_502 := am_ ((by rw [hg]; exact Nat.ne_of_lt (blk_lt (g := gb463) (b0Z BK463)) : gb463 ≠ gb502)); replace NB502_463 := am_ ((by rw [hg]; exact Nat.ne_of_gt (blk_lt (g := gb463) (b0Z BK463)) : gb502 ≠ gb463)); replace BK463 := (bkZ BK463 hb); replace NB475_502 := am_ ((by rw [hg]; exact Nat.ne_of_lt (blk_lt (g := gb475) (b0Z BK475)) : gb475 ≠ gb502)); replace NB502_475 := am_ ((by rw [hg]; exact Nat.ne_of_gt (blk_lt (g := gb475) (b0Z BK475)) : gb502 ≠ gb475)); replace BK475 := (bkZ BK475 hb); replace NB0_502 := am_ ((by rw [hg]; exact Nat.ne_of_lt (IsS100.lt (show IsS100 w0 _ g s0_0 t477 t478 from (Zbd NB0_463 NB0_475))) : g ≠ gb502)); replace NB502_0 := am_ ((by rw [hg]; exact Nat.ne_of_gt (IsS100.lt (show IsS100 w0 _ g s0_0 t477 t478 from (Zbd NB0_463 NB0_475))) : gb502 ≠ g)); replace HI0 := am_ (IsS100.below (Zbd NB0_463 NB0_475) hb); clear hb hbox hg; have hnb78 := NB502_463.out; have hnc78 := NB463_502.out; have hnb79 := NB502_475.out; have hnc79 := NB475_502.out; have hnb80 := NB502_0.out; have hnc80 := NB0_502.out; refine ci4 BK502 ?_; intros))
        go_loopg [] k (fun kq w' => ∃ (x1001_1 : Int) (x1002_1 : Int) (x476002_1 : List (S39)) (u476002 : Value), Aside0 (spec_l08Draw.l0 kq s0_0 x1001_1 x1002_1 t464 t467 x476002_1 ((rd_T39 t470 0).f0) ((rd_T39 t470 0).f1) ((rd_T39 t470 0).f2) ((rd_T39 t470 0).f3) = some (r1, r2, r3, r4, r5)) ∧ Aside0 (kq ≤ k) ∧ Aside0 (Kd.R k104 104 w' w.heap.size (fun _ => True) (.slice Ao9 t464.length co9) t464) ∧ Aside0 (Kd.R k62 62 w' w.heap.size (fun _ => True) (.slice Ao13 t467.length co13) t467) ∧ Aside0 (Kd.R k39 39 w' w.heap.size (fun k_ => k_ ≠ gb502) u476002 x476002_1) ∧ Aside0 (w'.heap[gb463]? = some (.cells #[(.slice none 0 0), (.slice none 0 0), (.slice none 0 0)] 28 (0, 0))) ∧ Aside0 (w'.heap[gb475]? = some (.cells #[(.slice Ao9 t464.length co9), (.slice Ao13 t467.length co13), u476002] 28 (0, 0))) ∧ Aside0 (w'.heap[gb502]? = some (.cells #[.int .i64 ((rd_T39 t470 0).f0), .int .i64 ((rd_T39 t470 0).f1), .string ((rd_T39 t470 0).f2), .int .i64 ((rd_T39 t470 0).f3)] 39 (0, 0))) ∧ Aside0 (IsS100 w0 w' g s0_0 x1001_1 x1002_1) ∧ Aside0 (KeepBut w w' g none) ∧ Aside0 (Below w0.heap.size w0 w'))
        case atStart => exact ⟨(t477), (t478), (t470), (.slice (some ad501) t470.length co14), H', ⟨Nat.le_refl _⟩, ⟨(Zab HO466 BK502)⟩, ⟨(Zab HO469 BK502)⟩, ⟨by (with_reducible repeat (first | apply Kd.R_alloc | apply Kd.R_drewN | apply Kd.R_drew)); exact Kd.R_mono (rfZ (Kd.R_mono HO472.out (fun k_ hk => (⟨hk, hk.2⟩ : _ ∧ k_ ≠ gb502)))) (fun _ hk => hk.1.2)⟩, ⟨(Zci NB463_502 BK463)⟩, ⟨(Zci NB475_502 BK475)⟩, ⟨by (with_reducible repeat (first | refine blk_drewN ?_ _ | refine blk_drew ?_ | refine blk_alloc ?_ _)); refine blk_put (cs := #[.int .i64 ((rd_T39 t470 0).f0), .int .i64 ((rd_T39 t470 0).f1), .string ((rd_T39 t470 0).f2), .int .i64 0]) ?_ 3 _ rfl; refine blk_put (cs := #[.int .i64 ((rd_T39 t470 0).f0), .int .i64 ((rd_T39 t470 0).f1), .string (⟨#[]⟩ : ByteArray), .int .i64 0]) ?_ 2 _ rfl; refine blk_put (cs := #[.int .i64 ((rd_T39 t470 0).f0), .int .i64 0, .string (⟨#[]⟩ : ByteArray), .int .i64 0]) ?_ 1 _ rfl; refine blk_put (cs := #[.int .i64 0, .int .i64 0, .string (⟨#[]⟩ : ByteArray), .int .i64 0]) ?_ 0 _ rfl; (with_reducible repeat (first | refine blk_drewN ?_ _ | refine blk_drew ?_ | refine blk_alloc ?_ _)); exact BK502.out⟩, ⟨(Zbp NB0_463 NB0_475 NB0_502)⟩, ⟨(Zbm GW463 GW475 GW502)⟩, ⟨(Zbo GE463 GE475 GE502)⟩⟩
        case round =>
         clear H'
         try clear c1
         try clear c2
         try clear p2
         try clear c3
         try clear c4
         try clear c4b0
         try clear c4b1
         try clear c5
         try clear p5
         try clear q5
         try clear hx5
         try clear qi5
         try clear c6
         try clear p6
         try clear c7
         try clear c8
         try clear c10
         try clear c11
         try clear c19
         try clear c21
         try clear c21b0
         try clear c21b1
         try clear c27
         try clear c28
         try clear c36
         try clear c38
         try clear c38b0
         try clear c38b1
         try clear c42
         try clear c47
         try clear c48
         try clear c50
         try clear p50
         try clear q50
         try clear hx50
         try clear qi50
         try clear c52
         try clear c61
         try clear c63
         try clear c63b0
         try clear c63b1
         try clear c64
         try clear c64b0
         try clear c64b1
         try clear p64
         try clear c65
         try clear c65b0
         try clear c65b1
         try clear c70
         try clear c71
         try clear c78
         try clear c79
         try clear c80
         try clear hx501_0
         try clear hx501_1
         try clear hx501_2
         try clear hx501_3
         try clear p501
         try clear q501
         obtain ⟨x1001_1, x1002_1, x476002_1, u476002, HA, HK1, HO_476000, HO_476001, HO_476002, BK463, BK475, BK502, HI0, HK, HB⟩ := hrel
         cases gk with
         | zero => exact absurd HA.out (by simp [spec_l08Draw.l0])
         | succ k1 =>
          have H := HA.out; clear HA; simp only [spec_l08Draw.l0] at H; replace H := Option.bind_eq_some_iff.mp H; obtain ⟨⟨t503, t504, t505⟩, A820, H⟩ := H
          dsimp only at H
          have A82 := am_ A820; clear A820; have HS_ := am_ H; clear H
          try go_wp2
          replace HO_476000 := am_ (Kd.R_drew HO_476000.out); replace HO_476001 := am_ (Kd.R_drew HO_476001.out); replace HO_476002 := am_ (Kd.R_drew HO_476002.out); replace BK463 := am_ (blk_drew BK463.out); replace BK475 := am_ (blk_drew BK475.out); replace BK502 := am_ (blk_drew BK502.out); replace HI0 := am_ (IsS100.drew HI0.out); replace HK := am_ (keep_drew HK.out); replace HB := am_ (below_drew1 HB.out); obtain ⟨Ao86, co86, eo86⟩ := Kd.R_slice HO_476002.out
          (first | subst eo86 | (injection eo86 with f1_ f2_ f3_; have f4_ := f1_.symm; have f5_ := f3_.symm; clear f1_ f2_ f3_; subst f4_; subst f5_))
          refine start_ (n := 7) (S := fun w' => w'.cell? ⟨gb475, 0, none⟩ = some (.slice Ao9 t464.length co9) ∧ w'.cell? ⟨gb475, 1, none⟩ = some (.slice Ao13 t467.length co13) ∧ w'.cell? ⟨gb475, 2, none⟩ = some (.slice Ao86 x476002_1.length co86)) (ds := []) (bT 7 0) Zk rfl rfl ⟨(blk_cell BK475.out 0).trans rfl, (blk_cell BK475.out 1).trans rfl, (blk_cell BK475.out 2).trans rfl⟩ (fun hHeld => ?_); generalize wr.drew = w85 at HO_476000 HO_476001 HO_476002 BK463 BK475 BK502 HI0 HK HB hHeld ⊢; refine pure_ (i := 0) (N := some 45) (v := ?_) (a' := ?_) (bT 7 1) rfl rfl Zk (fun _ _ _ h => h) (Or.inl ⟨by rfl, ?_⟩) ?_ ?_; rotate_left
          ·intro w'
           go_simp
           with_reducible rfl
          rotate_left
          ·exact Zput
          refine pure_ (i := 3) (N := some 48) (v := ?_) (a' := ?_) (bB 7 9) rfl rfl Zk (fun _ _ _ h => h) (Or.inl ⟨by rfl, ?_⟩) ?_ ?_; rotate_left
          ·intro w'
           go_simp
           with_reducible rfl
          rotate_left
          ·exact Zput
          refine take_ (i := 1) (N := some 46) (v := ?_) (a' := ?_) (bB 7 11) rfl rfl Zk (fun _ _ _ h => h) (Or.inl ⟨by rfl, ?_⟩) hHeld ?_ ?_; rotate_left
          ·rintro w' ⟨s0, s1, s2⟩
           go_simp
           with_reducible rfl
          rotate_left
          ·exact Zput
          refine pure_ (i := 2) (N := some 47) (v := ?_) (a' := ?_) (bT 7 4) rfl rfl Zk (fun _ _ _ h => h) (Or.inl ⟨by rfl, ?_⟩) ?_ ?_; rotate_left
          ·intro w'
           go_simp
           with_reducible rfl
          rotate_left
          ·exact Zput
          refine one_ (i := 4) (N := some 49) (bT 7 5) rfl rfl Zk (by decide) (fun K hK => ?_); refine goes_ Try.func52 Zk rfl #[.pointer (some ⟨g, 0, none⟩), .int .i64 2] (by rfl) rfl rfl Zs ?_
          with_reducible refine (spec_l01Next.calls g s0_0 x1001_1 x1002_1 2 t503 t504 t505 w0 _ ?side1 ?side2 A82.out).mono ?_
          (case side1 => exact (Zbp NB0_463 NB0_475 NB0_502))
          (case side2 => exact (Zbo GE463 GE475 GE502))
          rintro e w87 ⟨rfl, hi, hb, hk⟩; refine ⟨_, rfl, ?_⟩; replace HO_476000 := (hoZ (IsS100.apart (show IsS100 w0 _ g s0_0 x1001_1 x1002_1 from (Zbp NB0_463 NB0_475 NB0_502)) (Zaa HO_476000) (by decide)) hk); replace HO_476001 := (hoZ (IsS100.apart (show IsS100 w0 _ g s0_0 x1001_1 x1002_1 from (Zbp NB0_463 NB0_475 NB0_502)) (Zaa HO_476001) (by decide)) hk); replace HO_476002 := (hoZ (IsS100.apart (show IsS100 w0 _ g s0_0 x1001_1 x1002_1 from (Zbp NB0_463 NB0_475 NB0_502)) (Zaa HO_476002) (by decide)) hk); replace BK463 := (kbZ BK463 hk NB463_0); replace BK475 := (kbZ BK475 hk NB475_0); replace BK502 := (kbZ BK502 hk NB502_0); replace HK := am_ (KeepBut.trans (Zbm GW463 GW475 GW502) hk (.inl rfl)); replace HB := am_ (hb); replace HI0 := am_ (hi)
          (try clear hb)
          (try clear hb2)
          (try clear hk)
          (try clear hi)
          refine hK.out _ _ (Zy BK475) (fun hHeld => ?_); clear hK K; refine normZ 49 ?_; refine pure_ (i := 5) (N := some 50) (v := ?_) (a' := ?_) (bT 7 6) rfl rfl Zk (fun _ _ _ h => h) (Or.inl ⟨by rfl, ?_⟩) ?_ ?_; rotate_left
          ·intro w'
           go_simp
           with_reducible rfl
          rotate_left
          ·exact Zput
          refine pure_ (i := 6) (N := some 51) (v := ?_) (a' := ?_) (bT 7 7) rfl rfl Zk (fun _ _ _ h => h) (Or.inl ⟨by rfl, ?_⟩) ?_ ?_; rotate_left
          ·intro w'
           go_simp
           with_reducible rfl
          rotate_left
          ·exact Zput
          refine done_ Zk ?_; have hnb88 := NB475_463.out; have hnc88 := NB463_475.out; have hnb89 := NB475_502.out; have hnc89 := NB502_475.out; have hnb90 := NB475_0.out; have hnc90 := NB0_475.out; refine ci3 BK475 ?_; intros; have hnb92 := NB502_463.out; have hnc92 := NB463_502.out
          by_cases c83 : (x476002_1.length : Int) < (wrap64 (20 + t503))
          ·have H := HS_.out
           clear HS_; rw [if_pos c83] at H; have c83b0 := decide_eq_true c83; clear c83
           by_cases c84 : x476002_1.length < 3518437208883
           ·rw [if_pos c84] at H
            have LMc84 := am_ c84; clear c84; obtain ⟨y506, hy506⟩ : ∃ y_ : List (S39), y_ = (x476002_1 ++ [(⟨((rd_T39 t470 0).f0), ((rd_T39 t470 0).f1), ((rd_T39 t470 0).f2), ((rd_T39 t470 0).f3)⟩ : S39)]) := ⟨_, rfl⟩
            (first | (rw [← hy506] at H; with_reducible replace H := bindZ H) | rw [← hy506] at H | skip)
            have Ny506 := am_ hy506; clear hy506; have H' := am_ H; clear H
            (try simp only [c83b0, Bool.not_true, Bool.not_false])
            have hnb93 := NB502_0.out; have hnc93 := NB0_502.out; refine ci4 BK502 ?_; intros
            try go_wp2_with (first | ((with_reducible refine gate_builtin (b := .append) (xs := #[.tmp 53, .tmp 55]) rfl ?_); at_builtin; refine Kd.R_append k39 w.heap.size rfl (.tmp 53) (.tmp 55) 26 39 (.agg #[(.int .i64 0), (.int .i64 0), (.string ⟨#[]⟩), (.int .i64 0)]) 40 rfl Try.underlying26 info39 rfl (by decide) (by omega) (.slice Ao86 x476002_1.length co86) x476002_1 (⟨((rd_T39 t470 0).f0), ((rd_T39 t470 0).f1), ((rd_T39 t470 0).f2), ((rd_T39 t470 0).f3)⟩ : S39) [.int .i64 ((rd_T39 t470 0).f0), .int .i64 ((rd_T39 t470 0).f1), .string ((rd_T39 t470 0).f2), .int .i64 ((rd_T39 t470 0).f3)] (fun k_ => k_ ≠ gb502) (fun _ => False) rfl rfl ?aP (fun _ hk => hk.elim) ?aF ?aO (Below.refl _ _) ?aS ?aL ?_; (case aP => exact k39_mkM _ _ _ (⟨((rd_T39 t470 0).f0), ((rd_T39 t470 0).f1), ((rd_T39 t470 0).f2), ((rd_T39 t470 0).f3)⟩ : S39)); (case aF => exact (fun k_ hk => Kd.freshB (g := gb502) (b0Z BK502) k_ hk)); (case aO => exact (Zaa HO_476002)); (case aS => exact (keep_size (w := w) (g := g) (row := none) (Zbm GW463 GW475 GW502))); (case aL => have := LMc84.out; omega); intro v507 w95 ho hb hg hat; rw [← Ny506.out] at ho; replace HO_476000 := am_ (Kd.R_over' (Zaa HO_476000) (Kd.R_typed (Zaa HO_476002)) (by decide) hg); replace HO_476001 := am_ (Kd.R_over' (Zaa HO_476001) (Kd.R_typed (Zaa HO_476002)) (by decide) hg); replace BK463 := am_ (blk_grown (g := gb463) (b0Z BK463) hg (Kd.R_ne HO_476002.out BK463.out (by decide))); replace BK475 := am_ (blk_grown (g := gb475) (b0Z BK475) hg (Kd.R_ne HO_476002.out BK475.out (by decide))); replace BK502 := am_ (blk_grown (g := gb502) (b0Z BK502) hg (Kd.R_away HO_476002.out (fun _ hk => hk))); replace HB := am_ (below_weaken (Zbo GE463 GE475 GE502) HL.out hb); replace HI0 := am_ (IsS100.grown (Zbp NB0_463 NB0_475 NB0_502) hg (IsS100.own_ne HI0.out HO_476002.out (by decide))); replace HK := am_ (KeepBut.trans (Zbm GW463 GW475 GW502) (KeepBut.of_grown hg g) (Kd.R_base2 HO_476002.out)); replace HO508 := am_ (ho); clear HO_476002; clear ho hb hg hat; obtain ⟨Ao96, co96, eo96⟩ := Kd.R_slice HO508.out; subst eo96; refine ci3 BK475 ?_; intros))
            go_roundg k1
            case measure => have := HK1.out; omega
            case rel => exact ⟨(t504), (t505), (y506), (.slice Ao96 y506.length co96), H', ⟨Zd⟩, ⟨(Zab HO_476000 BK475)⟩, ⟨(Zab HO_476001 BK475)⟩, ⟨by (with_reducible repeat (first | apply Kd.R_alloc | apply Kd.R_drewN | apply Kd.R_drew)); exact Kd.R_mono (rfZ (Kd.R_types HO508.out BK475.out (by decide))) (fun _ hk => hk.1)⟩, ⟨(Zbq NB463_475 BK463)⟩, ⟨by (with_reducible repeat (first | refine blk_drewN ?_ _ | refine blk_drew ?_ | refine blk_alloc ?_ _)); refine blk_put (cs := #[.slice Ao9 t464.length co9, .slice Ao13 t467.length co13, .slice Ao86 x476002_1.length co86]) ?_ 2 _ rfl; (with_reducible repeat (first | refine blk_drewN ?_ _ | refine blk_drew ?_ | refine blk_alloc ?_ _)); exact BK475.out⟩, ⟨(Zbq NB502_475 BK502)⟩, ⟨(Zbp NB0_463 NB0_475 NB0_502)⟩, ⟨(Zbm GW463 GW475 GW502)⟩, ⟨(Zbo GE463 GE475 GE502)⟩⟩
           ·rw [if_neg c84] at H
            exact absurd H (by simp)
          ·have H := HS_.out
           clear HS_; rw [if_neg c83] at H; have c83b0 := decide_eq_false c83; clear c83; simp only [Option.some.injEq, Prod.mk.injEq] at H; obtain ⟨rfl, rfl, rfl, rfl, rfl⟩ := H
           (try simp only [c83b0, Bool.not_true, Bool.not_false])
           have hnb106 := NB463_0.out; have hnc106 := NB0_463.out; refine ci3 BK463 ?_; intros
           try go_wp2
           refine bodyPost_ret (results_cell_row rfl _ _ gb463 28 #[.slice Ao9 t464.length co9, .slice Ao13 t467.length co13, .slice Ao86 x476002_1.length co86] (0, 0) _ rfl (bpZ BK463) Try.underlying28 rfl Zk) rfl ?_; exact ⟨_, _, _, Zl, (Zab HO_476000 BK463), (Zab HO_476001 BK463), (Zab HO_476002 BK463), (Zbp NB0_463 NB0_475 NB0_502), (Zbo GE463 GE475 GE502), (Zbm GW463 GW475 GW502)⟩
       ·rw [if_neg c65] at H
        exact absurd H (by simp)
      ·have H := HS_.out
       clear HS_; rw [if_neg c64] at H; have c64b0 : decide (0 < (t470.length : Int)) = false := decide_eq_false c64; have c64b1 : decide (0 < t470.length) = false := decide_eq_false (by omega); clear c64; simp only [Option.some.injEq, Prod.mk.injEq] at H; obtain ⟨rfl, rfl, rfl, rfl, rfl⟩ := H; have hnb119 := NB463_0.out; have hnc119 := NB0_463.out; refine ci3 BK463 ?_; intros
       go_wp2_with (first | fail)
       refine bodyPost_ret (results_cell_row rfl _ _ gb463 28 #[.slice Ao9 t464.length co9, .slice Ao13 t467.length co13, .slice Ao14 t470.length co14] (0, 0) _ rfl (bpZ BK463) Try.underlying28 rfl Zk) rfl ?_; exact ⟨_, _, _, Zl, (Zab HO466 BK463), (Zab HO469 BK463), (Zab HO472 BK463), (Zbd NB0_463 NB0_475), (Zbe GE463 GE475), (Zbf GW463 GW475)⟩
     ·have H := HS_.out
      clear HS_; rw [if_neg c63] at H; have c63b0 := beq_eq_false_iff_ne.mpr c63; have c63b1 := bne_iff_ne.mpr c63; simp only [Option.some.injEq, Prod.mk.injEq] at H; obtain ⟨rfl, rfl, rfl, rfl, rfl⟩ := H; have hnb132 := NB463_0.out; have hnc132 := NB0_463.out; refine ci3 BK463 ?_; intros
      go_wp2_with (first | fail)
      refine bodyPost_ret (results_cell_row rfl _ _ gb463 28 #[.slice Ao9 t464.length co9, .slice Ao13 t467.length co13, .slice Ao14 t470.length co14] (0, 0) _ rfl (bpZ BK463) Try.underlying28 rfl Zk) rfl ?_; exact ⟨_, _, _, Zl, (Zab HO466 BK463), (Zab HO469 BK463), (Zab HO472 BK463), (Zbd NB0_463 NB0_475), (Zbe GE463 GE475), (Zbf GW463 GW475)⟩
def spec_DrawMostAtOnce.f (k : Nat) (l0 : List Int) : Option ((List (S104)) × (List (S62)) × (List (S39))) := (spec_l01From.f k l0).bind fun bt1187 => ((spec_l08Draw.f k bt1187.1 bt1187.2.1 bt1187.2.2).bind fun bt1191 => (some (bt1191.1, bt1191.2.1, bt1191.2.2.1)))
set_option maxHeartbeats 8000000 in
set_option maxRecDepth 100000 in
theorem spec_DrawMostAtOnce.calls (k : Nat) (A0 : Option Addr) (c0 : Nat) (l0 : List Int) (r1 : List (S104)) (r2 : List (S62)) (r3 : List (S39)) (w : World) (hr0 : Kd.C (Kd.int .u8) w A0 l0.length l0) (hc0 : l0.length ≤ c0) (h : spec_DrawMostAtOnce.f k l0 = some (r1, r2, r3)) :
  Calls Try.prog 36 #[.slice A0 l0.length c0] w fun e w' => ∃ v0_ v1_ v2_ : Value, e = .returned (.agg #[v0_, v1_, v2_]) ∧ Kd.R k104 104 w' w.heap.size (fun _ => True) v0_ r1 ∧ Kd.R k62 62 w' w.heap.size (fun _ => True) v1_ r2 ∧ Kd.R k39 39 w' w.heap.size (fun _ => True) v2_ r3 ∧ Below w.heap.size w w' := by
 have hu28 := Try.underlying28; have HR0 := am_ hr0; have HC0 := am_ hc0; clear hr0 hc0; have HB := am_ (Below.refl w.heap.size w); have H : ((spec_l01From.f k l0).bind fun bt1187 => ((spec_l08Draw.f k bt1187.1 bt1187.2.1 bt1187.2.2).bind fun bt1191 => (some (bt1191.1, bt1191.2.1, bt1191.2.2.1)))) = some (r1, r2, r3) := h; clear h; replace H := Option.bind_eq_some_iff.mp H; obtain ⟨⟨t1187, t1188, t1189⟩, A20, H⟩ := H
 dsimp only at H
 have A2 := am_ A20; clear A20; replace H := Option.bind_eq_some_iff.mp H; obtain ⟨⟨t1191, t1194, t1197, t1200, t1201⟩, A30, H⟩ := H
 dsimp only at H
 have A3 := am_ A30; clear A30; simp only [Option.some.injEq, Prod.mk.injEq] at H; obtain ⟨rfl, rfl, rfl⟩ := H
 go_enter Try.func36, Try.ntmps36
 go_wp2_with (first | ((with_reducible refine gate_dst (N := 2) rfl ?_); refine boxZ 2 #[.slice none 0 0, .slice none 0 0, .slice none 0 0] 28 ?_; intro gb1186 hg w4 hbox hb; replace BK1186 := am_ (hbox); replace GW1186 := am_ ((Zr : w.heap.size ≤ gb1186)); replace GE1186 := GW1186; replace HB := (bsZ Zf hb); clear hb hbox hg) | ((with_reducible refine gate_callee (f := 49) rfl ?_); refine gZ 4 Try.func49 #[.slice A0 l0.length c0] ?_; (with_reducible refine (spec_l01From.calls k _ _ l0 t1187 t1188 t1189 w _ ?_ ?_ ?_ A2.out).mono ?_); exact (Zi GE1186); exact HR0.out; exact HC0.out; rintro e w5 ⟨g1190, rfl, hi, hb, hb2⟩; refine ⟨_, rfl, ?_⟩; replace HB := am_ (hb); replace HI1190 := am_ (hi); replace NB1190_1186 := am_ (IsS100.ne_blk hi (blk_below (g := gb1186) (b0Z BK1186) hb2) (by decide)); replace NB1186_1190 := am_ (Ne.symm (IsS100.ne_blk hi (blk_below (g := gb1186) (b0Z BK1186) hb2) (by decide))); replace BK1186 := am_ (blk_below (g := gb1186) (b0Z BK1186) hb2); clear hb hb2 hi) | ((with_reducible refine gate_callee (f := 50) rfl ?_); refine gZ 5 Try.func50 #[.pointer (some ⟨g1190, 0, none⟩)] ?_; (with_reducible refine (spec_l08Draw.calls k g1190 t1187 t1188 t1189 t1191 t1194 t1197 t1200 t1201 w _ ?_ ?_ A3.out).mono ?_); exact (by repeat (first | (with_reducible first | exact HI1190.out | apply IsS100.alloc | apply IsS100.drewN | apply IsS100.drew | apply IsS100.set_1 | apply IsS100.set_2 | refine IsS100.far ?_ NB1190_1186.out _) | exact HI1190.out)); exact (Zcj GE1186); rintro e w6 ⟨v1192, v1195, v1198, rfl, ho0, ho1, ho2, hi, hb, hk⟩; refine ⟨_, rfl, ?_⟩; replace BK1186 := (kbZ BK1186 hk NB1186_1190); replace HO1193 := am_ (Kd.R_lower ho0 (below_size (Zcj GE1186))); replace HO1196 := am_ (Kd.R_lower ho1 (below_size (Zcj GE1186))); replace HO1199 := am_ (Kd.R_lower ho2 (below_size (Zcj GE1186))); replace HB := am_ (hb); replace HI1190 := am_ (hi); clear hb hk hi ho0 ho1 ho2; obtain ⟨Ao7, co7, eo7⟩ := Kd.R_slice HO1193.out; subst eo7; have hnb8 := NB1186_1190.out; have hnc8 := NB1190_1186.out; refine ci3 BK1186 ?_; intros; obtain ⟨Ao10, co10, eo10⟩ := Kd.R_slice HO1196.out; subst eo10; obtain ⟨Ao11, co11, eo11⟩ := Kd.R_slice HO1199.out; subst eo11))
 refine bodyPost_ret (results_cell_row rfl _ _ gb1186 28 #[.slice Ao7 t1191.length co7, .slice Ao10 t1194.length co10, .slice Ao11 t1197.length co11] (0, 0) _ rfl (bpZ BK1186) Try.underlying28 rfl Zk) rfl ?_; exact ⟨_, _, _, Zl, (Zab HO1193 BK1186), (Zab HO1196 BK1186), (Zab HO1199 BK1186), (Zcj GE1186)⟩
def impl_within.f (a0 : Int) (a1 : Int) (a2 : Int) : Option (Bool) := if a1 ≤ a0 then (some (decide (a0 ≤ a2))) else (some false)
set_option maxHeartbeats 8000000 in
set_option maxRecDepth 100000 in
theorem impl_within.calls (a0 : Int) (a1 : Int) (a2 : Int) (r : Bool) (w : World) (h : impl_within.f a0 a1 a2 = some r) :
  Calls Try.prog 53 #[.int .i64 a0, .int .i64 a1, .int .i64 a2] w fun e w' => e = .returned (.bool r) ∧ Drawn0 w w' := by
 have H : (if a1 ≤ a0 then (some (decide (a0 ≤ a2))) else (some false)) = some r := h; clear h
 by_cases c4 : a1 ≤ a0
 ·rw [if_pos c4] at H
  have c4b0 := decide_eq_true c4; clear c4; obtain rfl := Option.some.inj H
  go_enter Try.func53, Try.ntmps53
  go_wp2
  go_ret
  exact ⟨Za, Zb⟩
 ·rw [if_neg c4] at H
  have c4b0 := decide_eq_false c4; clear c4; obtain rfl := Option.some.inj H
  go_enter Try.func53, Try.ntmps53
  go_wp2
  go_ret
  exact ⟨Za, Zb⟩
mutual
def impl_IsScore.j0 : Nat → List (S104) → Bool → Option (Bool)
 | 0, _, _ => none
 | k + 1, x0, x12 => if x12 = true then (some false) else (impl_IsScore.l0 k x0 (x0.length : Int) 0)
def impl_IsScore.l0 : Nat → List (S104) → Int → Int → Option (Bool)
 | 0, _, _, _ => none
 | k + 1, x13, x14, x15 => if x15 < x14 then (if 0 ≤ x15 then (if x15 < (x13.length : Int) then ((impl_within.f ((rd_T104 x13 x15).f0) 1 16).bind fun t537 => (if t537 = true then ((impl_within.f ((rd_T104 x13 x15).f1) 100 5000).bind fun t538 => (if t538 = true then (impl_IsScore.l0 k x13 x14 (wrap64 (x15 + 1))) else (some false))) else (some false))) else (none)) else (none)) else (some true)
end
def impl_IsScore.f (k : Nat) (l0 : List (S104)) : Option (Bool) := if (l0.length : Int) < 1 then (impl_IsScore.j0 k l0 true) else (impl_IsScore.j0 k l0 (decide ((l0.length : Int) > 20)))
set_option maxHeartbeats 8000000 in
set_option maxRecDepth 100000 in
theorem impl_IsScore.calls (k : Nat) (A0 : Option Addr) (c0 : Nat) (l0 : List (S104)) (r : Bool) (w : World) (hr0 : Kd.C k104 w A0 l0.length l0) (hc0 : l0.length ≤ c0) (h : impl_IsScore.f k l0 = some r) :
  Calls Try.prog 68 #[.slice A0 l0.length c0] w fun e w' => e = .returned (.bool r) ∧ Below w.heap.size w w' := by
 have hu104 := Try.underlying104; have HR0 := am_ hr0; have HC0 := am_ hc0; clear hr0 hc0; have HB := am_ (Below.refl w.heap.size w); have H : (if (l0.length : Int) < 1 then (impl_IsScore.j0 k l0 true) else (impl_IsScore.j0 k l0 (decide ((l0.length : Int) > 20)))) = some r := h; clear h; have HC2 := am_ H; clear H
 go_enter Try.func68, Try.ntmps68
 go_upto_region 1 with (fail)
 go_cut [12] (fun v12 wc => ∃ (kq : Nat) (x12_1 : Bool), v12 = .bool x12_1 ∧ Aside0 (impl_IsScore.j0 kq l0 x12_1 = some r) ∧ Aside0 (kq ≤ k) ∧ Aside0 (Below w.heap.size w wc))
 case first =>
  have H := HC2.out; clear HC2
  by_cases c3 : (l0.length : Int) < 1
  ·rw [if_pos c3] at H
   have c3b0 := decide_eq_true c3; have c3b1 : decide (l0.length < 1) = true := decide_eq_true (by omega); clear c3
   (first | rw [c3b0] | (simp only [i64_w, i32_w]; rw [c3b0]) | skip)
   have H' := am_ H; clear H
   go_wp2
   go_meet
   case rel => exact ⟨_, (true), Za, H', ⟨Zx⟩, ⟨Zf⟩⟩
  ·rw [if_neg c3] at H
   have c3b0 := decide_eq_false c3; have c3b1 : decide (l0.length < 1) = false := decide_eq_false (by omega); clear c3
   (first | rw [c3b0] | (simp only [i64_w, i32_w]; rw [c3b0]) | skip)
   have H' := am_ H; clear H
   go_wp2
   go_meet
   case rel => exact ⟨_, (decide ((l0.length : Int) > 20)), Za, H', ⟨Zx⟩, ⟨Zf⟩⟩
 case rest =>
  clear HC2
  try clear p2
  try clear c3
  try clear c3b0
  try clear c3b1
  obtain ⟨kq, x12_1, rfl, HA, HJ1, HB⟩ := hcut
  cases kq with
  | zero => exact absurd HA.out (by simp [impl_IsScore.j0])
  | succ kj1 =>
   have H := HA.out; clear HA; simp only [impl_IsScore.j0] at H
   by_cases c4 : x12_1 = true
   ·subst c4
    rw [if_pos rfl] at H; obtain rfl := Option.some.inj H
    go_wp2
    go_ret
    exact ⟨Zl, Zf⟩
   ·replace c4 := Bool.eq_false_iff.mpr c4
    subst c4; rw [if_neg (show ¬ (false = true) by decide)] at H; have H' := am_ H; clear H
    go_wp2
    go_loopg [15] kj1 (fun kq v15 w' => ∃ (x15_2 : Int), v15 = .int .i64 x15_2 ∧ Aside0 (impl_IsScore.l0 kq l0 (l0.length : Int) x15_2 = some r) ∧ Aside0 (kq ≤ kj1) ∧ Aside0 (Below w.heap.size w w'))
    case atStart => exact ⟨(0), Za, H', ⟨Nat.le_refl _⟩, ⟨Zf⟩⟩
    case round =>
     clear H'
     try clear p2
     try clear c3
     try clear c3b0
     try clear c3b1
     try clear c4
     try clear p2
     obtain ⟨x15_2, rfl, HA, HK2, HB⟩ := hrel
     cases gk with
     | zero => exact absurd HA.out (by simp [impl_IsScore.l0])
     | succ k2 =>
      have H := HA.out; clear HA; simp only [impl_IsScore.l0] at H
      by_cases c5 : x15_2 < (l0.length : Int)
      ·rw [if_pos c5] at H
       have c5b0 := decide_eq_true c5; clear c5
       by_cases c6 : 0 ≤ x15_2
       ·rw [if_pos c6] at H
        have c6b0 := decide_eq_true c6; clear c6
        by_cases c7 : x15_2 < (l0.length : Int)
        ·rw [if_pos c7] at H
         have c7b0 := decide_eq_true c7; clear c7; replace H := Option.bind_eq_some_iff.mp H; obtain ⟨t537, A80, H⟩ := H; have A8 := am_ A80; clear A80; have HS_ := am_ H; clear H; have p535 : 0 ≤ (x15_2 : Int) := of_decide_eq_true Zc; have q535 : x15_2 < (l0.length : Int) := of_decide_eq_true Zc; obtain ⟨ad535, e535, hx535_0, hx535_1⟩ := at_T104 HR0.out x15_2 p535 q535
         cases e535
         replace hx535_0 := cbH HB hx535_0; replace hx535_1 := cbH HB hx535_1; replace p535 := eq_true p535; replace q535 := eq_true q535
         go_wp2_with (first | ((with_reducible refine gate_dst (N := 4) rfl ?_); (try (refine gate_guard (by rfl) ?_; dsimp only)); refine boxZ 4 #[.int .i64 0, .int .i64 0] 104 ?_; intro gb536 hg w12 hbox hb; replace BK536 := am_ (hbox); replace GW536 := am_ ((Zr : w.heap.size ≤ gb536)); replace GE536 := GW536; replace HB := (bsZ Zf hb); clear hb hbox hg; refine ci2 BK536 ?_; intros) | ((with_reducible refine gate_callee (f := 53) rfl ?_); refine gZ 21 Try.func53 #[.int .i64 ((rd_T104 l0 x15_2).f0), .int .i64 1, .int .i64 16] ?_; (with_reducible refine (impl_within.calls ((rd_T104 l0 x15_2).f0) 1 16 t537 _ A8.out).mono ?_); rintro e w' ⟨rfl, ⟨nd, rfl⟩⟩; refine ⟨_, rfl, ?_⟩; refine ?roundEnd))
         case roundEnd =>
          by_cases c9 : t537 = true
          ·have H := HS_.out
           clear HS_; subst c9; rw [if_pos rfl] at H; replace H := Option.bind_eq_some_iff.mp H; obtain ⟨t538, A100, H⟩ := H; have A10 := am_ A100; clear A100; have HS_ := am_ H; clear H
           go_wp2_with (first | (go_at_call 53; (with_reducible refine (impl_within.calls ((rd_T104 l0 x15_2).f1) 100 5000 t538 _ A10.out).mono ?_); rintro e w' ⟨rfl, ⟨nd, rfl⟩⟩; refine ?roundEnd))
           case roundEnd =>
            by_cases c11 : t538 = true
            ·have H := HS_.out
             clear HS_; subst c11; rw [if_pos rfl] at H; have H' := am_ H; clear H
             go_wp2_with (first | fail)
             go_roundg k2
             case measure => have := HJ1.out; have := HK2.out; omega
             case rel => exact ⟨(wrap64 (x15_2 + 1)), Za, H', ⟨by have := HJ1.out; have := HK2.out; omega⟩, ⟨(Zi GE536)⟩⟩
            ·have H := HS_.out
             clear HS_; replace c11 := Bool.eq_false_iff.mpr c11; subst c11; rw [if_neg (show ¬ (false = true) by decide)] at H; obtain rfl := Option.some.inj H
             go_wp2_with (first | fail)
             go_ret
             exact ⟨Zl, (Zi GE536)⟩
          ·have H := HS_.out
           clear HS_; replace c9 := Bool.eq_false_iff.mpr c9; subst c9; rw [if_neg (show ¬ (false = true) by decide)] at H; obtain rfl := Option.some.inj H
           go_wp2_with (first | fail)
           go_ret
           exact ⟨Zl, (Zi GE536)⟩
        ·rw [if_neg c7] at H
         exact absurd H (by simp)
       ·rw [if_neg c6] at H
        exact absurd H (by simp)
      ·rw [if_neg c5] at H
       have c5b0 := decide_eq_false c5; clear c5; obtain rfl := Option.some.inj H
       go_wp2
       go_ret
       exact ⟨Zl, Zf⟩
mutual
def impl_IsWord.j0 : Nat → ByteArray → Bool → Option (Bool)
 | 0, _, _ => none
 | k + 1, x0, x11 => if x11 = true then (some false) else (impl_IsWord.l0 k x0 0)
def impl_IsWord.l0 : Nat → ByteArray → Int → Option (Bool)
 | 0, _, _ => none
 | k + 1, x0, x3 => if x3 < (x0.size : Int) then (if 0 ≤ x3 then (if (bt x0 x3) < 97 then (some false) else (if (bt x0 x3) > 122 then (some false) else (impl_IsWord.l0 k x0 (wrap64 (x3 + 1))))) else (none)) else (some true)
end
def impl_IsWord.f (k : Nat) (a0 : ByteArray) : Option (Bool) := if (a0.size : Int) < 1 then (impl_IsWord.j0 k a0 true) else (impl_IsWord.j0 k a0 (decide ((a0.size : Int) > 16)))
set_option maxHeartbeats 8000000 in
set_option maxRecDepth 100000 in
theorem impl_IsWord.calls (k : Nat) (a0 : ByteArray) (r : Bool) (w : World) (h : impl_IsWord.f k a0 = some r) :
  Calls Try.prog 100 #[.string a0] w fun e w' => e = .returned (.bool r) ∧ Drawn0 w w' := by
 have H : (if (a0.size : Int) < 1 then (impl_IsWord.j0 k a0 true) else (impl_IsWord.j0 k a0 (decide ((a0.size : Int) > 16)))) = some r := h; clear h; have HC2 := am_ H; clear H
 go_enter Try.func100, Try.ntmps100
 go_upto_region 1 with (fail)
 go_cut [11] (fun v11 wc => ∃ (kq : Nat) (x11_1 : Bool), v11 = .bool x11_1 ∧ Aside0 (impl_IsWord.j0 kq a0 x11_1 = some r) ∧ Aside0 (kq ≤ k) ∧ Drawn0 w wc)
 case first =>
  have H := HC2.out; clear HC2
  by_cases c3 : (a0.size : Int) < 1
  ·rw [if_pos c3] at H
   have c3b0 := decide_eq_true c3; have c3b1 : decide (a0.size < 1) = true := decide_eq_true (by omega); clear c3
   (first | rw [c3b0] | (simp only [i64_w, i32_w]; rw [c3b0]) | skip)
   have H' := am_ H; clear H
   go_wp2
   go_meet
   case rel => exact ⟨_, (true), Za, H', ⟨Zx⟩, Zb⟩
  ·rw [if_neg c3] at H
   have c3b0 := decide_eq_false c3; have c3b1 : decide (a0.size < 1) = false := decide_eq_false (by omega); clear c3
   (first | rw [c3b0] | (simp only [i64_w, i32_w]; rw [c3b0]) | skip)
   have H' := am_ H; clear H
   go_wp2
   go_meet
   case rel => exact ⟨_, (decide ((a0.size : Int) > 16)), Za, H', ⟨Zx⟩, Zb⟩
 case rest =>
  clear HC2
  try clear c1
  try clear p2
  try clear c3
  try clear c3b0
  try clear c3b1
  obtain ⟨kq, x11_1, rfl, HA, HJ1, ⟨mc1, rfl⟩⟩ := hcut
  cases kq with
  | zero => exact absurd HA.out (by simp [impl_IsWord.j0])
  | succ kj1 =>
   have H := HA.out; clear HA; simp only [impl_IsWord.j0] at H
   by_cases c4 : x11_1 = true
   ·subst c4
    rw [if_pos rfl] at H; obtain rfl := Option.some.inj H
    go_wp2
    go_ret
    exact ⟨Za, Zb⟩
   ·replace c4 := Bool.eq_false_iff.mpr c4
    subst c4; rw [if_neg (show ¬ (false = true) by decide)] at H; have H' := am_ H; clear H
    go_wp2
    go_loopg [3] kj1 (fun kq v3 w' => ∃ (x3_2 : Int), v3 = .int .i64 x3_2 ∧ Aside0 (impl_IsWord.l0 kq a0 x3_2 = some r) ∧ Aside0 (kq ≤ kj1) ∧ Drawn0 w w')
    case atStart => exact ⟨(0), Za, H', ⟨Nat.le_refl _⟩, Zb⟩
    case round =>
     clear H'
     try clear c1
     try clear p2
     try clear c3
     try clear c3b0
     try clear c3b1
     try clear c4
     try clear p2
     obtain ⟨x3_2, rfl, HA, HK2, ⟨m2, rfl⟩⟩ := hrel
     cases gk with
     | zero => exact absurd HA.out (by simp [impl_IsWord.l0])
     | succ k2 =>
      have H := HA.out; clear HA; simp only [impl_IsWord.l0] at H
      by_cases c5 : x3_2 < (a0.size : Int)
      ·rw [if_pos c5] at H
       have c5b0 := decide_eq_true c5; clear c5
       by_cases c6 : 0 ≤ x3_2
       ·rw [if_pos c6] at H
        have c6b0 := decide_eq_true c6; clear c6
        by_cases c8 : (bt a0 x3_2) < 97
        ·rw [if_pos c8] at H
         have c8b0 := decide_eq_true c8; clear c8; obtain rfl := Option.some.inj H; have p7 : 0 ≤ (x3_2 : Int) := of_decide_eq_true Zc; have q7 : x3_2 < (a0.size : Int) := of_decide_eq_true Zc; have hx7 := bt_at a0 x3_2; replace p7 := eq_true p7; replace q7 := eq_true q7
         go_wp2
         go_ret
         exact ⟨Za, Zb⟩
        ·rw [if_neg c8] at H
         have c8b0 := decide_eq_false c8; clear c8
         by_cases c10 : (bt a0 x3_2) > 122
         ·rw [if_pos c10] at H
          have c10b0 : decide (122 < (bt a0 x3_2)) = true := decide_eq_true c10; clear c10; obtain rfl := Option.some.inj H; have p7 : 0 ≤ (x3_2 : Int) := of_decide_eq_true Zc; have q7 : x3_2 < (a0.size : Int) := of_decide_eq_true Zc; have hx7 := bt_at a0 x3_2; replace p7 := eq_true p7; replace q7 := eq_true q7; have p9 : 0 ≤ (x3_2 : Int) := of_decide_eq_true Zc; have q9 : x3_2 < (a0.size : Int) := of_decide_eq_true Zc; have hx9 := bt_at a0 x3_2; replace p9 := eq_true p9; replace q9 := eq_true q9
          go_wp2
          go_ret
          exact ⟨Za, Zb⟩
         ·rw [if_neg c10] at H
          have c10b0 : decide (122 < (bt a0 x3_2)) = false := decide_eq_false c10; clear c10; have H' := am_ H; clear H; have p7 : 0 ≤ (x3_2 : Int) := of_decide_eq_true Zc; have q7 : x3_2 < (a0.size : Int) := of_decide_eq_true Zc; have hx7 := bt_at a0 x3_2; replace p7 := eq_true p7; replace q7 := eq_true q7; have p9 : 0 ≤ (x3_2 : Int) := of_decide_eq_true Zc; have q9 : x3_2 < (a0.size : Int) := of_decide_eq_true Zc; have hx9 := bt_at a0 x3_2; replace p9 := eq_true p9; replace q9 := eq_true q9
          go_wp2
          go_roundg k2
          case measure => have := HJ1.out; have := HK2.out; omega
          case rel => exact ⟨(wrap64 (x3_2 + 1)), Za, H', ⟨by have := HJ1.out; have := HK2.out; omega⟩, Zb⟩
       ·rw [if_neg c6] at H
        exact absurd H (by simp)
      ·rw [if_neg c5] at H
       have c5b0 := decide_eq_false c5; clear c5; obtain rfl := Option.some.inj H
       go_wp2
       go_ret
       exact ⟨Za, Zb⟩
def impl_IsArticle.f (k : Nat) (a0_0 : ByteArray) (a0_1 : Int) (a0_2 : Int) (a0_3 : Int) (a0_4 : Int) (a0_5 : Int) (a0_6 : Int) (a0_7 : Int) (a0_8 : Int) : Option (Bool) := (impl_IsWord.f k a0_0).bind fun t540 => (if t540 = true then ((impl_within.f a0_1 0 3).bind fun t541 => (if t541 = true then ((impl_within.f a0_2 20 300).bind fun t542 => (if t542 = true then ((impl_within.f a0_3 0 10000).bind fun t543 => (if t543 = true then ((impl_within.f a0_4 0 a0_3).bind fun t544 => (if t544 = true then ((impl_within.f a0_5 1 50).bind fun t545 => (if t545 = true then ((impl_within.f a0_6 0 10000).bind fun t546 => (if t546 = true then ((impl_within.f a0_7 1 100000).bind fun t547 => (if t547 = true then ((impl_within.f a0_8 0 3).bind fun t548 => (some t548)) else (some false))) else (some false))) else (some false))) else (some false))) else (some false))) else (some false))) else (some false))) else (some false))
set_option maxHeartbeats 8000000 in
set_option maxRecDepth 100000 in
theorem impl_IsArticle.calls (k : Nat) (a0_0 : ByteArray) (a0_1 : Int) (a0_2 : Int) (a0_3 : Int) (a0_4 : Int) (a0_5 : Int) (a0_6 : Int) (a0_7 : Int) (a0_8 : Int) (r : Bool) (w : World) (h : impl_IsArticle.f k a0_0 a0_1 a0_2 a0_3 a0_4 a0_5 a0_6 a0_7 a0_8 = some r) :
  Calls Try.prog 91 #[.agg #[.string a0_0, .int .i64 a0_1, .int .i64 a0_2, .int .i64 a0_3, .int .i64 a0_4, .int .i64 a0_5, .int .i64 a0_6, .int .i64 a0_7, .int .i64 a0_8]] w fun e w' => e = .returned (.bool r) ∧ Below w.heap.size w w' := by
 have hu62 := Try.underlying62; have HB := am_ (Below.refl w.heap.size w); have H : ((impl_IsWord.f k a0_0).bind fun t540 => (if t540 = true then ((impl_within.f a0_1 0 3).bind fun t541 => (if t541 = true then ((impl_within.f a0_2 20 300).bind fun t542 => (if t542 = true then ((impl_within.f a0_3 0 10000).bind fun t543 => (if t543 = true then ((impl_within.f a0_4 0 a0_3).bind fun t544 => (if t544 = true then ((impl_within.f a0_5 1 50).bind fun t545 => (if t545 = true then ((impl_within.f a0_6 0 10000).bind fun t546 => (if t546 = true then ((impl_within.f a0_7 1 100000).bind fun t547 => (if t547 = true then ((impl_within.f a0_8 0 3).bind fun t548 => (some t548)) else (some false))) else (some false))) else (some false))) else (some false))) else (some false))) else (some false))) else (some false))) else (some false))) = some r := h; clear h; replace H := Option.bind_eq_some_iff.mp H; obtain ⟨t540, A20, H⟩ := H; have A2 := am_ A20; clear A20; have HS_ := am_ H; clear H
 go_enter Try.func91, Try.ntmps91
 go_wp2_with (first | ((with_reducible refine gate_dst (N := 1) rfl ?_); refine boxZ 1 #[.string a0_0, .int .i64 a0_1, .int .i64 a0_2, .int .i64 a0_3, .int .i64 a0_4, .int .i64 a0_5, .int .i64 a0_6, .int .i64 a0_7, .int .i64 a0_8] 62 ?_; intro gb539 hg w19 hbox hb; replace BK539 := am_ (hbox); replace GW539 := am_ ((Zr : w.heap.size ≤ gb539)); replace GE539 := GW539; replace HB := (bsZ Zf hb); clear hb hbox hg; refine ci9 BK539 ?_; intros) | ((with_reducible refine gate_callee (f := 100) rfl ?_); refine gZ 5 Try.func100 #[.string a0_0] ?_; (with_reducible refine (impl_IsWord.calls k a0_0 t540 _ A2.out).mono ?_); rintro e w' ⟨rfl, ⟨nd, rfl⟩⟩; refine ⟨_, rfl, ?_⟩; refine ?roundEnd))
 case roundEnd =>
  by_cases c3 : t540 = true
  ·have H := HS_.out
   clear HS_; subst c3; rw [if_pos rfl] at H; replace H := Option.bind_eq_some_iff.mp H; obtain ⟨t541, A40, H⟩ := H; have A4 := am_ A40; clear A40; have HS_ := am_ H; clear H
   go_wp2_with (first | (go_at_call 53; (with_reducible refine (impl_within.calls a0_1 0 3 t541 _ A4.out).mono ?_); rintro e w' ⟨rfl, ⟨nd, rfl⟩⟩; refine ?roundEnd))
   case roundEnd =>
    by_cases c5 : t541 = true
    ·have H := HS_.out
     clear HS_; subst c5; rw [if_pos rfl] at H; replace H := Option.bind_eq_some_iff.mp H; obtain ⟨t542, A60, H⟩ := H; have A6 := am_ A60; clear A60; have HS_ := am_ H; clear H
     go_wp2_with (first | (go_at_call 53; (with_reducible refine (impl_within.calls a0_2 20 300 t542 _ A6.out).mono ?_); rintro e w' ⟨rfl, ⟨nd, rfl⟩⟩; refine ?roundEnd))
     case roundEnd =>
      by_cases c7 : t542 = true
      ·have H := HS_.out
       clear HS_; subst c7; rw [if_pos rfl] at H; replace H := Option.bind_eq_some_iff.mp H; obtain ⟨t543, A80, H⟩ := H; have A8 := am_ A80; clear A80; have HS_ := am_ H; clear H
       go_wp2_with (first | (go_at_call 53; (with_reducible refine (impl_within.calls a0_3 0 10000 t543 _ A8.out).mono ?_); rintro e w' ⟨rfl, ⟨nd, rfl⟩⟩; refine ?roundEnd))
       case roundEnd =>
        by_cases c9 : t543 = true
        ·have H := HS_.out
         clear HS_; subst c9; rw [if_pos rfl] at H; replace H := Option.bind_eq_some_iff.mp H; obtain ⟨t544, A100, H⟩ := H; have A10 := am_ A100; clear A100; have HS_ := am_ H; clear H
         go_wp2_with (first | (go_at_call 53; (with_reducible refine (impl_within.calls a0_4 0 a0_3 t544 _ A10.out).mono ?_); rintro e w' ⟨rfl, ⟨nd, rfl⟩⟩; refine ?roundEnd))
         case roundEnd =>
          by_cases c11 : t544 = true
          ·have H := HS_.out
           clear HS_; subst c11; rw [if_pos rfl] at H; replace H := Option.bind_eq_some_iff.mp H; obtain ⟨t545, A120, H⟩ := H; have A12 := am_ A120; clear A120; have HS_ := am_ H; clear H
           go_wp2_with (first | (go_at_call 53; (with_reducible refine (impl_within.calls a0_5 1 50 t545 _ A12.out).mono ?_); rintro e w' ⟨rfl, ⟨nd, rfl⟩⟩; refine ?roundEnd))
           case roundEnd =>
            by_cases c13 : t545 = true
            ·have H := HS_.out
             clear HS_; subst c13; rw [if_pos rfl] at H; replace H := Option.bind_eq_some_iff.mp H; obtain ⟨t546, A140, H⟩ := H; have A14 := am_ A140; clear A140; have HS_ := am_ H; clear H
             go_wp2_with (first | (go_at_call 53; (with_reducible refine (impl_within.calls a0_6 0 10000 t546 _ A14.out).mono ?_); rintro e w' ⟨rfl, ⟨nd, rfl⟩⟩; refine ?roundEnd))
             case roundEnd =>
              by_cases c15 : t546 = true
              ·have H := HS_.out
               clear HS_; subst c15; rw [if_pos rfl] at H; replace H := Option.bind_eq_some_iff.mp H; obtain ⟨t547, A160, H⟩ := H; have A16 := am_ A160; clear A160; have HS_ := am_ H; clear H
               go_wp2_with (first | (go_at_call 53; (with_reducible refine (impl_within.calls a0_7 1 100000 t547 _ A16.out).mono ?_); rintro e w' ⟨rfl, ⟨nd, rfl⟩⟩; refine ?roundEnd))
               case roundEnd =>
                by_cases c17 : t547 = true
                ·have H := HS_.out
                 clear HS_; subst c17; rw [if_pos rfl] at H; replace H := Option.bind_eq_some_iff.mp H; obtain ⟨t548, A180, H⟩ := H; have A18 := am_ A180; clear A180; obtain rfl := Option.some.inj H
                 go_wp2_with (first | (go_at_call 53; (with_reducible refine (impl_within.calls a0_8 0 3 t548 _ A18.out).mono ?_); rintro e w' ⟨rfl, ⟨nd, rfl⟩⟩))
                 go_ret
                 exact ⟨Zl, (Zi GE539)⟩
                ·have H := HS_.out
                 clear HS_; replace c17 := Bool.eq_false_iff.mpr c17; subst c17; rw [if_neg (show ¬ (false = true) by decide)] at H; obtain rfl := Option.some.inj H
                 go_wp2_with (first | fail)
                 go_ret
                 exact ⟨Zl, (Zi GE539)⟩
              ·have H := HS_.out
               clear HS_; replace c15 := Bool.eq_false_iff.mpr c15; subst c15; rw [if_neg (show ¬ (false = true) by decide)] at H; obtain rfl := Option.some.inj H
               go_wp2_with (first | fail)
               go_ret
               exact ⟨Zl, (Zi GE539)⟩
            ·have H := HS_.out
             clear HS_; replace c13 := Bool.eq_false_iff.mpr c13; subst c13; rw [if_neg (show ¬ (false = true) by decide)] at H; obtain rfl := Option.some.inj H
             go_wp2_with (first | fail)
             go_ret
             exact ⟨Zl, (Zi GE539)⟩
          ·have H := HS_.out
           clear HS_; replace c11 := Bool.eq_false_iff.mpr c11; subst c11; rw [if_neg (show ¬ (false = true) by decide)] at H; obtain rfl := Option.some.inj H
           go_wp2_with (first | fail)
           go_ret
           exact ⟨Zl, (Zi GE539)⟩
        ·have H := HS_.out
         clear HS_; replace c9 := Bool.eq_false_iff.mpr c9; subst c9; rw [if_neg (show ¬ (false = true) by decide)] at H; obtain rfl := Option.some.inj H
         go_wp2_with (first | fail)
         go_ret
         exact ⟨Zl, (Zi GE539)⟩
      ·have H := HS_.out
       clear HS_; replace c7 := Bool.eq_false_iff.mpr c7; subst c7; rw [if_neg (show ¬ (false = true) by decide)] at H; obtain rfl := Option.some.inj H
       go_wp2_with (first | fail)
       go_ret
       exact ⟨Zl, (Zi GE539)⟩
    ·have H := HS_.out
     clear HS_; replace c5 := Bool.eq_false_iff.mpr c5; subst c5; rw [if_neg (show ¬ (false = true) by decide)] at H; obtain rfl := Option.some.inj H
     go_wp2_with (first | fail)
     go_ret
     exact ⟨Zl, (Zi GE539)⟩
  ·have H := HS_.out
   clear HS_; replace c3 := Bool.eq_false_iff.mpr c3; subst c3; rw [if_neg (show ¬ (false = true) by decide)] at H; obtain rfl := Option.some.inj H
   go_wp2_with (first | fail)
   go_ret
   exact ⟨Zl, (Zi GE539)⟩
def impl_AreArticles.l0 : Nat → List (S62) → List (S62) → Int → Int → Option (Bool)
 | 0, _, _, _, _ => none
 | k + 1, x0, x8, x9, x10 => if x10 < x9 then (if 0 ≤ x10 then (if x10 < (x8.length : Int) then ((impl_IsArticle.f k ((rd_T62 x8 x10).f0) ((rd_T62 x8 x10).f1) ((rd_T62 x8 x10).f2) ((rd_T62 x8 x10).f3) ((rd_T62 x8 x10).f4) ((rd_T62 x8 x10).f5) ((rd_T62 x8 x10).f6) ((rd_T62 x8 x10).f7) ((rd_T62 x8 x10).f8)).bind fun t551 => (if t551 = true then (if x10 > 0 then (if 0 ≤ (wrap64 (x10 - 1)) then (if (wrap64 (x10 - 1)) < (x0.length : Int) then (if ((Op.bytesLess (((rd_T62 x0 (wrap64 (x10 - 1))).f0).toList) (((rd_T62 x8 x10).f0).toList)) = true) then (impl_AreArticles.l0 k x0 x8 x9 (wrap64 (x10 + 1))) else (some false)) else (none)) else (none)) else (impl_AreArticles.l0 k x0 x8 x9 (wrap64 (x10 + 1)))) else (some false))) else (none)) else (none)) else (some true)
def impl_AreArticles.f (k : Nat) (l0 : List (S62)) : Option (Bool) := if (l0.length : Int) > 12 then (some false) else (impl_AreArticles.l0 k l0 l0 (l0.length : Int) 0)
def impl_AreArticles.T6 : Bool × List (List Nat × List Nat) := (true, [([], []), ([0], [0]), ([1], [1]), ([2, 1], [2]), ([3], [3]), ([4, 3], [3, 4]), ([5, 3, 3], [3, 5]), ([6], [6]), ([6], [6]), ([8, 6], [6, 8]), ([7, 9, 6], [6, 7, 9]), ([10, 6], [6, 10]), ([11, 6], [6, 11]), ([6], [6]), ([13, 6], [6, 13]), ([12, 14, 6], [6, 12, 14]), ([6, 15, 3], [3, 6, 15]), ([3, 16], [3, 16])])
def impl_AreArticles.B6 : List Nat := [0, 1, 3, 7, 15, 31, 63, 127, 127, 383, 1023, 2047, 4095, 127, 8319, 32767, 65535, 131071]
theorem impl_AreArticles.tab6 : rtab .any (opsOf Try.f69 6) = impl_AreArticles.T6 := by kernel_rfl
theorem impl_AreArticles.bits6 : waitsOk impl_AreArticles.T6.2 impl_AreArticles.B6 = true := by kernel_rfl
set_option maxHeartbeats 8000000 in
set_option maxRecDepth 100000 in
theorem impl_AreArticles.calls (k : Nat) (A0 : Option Addr) (c0 : Nat) (l0 : List (S62)) (r : Bool) (w : World) (hr0 : Kd.C k62 w A0 l0.length l0) (hc0 : l0.length ≤ c0) (h : impl_AreArticles.f k l0 = some r) :
  Calls Try.prog 69 #[.slice A0 l0.length c0] w fun e w' => e = .returned (.bool r) ∧ Below w.heap.size w w' := by
 have hu62 := Try.underlying62; have HR0 := am_ hr0; have HC0 := am_ hc0; clear hr0 hc0; have HB := am_ (Below.refl w.heap.size w); have H : (if (l0.length : Int) > 12 then (some false) else (impl_AreArticles.l0 k l0 l0 (l0.length : Int) 0)) = some r := h; clear h
 by_cases c2 : (l0.length : Int) > 12
 ·rw [if_pos c2] at H
  have c2b0 : decide (12 < (l0.length : Int)) = true := decide_eq_true c2; have c2b1 : decide (12 < l0.length) = true := decide_eq_true (by omega); clear c2; obtain rfl := Option.some.inj H
  go_enter Try.func69, Try.ntmps69
  go_wp2
  go_ret
  exact ⟨Zl, Zf⟩
 ·rw [if_neg c2] at H
  have c2b0 : decide (12 < (l0.length : Int)) = false := decide_eq_false c2; have c2b1 : decide (12 < l0.length) = false := decide_eq_false (by omega); clear c2; have H' := am_ H; clear H
  go_enter Try.func69, Try.ntmps69
  go_wp2
  go_loopg [10] k (fun kq v10 w' => ∃ (x10_1 : Int), v10 = .int .i64 x10_1 ∧ Aside0 (impl_AreArticles.l0 kq l0 l0 (l0.length : Int) x10_1 = some r) ∧ Aside0 (kq ≤ k) ∧ Aside0 (Below w.heap.size w w'))
  case atStart => exact ⟨(0), Za, H', ⟨Nat.le_refl _⟩, ⟨Zf⟩⟩
  case round =>
   clear H'
   try clear c2
   try clear c2b0
   try clear c2b1
   try clear p2
   obtain ⟨x10_1, rfl, HA, HK1, HB⟩ := hrel
   cases gk with
   | zero => exact absurd HA.out (by simp [impl_AreArticles.l0])
   | succ k1 =>
    have H := HA.out; clear HA; simp only [impl_AreArticles.l0] at H
    by_cases c3 : x10_1 < (l0.length : Int)
    ·rw [if_pos c3] at H
     have c3b0 := decide_eq_true c3; clear c3
     by_cases c4 : 0 ≤ x10_1
     ·rw [if_pos c4] at H
      have c4b0 := decide_eq_true c4; clear c4
      by_cases c5 : x10_1 < (l0.length : Int)
      ·rw [if_pos c5] at H
       have c5b0 := decide_eq_true c5; clear c5; replace H := Option.bind_eq_some_iff.mp H; obtain ⟨t551, A60, H⟩ := H; have A6 := am_ A60; clear A60
       by_cases c7 : t551 = true
       ·subst c7
        rw [if_pos rfl] at H
        by_cases c8 : x10_1 > 0
        ·rw [if_pos c8] at H
         have c8b0 : decide (0 < x10_1) = true := decide_eq_true c8; clear c8; obtain ⟨ji9, hji9⟩ : ∃ j_ : Int, (wrap64 (x10_1 - 1)) = j_ := ⟨_, rfl⟩
         replace H : (if 0 ≤ (ji9) then (if (ji9) < (l0.length : Int) then (if ((Op.bytesLess (((rd_T62 l0 (ji9)).f0).toList) (((rd_T62 l0 x10_1).f0).toList)) = true) then (impl_AreArticles.l0 k1 l0 l0 (l0.length : Int) (wrap64 (x10_1 + 1))) else (some false)) else (none)) else (none)) = some r := by first | (rw [hji9] at H; exact H) | (simp only [hji9] at H ⊢; exact H)
         (try rw [hji9] at A6)
         have hji9w : (IntKind.i64.wrap (x10_1 - 1)) = ji9 := (i64_w _).trans hji9
         by_cases c10 : 0 ≤ (ji9)
         ·rw [if_pos c10] at H
          have c10b0 := decide_eq_true c10; clear c10
          by_cases c11 : (ji9) < (l0.length : Int)
          ·rw [if_pos c11] at H
           have c11b0 := decide_eq_true c11; clear c11; have HS_ := am_ H; clear H; have p549 : 0 ≤ (x10_1 : Int) := of_decide_eq_true Zc; have q549 : x10_1 < (l0.length : Int) := of_decide_eq_true Zc; obtain ⟨ad549, e549, hx549_0, hx549_1, hx549_2, hx549_3, hx549_4, hx549_5, hx549_6, hx549_7, hx549_8⟩ := at_T62 HR0.out x10_1 p549 q549
           cases e549
           replace hx549_0 := cbH HB hx549_0; replace hx549_1 := cbH HB hx549_1; replace hx549_2 := cbH HB hx549_2; replace hx549_3 := cbH HB hx549_3; replace hx549_4 := cbH HB hx549_4; replace hx549_5 := cbH HB hx549_5; replace hx549_6 := cbH HB hx549_6; replace hx549_7 := cbH HB hx549_7; replace hx549_8 := cbH HB hx549_8; replace p549 := eq_true p549; replace q549 := eq_true q549
           try go_wp2_with (first | ((with_reducible refine gate_dst (N := 4) rfl ?_); refine boxZ 4 #[.string (⟨#[]⟩ : ByteArray), .int .i64 0, .int .i64 0, .int .i64 0, .int .i64 0, .int .i64 0, .int .i64 0, .int .i64 0, .int .i64 0] 62 ?_; intro gb550 hg w13 hbox hb; replace BK550 := am_ (hbox); replace GW550 := am_ ((Zr : w.heap.size ≤ gb550)); replace GE550 := GW550; replace HB := (bsZ Zf hb); clear hb hbox hg; refine ci9 BK550 ?_; intros))
           have n0_ : Aside0 ((((((((((w13.setCell ⟨gb550, 0, none⟩ (.string ((rd_T62 l0 x10_1).f0))).setCell ⟨gb550, 1, none⟩ (.int .i64 ((rd_T62 l0 x10_1).f1))).setCell ⟨gb550, 2, none⟩ (.int .i64 ((rd_T62 l0 x10_1).f2))).setCell ⟨gb550, 3, none⟩ (.int .i64 ((rd_T62 l0 x10_1).f3))).setCell ⟨gb550, 4, none⟩ (.int .i64 ((rd_T62 l0 x10_1).f4))).setCell ⟨gb550, 5, none⟩ (.int .i64 ((rd_T62 l0 x10_1).f5))).setCell ⟨gb550, 6, none⟩ (.int .i64 ((rd_T62 l0 x10_1).f6))).setCell ⟨gb550, 7, none⟩ (.int .i64 ((rd_T62 l0 x10_1).f7))).setCell ⟨gb550, 8, none⟩ (.int .i64 ((rd_T62 l0 x10_1).f8))).heap[gb550]? = some (.cells #[.string ((rd_T62 l0 x10_1).f0), .int .i64 ((rd_T62 l0 x10_1).f1), .int .i64 ((rd_T62 l0 x10_1).f2), .int .i64 ((rd_T62 l0 x10_1).f3), .int .i64 ((rd_T62 l0 x10_1).f4), .int .i64 ((rd_T62 l0 x10_1).f5), .int .i64 ((rd_T62 l0 x10_1).f6), .int .i64 ((rd_T62 l0 x10_1).f7), .int .i64 ((rd_T62 l0 x10_1).f8)] 62 (0, 0))) := ⟨(Zck BK550)⟩; have n1_ : Aside0 (Below w.heap.size w (((((((((w13.setCell ⟨gb550, 0, none⟩ (.string ((rd_T62 l0 x10_1).f0))).setCell ⟨gb550, 1, none⟩ (.int .i64 ((rd_T62 l0 x10_1).f1))).setCell ⟨gb550, 2, none⟩ (.int .i64 ((rd_T62 l0 x10_1).f2))).setCell ⟨gb550, 3, none⟩ (.int .i64 ((rd_T62 l0 x10_1).f3))).setCell ⟨gb550, 4, none⟩ (.int .i64 ((rd_T62 l0 x10_1).f4))).setCell ⟨gb550, 5, none⟩ (.int .i64 ((rd_T62 l0 x10_1).f5))).setCell ⟨gb550, 6, none⟩ (.int .i64 ((rd_T62 l0 x10_1).f6))).setCell ⟨gb550, 7, none⟩ (.int .i64 ((rd_T62 l0 x10_1).f7))).setCell ⟨gb550, 8, none⟩ (.int .i64 ((rd_T62 l0 x10_1).f8)))) := ⟨(Zi GE550)⟩
           (try clear BK550)
           (try clear HB)
           generalize (((((((((w13.setCell ⟨gb550, 0, none⟩ (.string ((rd_T62 l0 x10_1).f0))).setCell ⟨gb550, 1, none⟩ (.int .i64 ((rd_T62 l0 x10_1).f1))).setCell ⟨gb550, 2, none⟩ (.int .i64 ((rd_T62 l0 x10_1).f2))).setCell ⟨gb550, 3, none⟩ (.int .i64 ((rd_T62 l0 x10_1).f3))).setCell ⟨gb550, 4, none⟩ (.int .i64 ((rd_T62 l0 x10_1).f4))).setCell ⟨gb550, 5, none⟩ (.int .i64 ((rd_T62 l0 x10_1).f5))).setCell ⟨gb550, 6, none⟩ (.int .i64 ((rd_T62 l0 x10_1).f6))).setCell ⟨gb550, 7, none⟩ (.int .i64 ((rd_T62 l0 x10_1).f7))).setCell ⟨gb550, 8, none⟩ (.int .i64 ((rd_T62 l0 x10_1).f8))) = w15 at n0_ n1_ ⊢; have BK550 := n0_; have HB := n1_; clear n0_ n1_; replace BK550 := am_ (blk_drew BK550.out); replace HB := am_ (below_drew1 HB.out); have p552 : 0 ≤ ((ji9) : Int) := of_decide_eq_true Zc; have q552 : (ji9) < (l0.length : Int) := of_decide_eq_true Zc; obtain ⟨ad552, e552, hx552_0, hx552_1, hx552_2, hx552_3, hx552_4, hx552_5, hx552_6, hx552_7, hx552_8⟩ := at_T62 HR0.out (ji9) p552 q552; have hw552_8 := hx552_8; have hw552_7 := hx552_7; have hw552_6 := hx552_6; have hw552_5 := hx552_5; have hw552_4 := hx552_4; have hw552_3 := hx552_3; have hw552_2 := hx552_2; have hw552_1 := hx552_1; have hw552_0 := hx552_0; obtain rfl : ad549 = ad552 := (by injection e552); replace hx552_0 := cbH HB hx552_0; replace hx552_1 := cbH HB hx552_1; replace hx552_2 := cbH HB hx552_2; replace hx552_3 := cbH HB hx552_3; replace hx552_4 := cbH HB hx552_4; replace hx552_5 := cbH HB hx552_5; replace hx552_6 := cbH HB hx552_6; replace hx552_7 := cbH HB hx552_7; replace hx552_8 := cbH HB hx552_8; replace p552 := eq_true p552; replace q552 := eq_true q552; refine start_ (n := 18) (S := fun w' => w'.cell? ⟨gb550, 0, none⟩ = some (.string ((rd_T62 l0 x10_1).f0)) ∧ w'.cell? ⟨gb550, 1, none⟩ = some (.int .i64 ((rd_T62 l0 x10_1).f1)) ∧ w'.cell? ⟨gb550, 2, none⟩ = some (.int .i64 ((rd_T62 l0 x10_1).f2)) ∧ w'.cell? ⟨gb550, 3, none⟩ = some (.int .i64 ((rd_T62 l0 x10_1).f3)) ∧ w'.cell? ⟨gb550, 4, none⟩ = some (.int .i64 ((rd_T62 l0 x10_1).f4)) ∧ w'.cell? ⟨gb550, 5, none⟩ = some (.int .i64 ((rd_T62 l0 x10_1).f5)) ∧ w'.cell? ⟨gb550, 6, none⟩ = some (.int .i64 ((rd_T62 l0 x10_1).f6)) ∧ w'.cell? ⟨gb550, 7, none⟩ = some (.int .i64 ((rd_T62 l0 x10_1).f7)) ∧ w'.cell? ⟨gb550, 8, none⟩ = some (.int .i64 ((rd_T62 l0 x10_1).f8)) ∧ w'.cell? (ad549.add (((ji9)).toNat * 9)) = some (.string ((rd_T62 l0 (ji9)).f0)) ∧ w'.cell? ⟨(ad549.add (((ji9)).toNat * 9)).block, (ad549.add (((ji9)).toNat * 9)).off + 1, none⟩ = some (.int .i64 ((rd_T62 l0 (ji9)).f1)) ∧ w'.cell? ⟨(ad549.add (((ji9)).toNat * 9)).block, (ad549.add (((ji9)).toNat * 9)).off + 2, none⟩ = some (.int .i64 ((rd_T62 l0 (ji9)).f2)) ∧ w'.cell? ⟨(ad549.add (((ji9)).toNat * 9)).block, (ad549.add (((ji9)).toNat * 9)).off + 3, none⟩ = some (.int .i64 ((rd_T62 l0 (ji9)).f3)) ∧ w'.cell? ⟨(ad549.add (((ji9)).toNat * 9)).block, (ad549.add (((ji9)).toNat * 9)).off + 4, none⟩ = some (.int .i64 ((rd_T62 l0 (ji9)).f4)) ∧ w'.cell? ⟨(ad549.add (((ji9)).toNat * 9)).block, (ad549.add (((ji9)).toNat * 9)).off + 5, none⟩ = some (.int .i64 ((rd_T62 l0 (ji9)).f5)) ∧ w'.cell? ⟨(ad549.add (((ji9)).toNat * 9)).block, (ad549.add (((ji9)).toNat * 9)).off + 6, none⟩ = some (.int .i64 ((rd_T62 l0 (ji9)).f6)) ∧ w'.cell? ⟨(ad549.add (((ji9)).toNat * 9)).block, (ad549.add (((ji9)).toNat * 9)).off + 7, none⟩ = some (.int .i64 ((rd_T62 l0 (ji9)).f7)) ∧ w'.cell? ⟨(ad549.add (((ji9)).toNat * 9)).block, (ad549.add (((ji9)).toNat * 9)).off + 8, none⟩ = some (.int .i64 ((rd_T62 l0 (ji9)).f8))) (ds := []) (bT 18 0) Zk rfl rfl ⟨(blk_cell BK550.out 0).trans rfl, (blk_cell BK550.out 1).trans rfl, (blk_cell BK550.out 2).trans rfl, (blk_cell BK550.out 3).trans rfl, (blk_cell BK550.out 4).trans rfl, (blk_cell BK550.out 5).trans rfl, (blk_cell BK550.out 6).trans rfl, (blk_cell BK550.out 7).trans rfl, (blk_cell BK550.out 8).trans rfl, (cbH HB hw552_0 :), (cbH HB hw552_1 :), (cbH HB hw552_2 :), (cbH HB hw552_3 :), (cbH HB hw552_4 :), (cbH HB hw552_5 :), (cbH HB hw552_6 :), (cbH HB hw552_7 :), (cbH HB hw552_8 :)⟩ (fun hHeld => ?_); refine with_tabW impl_AreArticles.tab6 impl_AreArticles.bits6 (fun HT_ HW_ => ?_)
           generalize w15.drew = w16 at BK550 HB hx552_0 hx552_1 hx552_2 hx552_3 hx552_4 hx552_5 hx552_6 hx552_7 hx552_8 hHeld ⊢; refine takeZ18 HT_ HW_ 0 (some 15) (bT 18 1) hHeld ?_; refine one_ (i := 1) (N := some 16) (bT 18 2) rfl rfl (one_of HT_.out Zk) (by decide) (fun K hK => ?_); refine goes_ Try.func91 Zk rfl #[.agg #[.string ((rd_T62 l0 x10_1).f0), .int .i64 ((rd_T62 l0 x10_1).f1), .int .i64 ((rd_T62 l0 x10_1).f2), .int .i64 ((rd_T62 l0 x10_1).f3), .int .i64 ((rd_T62 l0 x10_1).f4), .int .i64 ((rd_T62 l0 x10_1).f5), .int .i64 ((rd_T62 l0 x10_1).f6), .int .i64 ((rd_T62 l0 x10_1).f7), .int .i64 ((rd_T62 l0 x10_1).f8)]] (by rfl) rfl rfl Zs ?_
           with_reducible refine (impl_IsArticle.calls k1 ((rd_T62 l0 x10_1).f0) ((rd_T62 l0 x10_1).f1) ((rd_T62 l0 x10_1).f2) ((rd_T62 l0 x10_1).f3) ((rd_T62 l0 x10_1).f4) ((rd_T62 l0 x10_1).f5) ((rd_T62 l0 x10_1).f6) ((rd_T62 l0 x10_1).f7) ((rd_T62 l0 x10_1).f8) true _ A6.out).mono ?_
           rintro e w17 ⟨rfl, hb⟩; refine ⟨_, rfl, ?_⟩; replace BK550 := (bkZ BK550 hb); replace HB := (bsZ (Zi GE550) hb)
           (try clear hb)
           (try clear hb2)
           (try clear hk)
           (try clear hi)
           refine hK.out _ _ (by exact ⟨(blk_cell BK550.out 0).trans rfl, (blk_cell BK550.out 1).trans rfl, (blk_cell BK550.out 2).trans rfl, (blk_cell BK550.out 3).trans rfl, (blk_cell BK550.out 4).trans rfl, (blk_cell BK550.out 5).trans rfl, (blk_cell BK550.out 6).trans rfl, (blk_cell BK550.out 7).trans rfl, (blk_cell BK550.out 8).trans rfl, (cbH HB hw552_0 :), (cbH HB hw552_1 :), (cbH HB hw552_2 :), (cbH HB hw552_3 :), (cbH HB hw552_4 :), (cbH HB hw552_5 :), (cbH HB hw552_6 :), (cbH HB hw552_7 :), (cbH HB hw552_8 :)⟩) (fun hHeld => ?_); clear hK K; refine normZ 16 ?_; refine pureZ HT_ 2 (some 17) (bT 18 3) ?_; refine pureZ HT_ 3 (some 18) (bT 18 4) ?_; refine pureZ HT_ 4 (some 19) (bT 18 5) ?_; refine pureZ HT_ 5 (some 20) (bT 18 6) ?_; refine pureZ HT_ 6 (some 21) (bT 18 7) ?_; refine pureZ HT_ 7 (some 22) (bT 18 8) ?_; refine pureZ HT_ 8 (some 23) (bT 18 9) ?_; refine pureZ HT_ 9 (some 24) (bT 18 10) ?_; refine pureZ HT_ 10 (some 25) (bT 18 11) ?_; refine pureZ HT_ 11 (some 26) (bT 18 12) ?_; refine pureZ HT_ 13 (some 28) (bB 18 12287) ?_; refine takeZ18 HT_ HW_ 12 (some 27) (bT 18 14) hHeld ?_; refine takeZ18 HT_ HW_ 14 (some 29) (bT 18 15) hHeld ?_; refine pureZ HT_ 15 (some 30) (bT 18 16) ?_; refine pureZ HT_ 16 (some 31) (bT 18 17) ?_; refine pureZ HT_ 17 (some 32) (bT 18 18) ?_; refine done_ (done_of HT_.out Zk) ?_
           by_cases c12 : ((Op.bytesLess (((rd_T62 l0 (ji9)).f0).toList) (((rd_T62 l0 x10_1).f0).toList)) = true)
           ·have H := HS_.out
            clear HS_; rw [if_pos c12] at H; have c12b0 : (Op.bytesLess (((rd_T62 l0 (ji9)).f0).toList) (((rd_T62 l0 x10_1).f0).toList)) = true := c12; clear c12; have H' := am_ H; clear H
            (try simp only [c12b0, Bool.not_true, Bool.not_false])
            try go_wp2
            go_roundg k1
            case measure => have := HK1.out; omega
            case rel => exact ⟨(wrap64 (x10_1 + 1)), Za, H', ⟨Zd⟩, ⟨(Zi GE550)⟩⟩
           ·have H := HS_.out
            clear HS_; rw [if_neg c12] at H
            have c12b0 : (Op.bytesLess (((rd_T62 l0 (ji9)).f0).toList) (((rd_T62 l0 x10_1).f0).toList)) = false := by simpa using c12
            clear c12; obtain rfl := Option.some.inj H
            (try simp only [c12b0, Bool.not_true, Bool.not_false])
            try go_wp2
            go_ret
            exact ⟨by first | rfl | (simp [errW_none, errW_some] <;> rfl) | (simp only [← hji9]; first | rfl | (simp [errW_none, errW_some] <;> rfl)) | (simp [*, errW_none, errW_some] <;> rfl), (Zi GE550)⟩
          ·rw [if_neg c11] at H
           exact absurd H (by simp)
         ·rw [if_neg c10] at H
          exact absurd H (by simp)
        ·rw [if_neg c8] at H
         have c8b0 : decide (0 < x10_1) = false := decide_eq_false c8; clear c8; have H' := am_ H; clear H; have p549 : 0 ≤ (x10_1 : Int) := of_decide_eq_true Zc; have q549 : x10_1 < (l0.length : Int) := of_decide_eq_true Zc; obtain ⟨ad549, e549, hx549_0, hx549_1, hx549_2, hx549_3, hx549_4, hx549_5, hx549_6, hx549_7, hx549_8⟩ := at_T62 HR0.out x10_1 p549 q549
         cases e549
         replace hx549_0 := cbH HB hx549_0; replace hx549_1 := cbH HB hx549_1; replace hx549_2 := cbH HB hx549_2; replace hx549_3 := cbH HB hx549_3; replace hx549_4 := cbH HB hx549_4; replace hx549_5 := cbH HB hx549_5; replace hx549_6 := cbH HB hx549_6; replace hx549_7 := cbH HB hx549_7; replace hx549_8 := cbH HB hx549_8; replace p549 := eq_true p549; replace q549 := eq_true q549
         try go_wp2_with (first | ((with_reducible refine gate_dst (N := 4) rfl ?_); refine boxZ 4 #[.string (⟨#[]⟩ : ByteArray), .int .i64 0, .int .i64 0, .int .i64 0, .int .i64 0, .int .i64 0, .int .i64 0, .int .i64 0, .int .i64 0] 62 ?_; intro gb550 hg w23 hbox hb; replace BK550 := am_ (hbox); replace GW550 := am_ ((Zr : w.heap.size ≤ gb550)); replace GE550 := GW550; replace HB := (bsZ Zf hb); clear hb hbox hg; refine ci9 BK550 ?_; intros))
         have n0_ : Aside0 ((((((((((w23.setCell ⟨gb550, 0, none⟩ (.string ((rd_T62 l0 x10_1).f0))).setCell ⟨gb550, 1, none⟩ (.int .i64 ((rd_T62 l0 x10_1).f1))).setCell ⟨gb550, 2, none⟩ (.int .i64 ((rd_T62 l0 x10_1).f2))).setCell ⟨gb550, 3, none⟩ (.int .i64 ((rd_T62 l0 x10_1).f3))).setCell ⟨gb550, 4, none⟩ (.int .i64 ((rd_T62 l0 x10_1).f4))).setCell ⟨gb550, 5, none⟩ (.int .i64 ((rd_T62 l0 x10_1).f5))).setCell ⟨gb550, 6, none⟩ (.int .i64 ((rd_T62 l0 x10_1).f6))).setCell ⟨gb550, 7, none⟩ (.int .i64 ((rd_T62 l0 x10_1).f7))).setCell ⟨gb550, 8, none⟩ (.int .i64 ((rd_T62 l0 x10_1).f8))).heap[gb550]? = some (.cells #[.string ((rd_T62 l0 x10_1).f0), .int .i64 ((rd_T62 l0 x10_1).f1), .int .i64 ((rd_T62 l0 x10_1).f2), .int .i64 ((rd_T62 l0 x10_1).f3), .int .i64 ((rd_T62 l0 x10_1).f4), .int .i64 ((rd_T62 l0 x10_1).f5), .int .i64 ((rd_T62 l0 x10_1).f6), .int .i64 ((rd_T62 l0 x10_1).f7), .int .i64 ((rd_T62 l0 x10_1).f8)] 62 (0, 0))) := ⟨(Zck BK550)⟩; have n1_ : Aside0 (Below w.heap.size w (((((((((w23.setCell ⟨gb550, 0, none⟩ (.string ((rd_T62 l0 x10_1).f0))).setCell ⟨gb550, 1, none⟩ (.int .i64 ((rd_T62 l0 x10_1).f1))).setCell ⟨gb550, 2, none⟩ (.int .i64 ((rd_T62 l0 x10_1).f2))).setCell ⟨gb550, 3, none⟩ (.int .i64 ((rd_T62 l0 x10_1).f3))).setCell ⟨gb550, 4, none⟩ (.int .i64 ((rd_T62 l0 x10_1).f4))).setCell ⟨gb550, 5, none⟩ (.int .i64 ((rd_T62 l0 x10_1).f5))).setCell ⟨gb550, 6, none⟩ (.int .i64 ((rd_T62 l0 x10_1).f6))).setCell ⟨gb550, 7, none⟩ (.int .i64 ((rd_T62 l0 x10_1).f7))).setCell ⟨gb550, 8, none⟩ (.int .i64 ((rd_T62 l0 x10_1).f8)))) := ⟨(Zi GE550)⟩
         (try clear BK550)
         (try clear HB)
         generalize (((((((((w23.setCell ⟨gb550, 0, none⟩ (.string ((rd_T62 l0 x10_1).f0))).setCell ⟨gb550, 1, none⟩ (.int .i64 ((rd_T62 l0 x10_1).f1))).setCell ⟨gb550, 2, none⟩ (.int .i64 ((rd_T62 l0 x10_1).f2))).setCell ⟨gb550, 3, none⟩ (.int .i64 ((rd_T62 l0 x10_1).f3))).setCell ⟨gb550, 4, none⟩ (.int .i64 ((rd_T62 l0 x10_1).f4))).setCell ⟨gb550, 5, none⟩ (.int .i64 ((rd_T62 l0 x10_1).f5))).setCell ⟨gb550, 6, none⟩ (.int .i64 ((rd_T62 l0 x10_1).f6))).setCell ⟨gb550, 7, none⟩ (.int .i64 ((rd_T62 l0 x10_1).f7))).setCell ⟨gb550, 8, none⟩ (.int .i64 ((rd_T62 l0 x10_1).f8))) = w25 at n0_ n1_ ⊢; have BK550 := n0_; have HB := n1_; clear n0_ n1_; replace BK550 := am_ (blk_drew BK550.out); replace HB := am_ (below_drew1 HB.out); refine start_ (n := 18) (S := fun w' => w'.cell? ⟨gb550, 0, none⟩ = some (.string ((rd_T62 l0 x10_1).f0)) ∧ w'.cell? ⟨gb550, 1, none⟩ = some (.int .i64 ((rd_T62 l0 x10_1).f1)) ∧ w'.cell? ⟨gb550, 2, none⟩ = some (.int .i64 ((rd_T62 l0 x10_1).f2)) ∧ w'.cell? ⟨gb550, 3, none⟩ = some (.int .i64 ((rd_T62 l0 x10_1).f3)) ∧ w'.cell? ⟨gb550, 4, none⟩ = some (.int .i64 ((rd_T62 l0 x10_1).f4)) ∧ w'.cell? ⟨gb550, 5, none⟩ = some (.int .i64 ((rd_T62 l0 x10_1).f5)) ∧ w'.cell? ⟨gb550, 6, none⟩ = some (.int .i64 ((rd_T62 l0 x10_1).f6)) ∧ w'.cell? ⟨gb550, 7, none⟩ = some (.int .i64 ((rd_T62 l0 x10_1).f7)) ∧ w'.cell? ⟨gb550, 8, none⟩ = some (.int .i64 ((rd_T62 l0 x10_1).f8))) (ds := []) (bT 18 0) Zk rfl rfl ⟨(blk_cell BK550.out 0).trans rfl, (blk_cell BK550.out 1).trans rfl, (blk_cell BK550.out 2).trans rfl, (blk_cell BK550.out 3).trans rfl, (blk_cell BK550.out 4).trans rfl, (blk_cell BK550.out 5).trans rfl, (blk_cell BK550.out 6).trans rfl, (blk_cell BK550.out 7).trans rfl, (blk_cell BK550.out 8).trans rfl⟩ (fun hHeld => ?_); refine with_tabW impl_AreArticles.tab6 impl_AreArticles.bits6 (fun HT_ HW_ => ?_); generalize w25.drew = w26 at BK550 HB hHeld ⊢; refine takeZ9 HT_ HW_ 0 (some 15) (bT 18 1) hHeld ?_; refine one_ (i := 1) (N := some 16) (bT 18 2) rfl rfl (one_of HT_.out Zk) (by decide) (fun K hK => ?_); refine goes_ Try.func91 Zk rfl #[.agg #[.string ((rd_T62 l0 x10_1).f0), .int .i64 ((rd_T62 l0 x10_1).f1), .int .i64 ((rd_T62 l0 x10_1).f2), .int .i64 ((rd_T62 l0 x10_1).f3), .int .i64 ((rd_T62 l0 x10_1).f4), .int .i64 ((rd_T62 l0 x10_1).f5), .int .i64 ((rd_T62 l0 x10_1).f6), .int .i64 ((rd_T62 l0 x10_1).f7), .int .i64 ((rd_T62 l0 x10_1).f8)]] (by rfl) rfl rfl Zs ?_
         with_reducible refine (impl_IsArticle.calls k1 ((rd_T62 l0 x10_1).f0) ((rd_T62 l0 x10_1).f1) ((rd_T62 l0 x10_1).f2) ((rd_T62 l0 x10_1).f3) ((rd_T62 l0 x10_1).f4) ((rd_T62 l0 x10_1).f5) ((rd_T62 l0 x10_1).f6) ((rd_T62 l0 x10_1).f7) ((rd_T62 l0 x10_1).f8) true _ A6.out).mono ?_
         rintro e w27 ⟨rfl, hb⟩; refine ⟨_, rfl, ?_⟩; replace BK550 := (bkZ BK550 hb); replace HB := (bsZ (Zi GE550) hb)
         (try clear hb)
         (try clear hb2)
         (try clear hk)
         (try clear hi)
         refine hK.out _ _ (Zcl BK550) (fun hHeld => ?_); clear hK K; refine normZ 16 ?_; refine pureZ HT_ 2 (some 17) (bT 18 3) ?_; refine pureZ HT_ 3 (some 18) (bT 18 4) ?_; refine pureZ HT_ 4 (some 19) (bT 18 5) ?_; refine pureZ HT_ 5 (some 20) (bT 18 6) ?_; refine pureZ HT_ 6 (some 21) (bT 18 7) ?_; refine pureU HT_ 7 (some 22) (bT 18 8) ?_; refine pureU HT_ 8 (some 23) (bT 18 9) ?_; refine pureU HT_ 9 (some 24) (bT 18 10) ?_; refine pureU HT_ 10 (some 25) (bT 18 11) ?_; refine pureU HT_ 11 (some 26) (bT 18 12) ?_; refine pureU HT_ 12 (some 27) (bT 18 13) ?_; refine pureU HT_ 13 (some 28) (bT 18 14) ?_; refine pureU HT_ 14 (some 29) (bT 18 15) ?_; refine pureU HT_ 15 (some 30) (bT 18 16) ?_; refine pureZ HT_ 16 (some 31) (bT 18 17) ?_; refine pureZ HT_ 17 (some 32) (bT 18 18) ?_; refine done_ (done_of HT_.out Zk) ?_
         try go_wp2
         go_roundg k1
         case measure => have := HK1.out; omega
         case rel => exact ⟨(wrap64 (x10_1 + 1)), Za, H', ⟨Zd⟩, ⟨(Zi GE550)⟩⟩
       ·replace c7 := Bool.eq_false_iff.mpr c7
        subst c7; rw [if_neg (show ¬ (false = true) by decide)] at H; obtain rfl := Option.some.inj H; have p549 : 0 ≤ (x10_1 : Int) := of_decide_eq_true Zc; have q549 : x10_1 < (l0.length : Int) := of_decide_eq_true Zc; obtain ⟨ad549, e549, hx549_0, hx549_1, hx549_2, hx549_3, hx549_4, hx549_5, hx549_6, hx549_7, hx549_8⟩ := at_T62 HR0.out x10_1 p549 q549
        cases e549
        replace hx549_0 := cbH HB hx549_0; replace hx549_1 := cbH HB hx549_1; replace hx549_2 := cbH HB hx549_2; replace hx549_3 := cbH HB hx549_3; replace hx549_4 := cbH HB hx549_4; replace hx549_5 := cbH HB hx549_5; replace hx549_6 := cbH HB hx549_6; replace hx549_7 := cbH HB hx549_7; replace hx549_8 := cbH HB hx549_8; replace p549 := eq_true p549; replace q549 := eq_true q549
        try go_wp2_with (first | ((with_reducible refine gate_dst (N := 4) rfl ?_); refine boxZ 4 #[.string (⟨#[]⟩ : ByteArray), .int .i64 0, .int .i64 0, .int .i64 0, .int .i64 0, .int .i64 0, .int .i64 0, .int .i64 0, .int .i64 0] 62 ?_; intro gb550 hg w28 hbox hb; replace BK550 := am_ (hbox); replace GW550 := am_ ((Zr : w.heap.size ≤ gb550)); replace GE550 := GW550; replace HB := (bsZ Zf hb); clear hb hbox hg; refine ci9 BK550 ?_; intros))
        have n0_ : Aside0 ((((((((((w28.setCell ⟨gb550, 0, none⟩ (.string ((rd_T62 l0 x10_1).f0))).setCell ⟨gb550, 1, none⟩ (.int .i64 ((rd_T62 l0 x10_1).f1))).setCell ⟨gb550, 2, none⟩ (.int .i64 ((rd_T62 l0 x10_1).f2))).setCell ⟨gb550, 3, none⟩ (.int .i64 ((rd_T62 l0 x10_1).f3))).setCell ⟨gb550, 4, none⟩ (.int .i64 ((rd_T62 l0 x10_1).f4))).setCell ⟨gb550, 5, none⟩ (.int .i64 ((rd_T62 l0 x10_1).f5))).setCell ⟨gb550, 6, none⟩ (.int .i64 ((rd_T62 l0 x10_1).f6))).setCell ⟨gb550, 7, none⟩ (.int .i64 ((rd_T62 l0 x10_1).f7))).setCell ⟨gb550, 8, none⟩ (.int .i64 ((rd_T62 l0 x10_1).f8))).heap[gb550]? = some (.cells #[.string ((rd_T62 l0 x10_1).f0), .int .i64 ((rd_T62 l0 x10_1).f1), .int .i64 ((rd_T62 l0 x10_1).f2), .int .i64 ((rd_T62 l0 x10_1).f3), .int .i64 ((rd_T62 l0 x10_1).f4), .int .i64 ((rd_T62 l0 x10_1).f5), .int .i64 ((rd_T62 l0 x10_1).f6), .int .i64 ((rd_T62 l0 x10_1).f7), .int .i64 ((rd_T62 l0 x10_1).f8)] 62 (0, 0))) := ⟨(Zck BK550)⟩; have n1_ : Aside0 (Below w.heap.size w (((((((((w28.setCell ⟨gb550, 0, none⟩ (.string ((rd_T62 l0 x10_1).f0))).setCell ⟨gb550, 1, none⟩ (.int .i64 ((rd_T62 l0 x10_1).f1))).setCell ⟨gb550, 2, none⟩ (.int .i64 ((rd_T62 l0 x10_1).f2))).setCell ⟨gb550, 3, none⟩ (.int .i64 ((rd_T62 l0 x10_1).f3))).setCell ⟨gb550, 4, none⟩ (.int .i64 ((rd_T62 l0 x10_1).f4))).setCell ⟨gb550, 5, none⟩ (.int .i64 ((rd_T62 l0 x10_1).f5))).setCell ⟨gb550, 6, none⟩ (.int .i64 ((rd_T62 l0 x10_1).f6))).setCell ⟨gb550, 7, none⟩ (.int .i64 ((rd_T62 l0 x10_1).f7))).setCell ⟨gb550, 8, none⟩ (.int .i64 ((rd_T62 l0 x10_1).f8)))) := ⟨(Zi GE550)⟩
        (try clear BK550)
        (try clear HB)
        generalize (((((((((w28.setCell ⟨gb550, 0, none⟩ (.string ((rd_T62 l0 x10_1).f0))).setCell ⟨gb550, 1, none⟩ (.int .i64 ((rd_T62 l0 x10_1).f1))).setCell ⟨gb550, 2, none⟩ (.int .i64 ((rd_T62 l0 x10_1).f2))).setCell ⟨gb550, 3, none⟩ (.int .i64 ((rd_T62 l0 x10_1).f3))).setCell ⟨gb550, 4, none⟩ (.int .i64 ((rd_T62 l0 x10_1).f4))).setCell ⟨gb550, 5, none⟩ (.int .i64 ((rd_T62 l0 x10_1).f5))).setCell ⟨gb550, 6, none⟩ (.int .i64 ((rd_T62 l0 x10_1).f6))).setCell ⟨gb550, 7, none⟩ (.int .i64 ((rd_T62 l0 x10_1).f7))).setCell ⟨gb550, 8, none⟩ (.int .i64 ((rd_T62 l0 x10_1).f8))) = w30 at n0_ n1_ ⊢; have BK550 := n0_; have HB := n1_; clear n0_ n1_; replace BK550 := am_ (blk_drew BK550.out); replace HB := am_ (below_drew1 HB.out); refine start_ (n := 18) (S := fun w' => w'.cell? ⟨gb550, 0, none⟩ = some (.string ((rd_T62 l0 x10_1).f0)) ∧ w'.cell? ⟨gb550, 1, none⟩ = some (.int .i64 ((rd_T62 l0 x10_1).f1)) ∧ w'.cell? ⟨gb550, 2, none⟩ = some (.int .i64 ((rd_T62 l0 x10_1).f2)) ∧ w'.cell? ⟨gb550, 3, none⟩ = some (.int .i64 ((rd_T62 l0 x10_1).f3)) ∧ w'.cell? ⟨gb550, 4, none⟩ = some (.int .i64 ((rd_T62 l0 x10_1).f4)) ∧ w'.cell? ⟨gb550, 5, none⟩ = some (.int .i64 ((rd_T62 l0 x10_1).f5)) ∧ w'.cell? ⟨gb550, 6, none⟩ = some (.int .i64 ((rd_T62 l0 x10_1).f6)) ∧ w'.cell? ⟨gb550, 7, none⟩ = some (.int .i64 ((rd_T62 l0 x10_1).f7)) ∧ w'.cell? ⟨gb550, 8, none⟩ = some (.int .i64 ((rd_T62 l0 x10_1).f8))) (ds := []) (bT 18 0) Zk rfl rfl ⟨(blk_cell BK550.out 0).trans rfl, (blk_cell BK550.out 1).trans rfl, (blk_cell BK550.out 2).trans rfl, (blk_cell BK550.out 3).trans rfl, (blk_cell BK550.out 4).trans rfl, (blk_cell BK550.out 5).trans rfl, (blk_cell BK550.out 6).trans rfl, (blk_cell BK550.out 7).trans rfl, (blk_cell BK550.out 8).trans rfl⟩ (fun hHeld => ?_); refine with_tabW impl_AreArticles.tab6 impl_AreArticles.bits6 (fun HT_ HW_ => ?_); generalize w30.drew = w31 at BK550 HB hHeld ⊢; refine takeZ9 HT_ HW_ 0 (some 15) (bT 18 1) hHeld ?_; refine one_ (i := 1) (N := some 16) (bT 18 2) rfl rfl (one_of HT_.out Zk) (by decide) (fun K hK => ?_); refine goes_ Try.func91 Zk rfl #[.agg #[.string ((rd_T62 l0 x10_1).f0), .int .i64 ((rd_T62 l0 x10_1).f1), .int .i64 ((rd_T62 l0 x10_1).f2), .int .i64 ((rd_T62 l0 x10_1).f3), .int .i64 ((rd_T62 l0 x10_1).f4), .int .i64 ((rd_T62 l0 x10_1).f5), .int .i64 ((rd_T62 l0 x10_1).f6), .int .i64 ((rd_T62 l0 x10_1).f7), .int .i64 ((rd_T62 l0 x10_1).f8)]] (by rfl) rfl rfl Zs ?_
        with_reducible refine (impl_IsArticle.calls k1 ((rd_T62 l0 x10_1).f0) ((rd_T62 l0 x10_1).f1) ((rd_T62 l0 x10_1).f2) ((rd_T62 l0 x10_1).f3) ((rd_T62 l0 x10_1).f4) ((rd_T62 l0 x10_1).f5) ((rd_T62 l0 x10_1).f6) ((rd_T62 l0 x10_1).f7) ((rd_T62 l0 x10_1).f8) false _ A6.out).mono ?_
        rintro e w32 ⟨rfl, hb⟩; refine ⟨_, rfl, ?_⟩; replace BK550 := (bkZ BK550 hb); replace HB := (bsZ (Zi GE550) hb)
        (try clear hb)
        (try clear hb2)
        (try clear hk)
        (try clear hi)
        refine hK.out _ _ (Zcl BK550) (fun hHeld => ?_); clear hK K; refine normZ 16 ?_; refine pureZ HT_ 2 (some 17) (bT 18 3) ?_; refine pureZ HT_ 3 (some 18) (bT 18 4) ?_; refine pureU HT_ 4 (some 19) (bT 18 5) ?_; refine pureU HT_ 5 (some 20) (bT 18 6) ?_; refine pureU HT_ 6 (some 21) (bT 18 7) ?_; refine pureU HT_ 7 (some 22) (bT 18 8) ?_; refine pureU HT_ 8 (some 23) (bT 18 9) ?_; refine pureU HT_ 9 (some 24) (bT 18 10) ?_; refine pureU HT_ 10 (some 25) (bT 18 11) ?_; refine pureU HT_ 11 (some 26) (bT 18 12) ?_; refine pureU HT_ 12 (some 27) (bT 18 13) ?_; refine pureU HT_ 13 (some 28) (bT 18 14) ?_; refine pureU HT_ 14 (some 29) (bT 18 15) ?_; refine pureU HT_ 15 (some 30) (bT 18 16) ?_; refine pureU HT_ 16 (some 31) (bT 18 17) ?_; refine pureZ HT_ 17 (some 32) (bT 18 18) ?_; refine done_ (done_of HT_.out Zk) ?_
        try go_wp2
        go_ret
        exact ⟨Zl, (Zi GE550)⟩
      ·rw [if_neg c5] at H
       exact absurd H (by simp)
     ·rw [if_neg c4] at H
      exact absurd H (by simp)
    ·rw [if_neg c3] at H
     have c3b0 := decide_eq_false c3; clear c3; obtain rfl := Option.some.inj H
     go_wp2
     go_ret
     exact ⟨Zl, Zf⟩
def impl_articleOf.l0 : Nat → ByteArray → List (S62) → Int → Int → Option (Int)
 | 0, _, _, _, _ => none
 | k + 1, x1, x7, x8, x9 => if x9 < x8 then (if 0 ≤ x9 then (if x9 < (x7.length : Int) then (if ((rd_T62 x7 x9).f0).toList = x1.toList then (some x9) else (impl_articleOf.l0 k x1 x7 x8 (wrap64 (x9 + 1)))) else (none)) else (none)) else (some (-1))
def impl_articleOf.f (k : Nat) (l0 : List (S62)) (a1 : ByteArray) : Option (Int) := impl_articleOf.l0 k a1 l0 (l0.length : Int) 0
set_option maxHeartbeats 8000000 in
set_option maxRecDepth 100000 in
theorem impl_articleOf.calls (k : Nat) (A0 : Option Addr) (c0 : Nat) (l0 : List (S62)) (a1 : ByteArray) (r : Int) (w : World) (hr0 : Kd.C k62 w A0 l0.length l0) (hc0 : l0.length ≤ c0) (h : impl_articleOf.f k l0 a1 = some r) :
  Calls Try.prog 63 #[.slice A0 l0.length c0, .string a1] w fun e w' => e = .returned (.int .i64 r) ∧ Below w.heap.size w w' := by
 have hu62 := Try.underlying62; have HR0 := am_ hr0; have HC0 := am_ hc0; clear hr0 hc0; have HB := am_ (Below.refl w.heap.size w); have H : (impl_articleOf.l0 k a1 l0 (l0.length : Int) 0) = some r := h; clear h; have H' := am_ H; clear H
 go_enter Try.func63, Try.ntmps63
 go_wp2
 go_loopg [9] k (fun kq v9 w' => ∃ (x9_1 : Int), v9 = .int .i64 x9_1 ∧ Aside0 (impl_articleOf.l0 kq a1 l0 (l0.length : Int) x9_1 = some r) ∧ Aside0 (kq ≤ k) ∧ Aside0 (Below w.heap.size w w'))
 case atStart => exact ⟨(0), Za, H', ⟨Nat.le_refl _⟩, ⟨Zf⟩⟩
 case round =>
  clear H'
  try clear p2
  obtain ⟨x9_1, rfl, HA, HK1, HB⟩ := hrel
  cases gk with
  | zero => exact absurd HA.out (by simp [impl_articleOf.l0])
  | succ k1 =>
   have H := HA.out; clear HA; simp only [impl_articleOf.l0] at H
   by_cases c3 : x9_1 < (l0.length : Int)
   ·rw [if_pos c3] at H
    have c3b0 := decide_eq_true c3; clear c3
    by_cases c4 : 0 ≤ x9_1
    ·rw [if_pos c4] at H
     have c4b0 := decide_eq_true c4; clear c4
     by_cases c5 : x9_1 < (l0.length : Int)
     ·rw [if_pos c5] at H
      have c5b0 := decide_eq_true c5; clear c5
      by_cases c6 : ((rd_T62 l0 x9_1).f0).toList = a1.toList
      ·rw [if_pos c6] at H
       have c6b0 := beq_iff_eq.mpr c6; have c6b1 := bne_eq_false_iff_eq.mpr c6; clear c6; obtain rfl := Option.some.inj H; have p553 : 0 ≤ (x9_1 : Int) := of_decide_eq_true Zc; have q553 : x9_1 < (l0.length : Int) := of_decide_eq_true Zc; obtain ⟨ad553, e553, hx553_0, hx553_1, hx553_2, hx553_3, hx553_4, hx553_5, hx553_6, hx553_7, hx553_8⟩ := at_T62 HR0.out x9_1 p553 q553
       cases e553
       replace hx553_0 := cbH HB hx553_0; replace hx553_1 := cbH HB hx553_1; replace hx553_2 := cbH HB hx553_2; replace hx553_3 := cbH HB hx553_3; replace hx553_4 := cbH HB hx553_4; replace hx553_5 := cbH HB hx553_5; replace hx553_6 := cbH HB hx553_6; replace hx553_7 := cbH HB hx553_7; replace hx553_8 := cbH HB hx553_8; replace p553 := eq_true p553; replace q553 := eq_true q553
       go_wp2_with (first | ((with_reducible refine gate_dst (N := 6) rfl ?_); refine boxZ 6 #[.string (⟨#[]⟩ : ByteArray), .int .i64 0, .int .i64 0, .int .i64 0, .int .i64 0, .int .i64 0, .int .i64 0, .int .i64 0, .int .i64 0] 62 ?_; intro gb554 hg w7 hbox hb; replace BK554 := am_ (hbox); replace GW554 := am_ ((Zr : w.heap.size ≤ gb554)); replace GE554 := GW554; replace HB := (bsZ Zf hb); clear hb hbox hg; refine ci9 BK554 ?_; intros))
       go_ret
       exact ⟨Zl, (Zi GE554)⟩
      ·rw [if_neg c6] at H
       have c6b0 := beq_eq_false_iff_ne.mpr c6; have c6b1 := bne_iff_ne.mpr c6; have H' := am_ H; clear H; have p553 : 0 ≤ (x9_1 : Int) := of_decide_eq_true Zc; have q553 : x9_1 < (l0.length : Int) := of_decide_eq_true Zc; obtain ⟨ad553, e553, hx553_0, hx553_1, hx553_2, hx553_3, hx553_4, hx553_5, hx553_6, hx553_7, hx553_8⟩ := at_T62 HR0.out x9_1 p553 q553
       cases e553
       replace hx553_0 := cbH HB hx553_0; replace hx553_1 := cbH HB hx553_1; replace hx553_2 := cbH HB hx553_2; replace hx553_3 := cbH HB hx553_3; replace hx553_4 := cbH HB hx553_4; replace hx553_5 := cbH HB hx553_5; replace hx553_6 := cbH HB hx553_6; replace hx553_7 := cbH HB hx553_7; replace hx553_8 := cbH HB hx553_8; replace p553 := eq_true p553; replace q553 := eq_true q553
       go_wp2_with (first | ((with_reducible refine gate_dst (N := 6) rfl ?_); refine boxZ 6 #[.string (⟨#[]⟩ : ByteArray), .int .i64 0, .int .i64 0, .int .i64 0, .int .i64 0, .int .i64 0, .int .i64 0, .int .i64 0, .int .i64 0] 62 ?_; intro gb554 hg w9 hbox hb; replace BK554 := am_ (hbox); replace GW554 := am_ ((Zr : w.heap.size ≤ gb554)); replace GE554 := GW554; replace HB := (bsZ Zf hb); clear hb hbox hg; refine ci9 BK554 ?_; intros))
       go_roundg k1
       case measure => have := HK1.out; omega
       case rel => exact ⟨(wrap64 (x9_1 + 1)), Za, H', ⟨Zd⟩, ⟨(Zi GE554)⟩⟩
     ·rw [if_neg c5] at H
      exact absurd H (by simp)
    ·rw [if_neg c4] at H
     exact absurd H (by simp)
   ·rw [if_neg c3] at H
    have c3b0 := decide_eq_false c3; clear c3; obtain rfl := Option.some.inj H
    go_wp2
    go_ret
    exact ⟨Zl, Zf⟩
def impl_isIndex.f (a0 : Int) (a1 : Int) : Option (Bool) := (impl_within.f a0 0 (wrap64 (a1 - 1))).bind fun t555 => (some t555)
set_option maxHeartbeats 8000000 in
set_option maxRecDepth 100000 in
theorem impl_isIndex.calls (a0 : Int) (a1 : Int) (r : Bool) (w : World) (h : impl_isIndex.f a0 a1 = some r) :
  Calls Try.prog 62 #[.int .i64 a0, .int .i64 a1] w fun e w' => e = .returned (.bool r) ∧ Drawn0 w w' := by
 have H : ((impl_within.f a0 0 (wrap64 (a1 - 1))).bind fun t555 => (some t555)) = some r := h; clear h; replace H := Option.bind_eq_some_iff.mp H; obtain ⟨t555, A30, H⟩ := H; have A3 := am_ A30; clear A30; obtain rfl := Option.some.inj H
 go_enter Try.func62, Try.ntmps62
 go_wp2_with (first | ((with_reducible refine gate_callee (f := 53) rfl ?_); refine gZ 8 Try.func53 #[.int .i64 a0, .int .i64 0, .int .i64 (wrap64 (a1 - 1))] ?_; (with_reducible refine (impl_within.calls a0 0 (wrap64 (a1 - 1)) t555 _ A3.out).mono ?_); rintro e w' ⟨rfl, ⟨nd, rfl⟩⟩; refine ⟨_, rfl, ?_⟩))
 go_ret
 exact ⟨Za, Zb⟩
def impl_isBeat.f (l0 : List (S104)) (a1 : Int) (a2 : Int) : Option (Bool) := (impl_isIndex.f a1 (l0.length : Int)).bind fun t556 => (if t556 = true then (if 0 ≤ a1 then (if a1 < (l0.length : Int) then ((impl_within.f a2 0 (wrap64 (((rd_T104 l0 a1).f0) - 1))).bind fun t558 => (some t558)) else (none)) else (none)) else (some false))
set_option maxHeartbeats 8000000 in
set_option maxRecDepth 100000 in
theorem impl_isBeat.calls (A0 : Option Addr) (c0 : Nat) (l0 : List (S104)) (a1 : Int) (a2 : Int) (r : Bool) (w : World) (hr0 : Kd.C k104 w A0 l0.length l0) (hc0 : l0.length ≤ c0) (h : impl_isBeat.f l0 a1 a2 = some r) :
  Calls Try.prog 82 #[.slice A0 l0.length c0, .int .i64 a1, .int .i64 a2] w fun e w' => e = .returned (.bool r) ∧ Drawn0 w w' := by
 have HR0 := am_ hr0; have HC0 := am_ hc0; clear hr0 hc0; have H : ((impl_isIndex.f a1 (l0.length : Int)).bind fun t556 => (if t556 = true then (if 0 ≤ a1 then (if a1 < (l0.length : Int) then ((impl_within.f a2 0 (wrap64 (((rd_T104 l0 a1).f0) - 1))).bind fun t558 => (some t558)) else (none)) else (none)) else (some false))) = some r := h; clear h; replace H := Option.bind_eq_some_iff.mp H; obtain ⟨t556, A40, H⟩ := H; have A4 := am_ A40; clear A40; have HS_ := am_ H; clear H
 go_enter Try.func82, Try.ntmps82
 go_wp2_with (first | ((with_reducible refine gate_callee (f := 62) rfl ?_); refine gZ 10 Try.func62 #[.int .i64 a1, .int .i64 (l0.length : Int)] ?_; (with_reducible refine (impl_isIndex.calls a1 (l0.length : Int) t556 _ A4.out).mono ?_); rintro e w' ⟨rfl, ⟨nd, rfl⟩⟩; refine ⟨_, rfl, ?_⟩; refine ?roundEnd))
 case roundEnd =>
  by_cases c5 : t556 = true
  ·have H := HS_.out
   clear HS_; subst c5; rw [if_pos rfl] at H
   by_cases c6 : 0 ≤ a1
   ·rw [if_pos c6] at H
    have c6b0 := decide_eq_true c6; clear c6
    by_cases c7 : a1 < (l0.length : Int)
    ·rw [if_pos c7] at H
     have c7b0 := decide_eq_true c7; clear c7; replace H := Option.bind_eq_some_iff.mp H; obtain ⟨t558, A80, H⟩ := H; have A8 := am_ A80; clear A80; obtain rfl := Option.some.inj H; have p557 : 0 ≤ (a1 : Int) := of_decide_eq_true Zc; have q557 : a1 < (l0.length : Int) := of_decide_eq_true Zc; obtain ⟨ad557, e557, hx557_0, hx557_1⟩ := at_T104 HR0.out a1 p557 q557
     cases e557
     replace p557 := eq_true p557; replace q557 := eq_true q557
     go_wp2_with (first | (go_at_call 53; (with_reducible refine (impl_within.calls a2 0 (wrap64 (((rd_T104 l0 a1).f0) - 1)) t558 _ A8.out).mono ?_); rintro e w' ⟨rfl, ⟨nd, rfl⟩⟩))
     go_ret
     exact ⟨Za, Zb⟩
    ·rw [if_neg c7] at H
     exact absurd H (by simp)
   ·rw [if_neg c6] at H
    exact absurd H (by simp)
  ·have H := HS_.out
   clear HS_; replace c5 := Bool.eq_false_iff.mpr c5; subst c5; rw [if_neg (show ¬ (false = true) by decide)] at H; obtain rfl := Option.some.inj H
   go_wp2_with (first | fail)
   go_ret
   exact ⟨Za, Zb⟩
def impl_beatTime.l0 : Nat → List (S104) → Int → Int → Int → List (S104) → Int → Int → Option (Int)
 | 0, _, _, _, _, _, _, _ => none
 | k + 1, x0, x1, x2, x7, x12, x13, x14 => if x14 < x13 then (if 0 ≤ x14 then (if x14 < (x12.length : Int) then (impl_beatTime.l0 k x0 x1 x2 (wrap64 (x7 + (wrap64 (((rd_T104 x12 x14).f0) * ((rd_T104 x12 x14).f1))))) x12 x13 (wrap64 (x14 + 1))) else (none)) else (none)) else (if x2 > 0 then (if 0 ≤ x1 then (if x1 < (x0.length : Int) then (some (wrap64 (x7 + (wrap64 (x2 * ((rd_T104 x0 x1).f1)))))) else (none)) else (none)) else (some x7))
def impl_beatTime.f (k : Nat) (l0 : List (S104)) (a1 : Int) (a2 : Int) : Option (Int) := if 0 ≤ a1 then (if a1 ≤ (l0.length : Int) then ((some (l0.take (a1 : Int).toNat : List (S104))).bind fun y559 => (impl_beatTime.l0 k l0 a1 a2 0 y559 (y559.length : Int) 0)) else (none)) else (none)
set_option maxHeartbeats 8000000 in
set_option maxRecDepth 100000 in
theorem impl_beatTime.calls (k : Nat) (A0 : Option Addr) (c0 : Nat) (l0 : List (S104)) (a1 : Int) (a2 : Int) (r : Int) (w : World) (hr0 : Kd.C k104 w A0 l0.length l0) (hc0 : l0.length ≤ c0) (h : impl_beatTime.f k l0 a1 a2 = some r) :
  Calls Try.prog 83 #[.slice A0 l0.length c0, .int .i64 a1, .int .i64 a2] w fun e w' => e = .returned (.int .i64 r) ∧ Below w.heap.size w w' := by
 have hu104 := Try.underlying104; have HR0 := am_ hr0; have HC0 := am_ hc0; clear hr0 hc0; have HB := am_ (Below.refl w.heap.size w); have H : (if 0 ≤ a1 then (if a1 ≤ (l0.length : Int) then ((some (l0.take (a1 : Int).toNat : List (S104))).bind fun y559 => (impl_beatTime.l0 k l0 a1 a2 0 y559 (y559.length : Int) 0)) else (none)) else (none)) = some r := h; clear h
 by_cases c4 : 0 ≤ a1
 ·rw [if_pos c4] at H
  have c4b0 := eq_true c4; have c4b1 := decide_eq_true c4; clear c4
  by_cases c5 : a1 ≤ (l0.length : Int)
  ·rw [if_pos c5] at H
   have c5b0 := eq_true c5; have c5b1 := decide_eq_true c5; clear c5; obtain ⟨y559, hy559⟩ : ∃ y_ : List (S104), y_ = (l0.take (a1 : Int).toNat) := ⟨_, rfl⟩
   (first | (rw [← hy559] at H; with_reducible replace H := bindZ H) | rw [← hy559] at H | skip)
   have Ny559 := am_ hy559; clear hy559; have H' := am_ H; clear H; have q6 : (a1 : Int) ≤ ((l0.length : Int) : Int) := of_decide_eq_true Zc; obtain ⟨i06, hi06, _, hsz6, _⟩ := info_parts info104; have hroom6 : l0.length ≤ c0 := HC0.out; have hC6 : Kd.C k104 _ A0 l0.length l0 := HR0.out; have hcut6 := cut_to (P := Try.prog) 24 104 .i64 Try.underlying24 hi06 A0 l0.length c0 a1 (of_decide_eq_true Zc) q6 hroom6; have hr6 := Kd.C_take (m := (a1 : Int).toNat) hC6 (by omega); have hy6 : y559.length = (a1 : Int).toNat := (by rw [Ny559.out, List.length_take]; omega); rw [← Ny559.out] at hr6; rw [← hy6] at hcut6; have HR562 := am_ hr6; have HC562 := am_ (show y559.length ≤ c0 from (by omega)); clear hr6 hC6 hroom6 hi06 hsz6; have KY6 := am_ hy6; clear hy6; replace q6 := eq_true q6
   go_enter Try.func83, Try.ntmps83
   go_wp2
   go_loopg [7, 14] k (fun kq v7 v14 w' => ∃ (x7_1 : Int) (x14_1 : Int), v7 = .int .i64 x7_1 ∧ v14 = .int .i64 x14_1 ∧ Aside0 (impl_beatTime.l0 kq l0 a1 a2 x7_1 y559 (y559.length : Int) x14_1 = some r) ∧ Aside0 (kq ≤ k) ∧ Aside0 (Below w.heap.size w w'))
   case atStart => exact ⟨(0), (0), Za, Za, H', ⟨Nat.le_refl _⟩, ⟨Zf⟩⟩
   case round =>
    clear H'
    try clear p2
    try clear c4
    try clear c4b0
    try clear c4b1
    try clear c5
    try clear c5b0
    try clear c5b1
    try clear q6
    try clear q6
    obtain ⟨x7_1, x14_1, rfl, rfl, HA, HK1, HB⟩ := hrel
    cases gk with
    | zero => exact absurd HA.out (by simp [impl_beatTime.l0])
    | succ k1 =>
     have H := HA.out; clear HA; simp only [impl_beatTime.l0] at H
     by_cases c7 : x14_1 < (y559.length : Int)
     ·rw [if_pos c7] at H
      have c7b0 := decide_eq_true c7; clear c7
      by_cases c8 : 0 ≤ x14_1
      ·rw [if_pos c8] at H
       have c8b0 := decide_eq_true c8; clear c8
       by_cases c9 : x14_1 < (y559.length : Int)
       ·rw [if_pos c9] at H
        have c9b0 := decide_eq_true c9; clear c9; have H' := am_ H; clear H; have p563 : 0 ≤ (x14_1 : Int) := of_decide_eq_true Zc; have q563 : x14_1 < (y559.length : Int) := of_decide_eq_true Zc; obtain ⟨ad563, e563, hx563_0, hx563_1⟩ := at_T104 HR562.out x14_1 p563 q563
        cases e563
        replace hx563_0 := cbH HB hx563_0; replace hx563_1 := cbH HB hx563_1; replace p563 := eq_true p563; replace q563 := eq_true q563
        go_wp2_with (first | ((with_reducible refine gate_dst (N := 9) rfl ?_); refine boxZ 9 #[.int .i64 0, .int .i64 0] 104 ?_; intro gb564 hg w10 hbox hb; replace BK564 := am_ (hbox); replace GW564 := am_ ((Zr : w.heap.size ≤ gb564)); replace GE564 := GW564; replace HB := (bsZ Zf hb); clear hb hbox hg; refine ci2 BK564 ?_; intros))
        go_roundg k1
        case measure => have := HK1.out; omega
        case rel => exact ⟨(wrap64 (x7_1 + (wrap64 (((rd_T104 y559 x14_1).f0) * ((rd_T104 y559 x14_1).f1))))), (wrap64 (x14_1 + 1)), Za, Za, H', ⟨Zd⟩, ⟨(Zi GE564)⟩⟩
       ·rw [if_neg c9] at H
        exact absurd H (by simp)
      ·rw [if_neg c8] at H
       exact absurd H (by simp)
     ·rw [if_neg c7] at H
      have c7b0 := decide_eq_false c7; clear c7
      by_cases c12 : a2 > 0
      ·rw [if_pos c12] at H
       have c12b0 : decide (0 < a2) = true := decide_eq_true c12; clear c12
       by_cases c13 : 0 ≤ a1
       ·rw [if_pos c13] at H
        have c13b0 := decide_eq_true c13; clear c13
        by_cases c14 : a1 < (l0.length : Int)
        ·rw [if_pos c14] at H
         have c14b0 := decide_eq_true c14; clear c14; obtain rfl := Option.some.inj H; have p565 : 0 ≤ (a1 : Int) := of_decide_eq_true Zc; have q565 : a1 < (l0.length : Int) := of_decide_eq_true Zc; obtain ⟨ad565, e565, hx565_0, hx565_1⟩ := at_T104 HR0.out a1 p565 q565
         cases e565
         replace hx565_0 := cbH HB hx565_0; replace hx565_1 := cbH HB hx565_1; replace p565 := eq_true p565; replace q565 := eq_true q565
         go_wp2
         go_ret
         exact ⟨Zl, Zf⟩
        ·rw [if_neg c14] at H
         exact absurd H (by simp)
       ·rw [if_neg c13] at H
        exact absurd H (by simp)
      ·rw [if_neg c12] at H
       have c12b0 : decide (0 < a2) = false := decide_eq_false c12; clear c12; obtain rfl := Option.some.inj H
       go_wp2
       go_ret
       exact ⟨Zl, Zf⟩
  ·rw [if_neg c5] at H
   exact absurd H (by simp)
 ·rw [if_neg c4] at H
  exact absurd H (by simp)
def impl_firedAt.f (k : Nat) (l0_0 : List (S104)) (l0_1 : List (S62)) (l0_2 : List (S39)) (a1_0 : Int) (a1_1 : Int) (a1_2 : ByteArray) (a1_3 : Int) : Option (Int) := (impl_articleOf.f k l0_1 a1_2).bind fun t568 => (if t568 < 0 then (some (-1)) else ((impl_isBeat.f l0_0 a1_0 a1_1).bind fun t569 => (if t569 = true then ((impl_beatTime.f k l0_0 a1_0 a1_1).bind fun t570 => (if 0 ≤ t568 then (if t568 < (l0_1.length : Int) then (some (mx (-1) (wrap64 (t570 - ((rd_T62 l0_1 t568).f3))))) else (none)) else (none))) else (some (-1)))))
def impl_firedAt.T4 : Bool × List (List Nat × List Nat) := (true, [([], []), ([0], [0]), ([], []), ([2], [2]), ([], []), ([4], [4]), ([1, 3, 5], [1, 3, 5]), ([], []), ([7], [7]), ([], []), ([8, 9], [8, 9]), ([10], [10]), ([11], [11]), ([6, 12], [6, 12]), ([13], [13]), ([14, 6, 0, 1, 2, 3, 4, 5, 6, 7, 8, 9, 10, 11, 12, 13, 14], [14])])
def impl_firedAt.B4 : List Nat := [0, 1, 0, 4, 0, 16, 63, 0, 128, 0, 896, 1920, 3968, 8191, 16383, 32767]
theorem impl_firedAt.tab4 : rtab .any (opsOf Try.f70 4) = impl_firedAt.T4 := by kernel_rfl
theorem impl_firedAt.bits4 : waitsOk impl_firedAt.T4.2 impl_firedAt.B4 = true := by kernel_rfl
set_option maxHeartbeats 8000000 in
set_option maxRecDepth 100000 in
theorem impl_firedAt.calls (k : Nat) (A0_0 : Option Addr) (c0_0 : Nat) (l0_0 : List (S104)) (A0_1 : Option Addr) (c0_1 : Nat) (l0_1 : List (S62)) (A0_2 : Option Addr) (c0_2 : Nat) (l0_2 : List (S39)) (a1_0 : Int) (a1_1 : Int) (a1_2 : ByteArray) (a1_3 : Int) (r : Int) (w : World) (hr0_0 : Kd.C k104 w A0_0 l0_0.length l0_0) (hc0_0 : l0_0.length ≤ c0_0) (hr0_1 : Kd.C k62 w A0_1 l0_1.length l0_1) (hc0_1 : l0_1.length ≤ c0_1) (hr0_2 : Kd.C k39 w A0_2 l0_2.length l0_2) (hc0_2 : l0_2.length ≤ c0_2) (h : impl_firedAt.f k l0_0 l0_1 l0_2 a1_0 a1_1 a1_2 a1_3 = some r) :
  Calls Try.prog 70 #[.agg #[.slice A0_0 l0_0.length c0_0, .slice A0_1 l0_1.length c0_1, .slice A0_2 l0_2.length c0_2], .agg #[.int .i64 a1_0, .int .i64 a1_1, .string a1_2, .int .i64 a1_3]] w fun e w' => e = .returned (.int .i64 r) ∧ Below w.heap.size w w' := by
 have hu28 := Try.underlying28; have hu39 := Try.underlying39; have HR0_0 := am_ hr0_0; have HC0_0 := am_ hc0_0; clear hr0_0 hc0_0; have HR0_1 := am_ hr0_1; have HC0_1 := am_ hc0_1; clear hr0_1 hc0_1; have HR0_2 := am_ hr0_2; have HC0_2 := am_ hc0_2; clear hr0_2 hc0_2; have HB := am_ (Below.refl w.heap.size w); have H : ((impl_articleOf.f k l0_1 a1_2).bind fun t568 => (if t568 < 0 then (some (-1)) else ((impl_isBeat.f l0_0 a1_0 a1_1).bind fun t569 => (if t569 = true then ((impl_beatTime.f k l0_0 a1_0 a1_1).bind fun t570 => (if 0 ≤ t568 then (if t568 < (l0_1.length : Int) then (some (mx (-1) (wrap64 (t570 - ((rd_T62 l0_1 t568).f3))))) else (none)) else (none))) else (some (-1)))))) = some r := h; clear h; replace H := Option.bind_eq_some_iff.mp H; obtain ⟨t568, A30, H⟩ := H; have A3 := am_ A30; clear A30; have HS_ := am_ H; clear H
 go_enter Try.func70, Try.ntmps70
 go_wp2_with (first | ((with_reducible refine gate_dst (N := 2) rfl ?_); refine boxZ 2 #[.slice A0_0 l0_0.length c0_0, .slice A0_1 l0_1.length c0_1, .slice A0_2 l0_2.length c0_2] 28 ?_; intro gb566 hg w5 hbox hb; replace BK566 := am_ (hbox); replace GW566 := am_ ((Zr : w.heap.size ≤ gb566)); replace GE566 := GW566; replace HB := (bsZ Zf hb); clear hb hbox hg) | ((with_reducible refine gate_dst (N := 3) rfl ?_); refine boxZ 3 #[.int .i64 a1_0, .int .i64 a1_1, .string a1_2, .int .i64 a1_3] 39 ?_; intro gb567 hg w6 hbox hb; replace BK567 := am_ (hbox); replace GW567 := am_ (((Zt GE566) : w.heap.size ≤ gb567)); replace GE567 := GW567; replace HB := (bsZ (Zi GE566) hb); replace NB566_567 := am_ ((by rw [hg]; exact Nat.ne_of_lt (blk_lt (g := gb566) (b0Z BK566)) : gb566 ≠ gb567)); replace NB567_566 := am_ ((by rw [hg]; exact Nat.ne_of_gt (blk_lt (g := gb566) (b0Z BK566)) : gb567 ≠ gb566)); replace BK566 := (bkZ BK566 hb); clear hb hbox hg; have hnb7 := NB566_567.out; have hnc7 := NB567_566.out; refine ci3 BK566 ?_; intros; refine ci4 BK567 ?_; intros) | ((with_reducible refine gate_callee (f := 63) rfl ?_); refine gZ 10 Try.func63 #[.slice A0_1 l0_1.length c0_1, .string a1_2] ?_; (with_reducible refine (impl_articleOf.calls k _ _ l0_1 a1_2 t568 _ ?_ ?_ A3.out).mono ?_); exact (Zu HR0_1); exact HC0_1.out; rintro e w10 ⟨rfl, hb⟩; refine ⟨_, rfl, ?_⟩; replace BK566 := (bkZ BK566 hb); replace BK567 := (bkZ BK567 hb); replace HB := (bsZ (Zw GE566 GE567) hb); clear hb; refine ?roundEnd))
 case roundEnd =>
  by_cases c4 : t568 < 0
  ·have H := HS_.out
   clear HS_; rw [if_pos c4] at H; have c4b0 := decide_eq_true c4; clear c4; obtain rfl := Option.some.inj H
   go_wp2_with (first | fail)
   go_ret
   exact ⟨Zl, (Zw GE566 GE567)⟩
  ·have H := HS_.out
   clear HS_; rw [if_neg c4] at H; have c4b0 := decide_eq_false c4; clear c4; replace H := Option.bind_eq_some_iff.mp H; obtain ⟨t569, A110, H⟩ := H; have A11 := am_ A110; clear A110; have HS_ := am_ H; clear H; refine ci3 BK566 ?_; intros; refine ci4 BK567 ?_; intros
   try go_wp2_with (first | (go_at_call 82; (with_reducible refine (impl_isBeat.calls _ _ l0_0 a1_0 a1_1 t569 _ ?_ ?_ A11.out).mono ?_); exact (Zu HR0_0); exact HC0_0.out; rintro e w' ⟨rfl, ⟨nd, rfl⟩⟩; refine ?roundEnd))
   case roundEnd =>
    by_cases c12 : t569 = true
    ·have H := HS_.out
     clear HS_; subst c12; rw [if_pos rfl] at H; replace H := Option.bind_eq_some_iff.mp H; obtain ⟨t570, A130, H⟩ := H; have A13 := am_ A130; clear A130
     by_cases c14 : 0 ≤ t568
     ·rw [if_pos c14] at H
      have c14b0 := decide_eq_true c14; clear c14
      by_cases c15 : t568 < (l0_1.length : Int)
      ·rw [if_pos c15] at H
       have c15b0 := decide_eq_true c15; clear c15; obtain ⟨ji16, hji16⟩ : ∃ j_ : Int, (mx (-1) (wrap64 (t570 - ((rd_T62 l0_1 t568).f3)))) = j_ := ⟨_, rfl⟩
       replace H : (some ji16) = some r := by first | (rw [hji16] at H; exact H) | (simp only [hji16] at H ⊢; exact H)
       (try rw [hji16] at A3)
       (try rw [hji16] at A11)
       (try rw [hji16] at A13)
       have hji16_ : (if (-1) < (wrap64 (t570 - ((rd_T62 l0_1 t568).f3))) then (wrap64 (t570 - ((rd_T62 l0_1 t568).f3))) else (-1)) = ji16 := hji16; obtain rfl := Option.some.inj H
       try go_wp2_with (first | fail)
       (try (rw [drewN_self w10]; generalize hq_ : World.drewN w10 _ = w10; replace BK566 : Aside0 (w10.heap[gb566]? = some (.cells #[.slice A0_0 l0_0.length c0_0, .slice A0_1 l0_1.length c0_1, .slice A0_2 l0_2.length c0_2] 28 (0, 0))) := ⟨by rw [← hq_]; exact (b0Z BK566)⟩; replace BK567 : Aside0 (w10.heap[gb567]? = some (.cells #[.int .i64 a1_0, .int .i64 a1_1, .string a1_2, .int .i64 a1_3] 39 (0, 0))) := ⟨by rw [← hq_]; exact (b0Z BK567)⟩; replace HB : Aside0 (Below w.heap.size w w10) := ⟨by rw [← hq_]; exact (Zw GE566 GE567)⟩; clear hq_))
       replace BK566 := am_ (blk_drew BK566.out); replace BK567 := am_ (blk_drew BK567.out); replace HB := am_ (below_drew1 HB.out); have p571 : 0 ≤ (t568 : Int) := of_decide_eq_true Zc; have q571 : t568 < (l0_1.length : Int) := of_decide_eq_true Zc; obtain ⟨ad571, e571, hx571_0, hx571_1, hx571_2, hx571_3, hx571_4, hx571_5, hx571_6, hx571_7, hx571_8⟩ := at_T62 HR0_1.out t568 p571 q571; have hw571_8 := hx571_8; have hw571_7 := hx571_7; have hw571_6 := hx571_6; have hw571_5 := hx571_5; have hw571_4 := hx571_4; have hw571_3 := hx571_3; have hw571_2 := hx571_2; have hw571_1 := hx571_1; have hw571_0 := hx571_0
       cases e571
       replace hx571_0 := cbH HB hx571_0; replace hx571_1 := cbH HB hx571_1; replace hx571_2 := cbH HB hx571_2; replace hx571_3 := cbH HB hx571_3; replace hx571_4 := cbH HB hx571_4; replace hx571_5 := cbH HB hx571_5; replace hx571_6 := cbH HB hx571_6; replace hx571_7 := cbH HB hx571_7; replace hx571_8 := cbH HB hx571_8; replace p571 := eq_true p571; replace q571 := eq_true q571; refine start_ (n := 16) (S := fun w' => w'.cell? ⟨gb566, 0, none⟩ = some (.slice A0_0 l0_0.length c0_0) ∧ w'.cell? ⟨gb566, 1, none⟩ = some (.slice (some ad571) l0_1.length c0_1) ∧ w'.cell? ⟨gb566, 2, none⟩ = some (.slice A0_2 l0_2.length c0_2) ∧ w'.cell? ⟨gb567, 0, none⟩ = some (.int .i64 a1_0) ∧ w'.cell? ⟨gb567, 1, none⟩ = some (.int .i64 a1_1) ∧ w'.cell? ⟨gb567, 2, none⟩ = some (.string a1_2) ∧ w'.cell? ⟨gb567, 3, none⟩ = some (.int .i64 a1_3) ∧ w'.cell? (ad571.add ((t568).toNat * 9)) = some (.string ((rd_T62 l0_1 t568).f0)) ∧ w'.cell? ⟨(ad571.add ((t568).toNat * 9)).block, (ad571.add ((t568).toNat * 9)).off + 1, none⟩ = some (.int .i64 ((rd_T62 l0_1 t568).f1)) ∧ w'.cell? ⟨(ad571.add ((t568).toNat * 9)).block, (ad571.add ((t568).toNat * 9)).off + 2, none⟩ = some (.int .i64 ((rd_T62 l0_1 t568).f2)) ∧ w'.cell? ⟨(ad571.add ((t568).toNat * 9)).block, (ad571.add ((t568).toNat * 9)).off + 3, none⟩ = some (.int .i64 ((rd_T62 l0_1 t568).f3)) ∧ w'.cell? ⟨(ad571.add ((t568).toNat * 9)).block, (ad571.add ((t568).toNat * 9)).off + 4, none⟩ = some (.int .i64 ((rd_T62 l0_1 t568).f4)) ∧ w'.cell? ⟨(ad571.add ((t568).toNat * 9)).block, (ad571.add ((t568).toNat * 9)).off + 5, none⟩ = some (.int .i64 ((rd_T62 l0_1 t568).f5)) ∧ w'.cell? ⟨(ad571.add ((t568).toNat * 9)).block, (ad571.add ((t568).toNat * 9)).off + 6, none⟩ = some (.int .i64 ((rd_T62 l0_1 t568).f6)) ∧ w'.cell? ⟨(ad571.add ((t568).toNat * 9)).block, (ad571.add ((t568).toNat * 9)).off + 7, none⟩ = some (.int .i64 ((rd_T62 l0_1 t568).f7)) ∧ w'.cell? ⟨(ad571.add ((t568).toNat * 9)).block, (ad571.add ((t568).toNat * 9)).off + 8, none⟩ = some (.int .i64 ((rd_T62 l0_1 t568).f8))) (ds := []) (bT 16 0) Zk rfl rfl ⟨(blk_cell BK566.out 0).trans rfl, (blk_cell BK566.out 1).trans rfl, (blk_cell BK566.out 2).trans rfl, (blk_cell BK567.out 0).trans rfl, (blk_cell BK567.out 1).trans rfl, (blk_cell BK567.out 2).trans rfl, (blk_cell BK567.out 3).trans rfl, (cbH HB hw571_0 :), (cbH HB hw571_1 :), (cbH HB hw571_2 :), (cbH HB hw571_3 :), (cbH HB hw571_4 :), (cbH HB hw571_5 :), (cbH HB hw571_6 :), (cbH HB hw571_7 :), (cbH HB hw571_8 :)⟩ (fun hHeld => ?_); refine with_tabW impl_firedAt.tab4 impl_firedAt.bits4 (fun HT_ HW_ => ?_); generalize w10.drew = w25 at BK566 BK567 HB hx571_0 hx571_1 hx571_2 hx571_3 hx571_4 hx571_5 hx571_6 hx571_7 hx571_8 hHeld ⊢; refine pureZ HT_ 0 (some 23) (bT 16 1) ?_; refine pureZ HT_ 2 (some 25) (bB 16 5) ?_; refine pureZ HT_ 4 (some 27) (bB 16 21) ?_; refine pureZ HT_ 7 (some 30) (bB 16 149) ?_; refine pureZ HT_ 9 (some 32) (bB 16 661) ?_; refine takeZ16 HT_ HW_ 1 (some 24) (bB 16 663) hHeld ?_; refine takeZ16 HT_ HW_ 3 (some 26) (bB 16 671) hHeld ?_
       refine takeZ16 HT_ HW_ 5 (some 28) (bB 16 703) hHeld ?_; refine takeZ16 HT_ HW_ 8 (some 31) (bB 16 959) hHeld ?_; refine pureZ HT_ 10 (some 33) (bB 16 1983) ?_; refine pureZ HT_ 11 (some 34) (bB 16 4031) ?_; refine takeZ16 HT_ HW_ 12 (some 35) (bB 16 8127) hHeld ?_; refine one_ (i := 6) (N := some 29) (bT 16 13) rfl rfl (one_of HT_.out Zk) (by decide) (fun K hK => ?_); refine goes_ Try.func83 Zk rfl #[.slice A0_0 l0_0.length c0_0, .int .i64 a1_0, .int .i64 a1_1] (by rfl) rfl rfl Zs ?_
       with_reducible refine (impl_beatTime.calls k _ _ l0_0 a1_0 a1_1 t570 _ ?side1 ?side2 A13.out).mono ?_
       (case side1 => exact (Zu HR0_0))
       (case side2 => exact HC0_0.out)
       rintro e w26 ⟨rfl, hb⟩; refine ⟨_, rfl, ?_⟩; replace BK566 := (bkZ BK566 hb); replace BK567 := (bkZ BK567 hb); replace HB := (bsZ (Zw GE566 GE567) hb)
       (try clear hb)
       (try clear hb2)
       (try clear hk)
       (try clear hi)
       refine hK.out _ _ (Zcm BK566 BK567 hw571_0 hw571_1 hw571_2 hw571_3 hw571_4 hw571_5 hw571_6 hw571_7 hw571_8) (fun hHeld => ?_); clear hK K; refine normZ 29 ?_; refine pureZ HT_ 13 (some 36) (bT 16 14) ?_; refine pureZ HT_ 14 (some 37) (bT 16 15) ?_; refine pureZ HT_ 15 (some 4) (bT 16 16) ?_; refine done_ (done_of HT_.out Zk) ?_
       try go_wp2
       go_ret
       exact ⟨by first | rfl | (simp [errW_none, errW_some] <;> rfl) | (simp only [← hji16]; first | rfl | (simp [errW_none, errW_some] <;> rfl)) | (simp [*, errW_none, errW_some] <;> rfl), (Zw GE566 GE567)⟩
      ·rw [if_neg c15] at H
       exact absurd H (by simp)
     ·rw [if_neg c14] at H
      exact absurd H (by simp)
    ·have H := HS_.out
     clear HS_; replace c12 := Bool.eq_false_iff.mpr c12; subst c12; rw [if_neg (show ¬ (false = true) by decide)] at H; obtain rfl := Option.some.inj H
     go_wp2_with (first | fail)
     go_ret
     exact ⟨Zl, (Zw GE566 GE567)⟩
mutual
def impl_IsShow.j0 : Nat → Bool → List (S104) → List (S62) → List (S39) → Option (Bool)
 | 0, _, _, _, _ => none
 | k + 1, x20, x573000, x573001, x573002 => if x20 = true then (some false) else (impl_IsShow.l0 k x573002 (x573002.length : Int) 0 x573000 x573001 x573002)
def impl_IsShow.l0 : Nat → List (S39) → Int → Int → List (S104) → List (S62) → List (S39) → Option (Bool)
 | 0, _, _, _, _, _, _ => none
 | k + 1, x22, x23, x24, x573000, x573001, x573002 => if x24 < x23 then (if 0 ≤ x24 then (if x24 < (x22.length : Int) then ((impl_within.f ((rd_T39 x22 x24).f3) 0 11).bind fun t577 => (if t577 = true then ((impl_firedAt.f k x573000 x573001 x573002 ((rd_T39 x22 x24).f0) ((rd_T39 x22 x24).f1) ((rd_T39 x22 x24).f2) ((rd_T39 x22 x24).f3)).bind fun t578 => (if t578 < 0 then (some false) else (impl_IsShow.l0 k x22 x23 (wrap64 (x24 + 1)) x573000 x573001 x573002))) else (some false))) else (none)) else (none)) else (some true)
end
def impl_IsShow.f (k : Nat) (l0_0 : List (S104)) (l0_1 : List (S62)) (l0_2 : List (S39)) : Option (Bool) := (impl_IsScore.f k l0_0).bind fun t573 => (if t573 = true then ((impl_AreArticles.f k l0_1).bind fun t574 => (if t574 = true then (impl_IsShow.j0 k (decide ((l0_2.length : Int) > 20)) l0_0 l0_1 l0_2) else (impl_IsShow.j0 k true l0_0 l0_1 l0_2))) else (impl_IsShow.j0 k true l0_0 l0_1 l0_2))
set_option maxHeartbeats 8000000 in
set_option maxRecDepth 100000 in
theorem impl_IsShow.calls (k : Nat) (A0_0 : Option Addr) (c0_0 : Nat) (l0_0 : List (S104)) (A0_1 : Option Addr) (c0_1 : Nat) (l0_1 : List (S62)) (A0_2 : Option Addr) (c0_2 : Nat) (l0_2 : List (S39)) (r : Bool) (w : World) (hr0_0 : Kd.C k104 w A0_0 l0_0.length l0_0) (hc0_0 : l0_0.length ≤ c0_0) (hr0_1 : Kd.C k62 w A0_1 l0_1.length l0_1) (hc0_1 : l0_1.length ≤ c0_1) (hr0_2 : Kd.C k39 w A0_2 l0_2.length l0_2) (hc0_2 : l0_2.length ≤ c0_2) (h : impl_IsShow.f k l0_0 l0_1 l0_2 = some r) :
  Calls Try.prog 25 #[.agg #[.slice A0_0 l0_0.length c0_0, .slice A0_1 l0_1.length c0_1, .slice A0_2 l0_2.length c0_2]] w fun e w' => e = .returned (.bool r) ∧ Below w.heap.size w w' := by
 have hu28 := Try.underlying28; have hu39 := Try.underlying39; have HR0_0 := am_ hr0_0; have HC0_0 := am_ hc0_0; clear hr0_0 hc0_0; have HR0_1 := am_ hr0_1; have HC0_1 := am_ hc0_1; clear hr0_1 hc0_1; have HR0_2 := am_ hr0_2; have HC0_2 := am_ hc0_2; clear hr0_2 hc0_2; have HB := am_ (Below.refl w.heap.size w); have H : ((impl_IsScore.f k l0_0).bind fun t573 => (if t573 = true then ((impl_AreArticles.f k l0_1).bind fun t574 => (if t574 = true then (impl_IsShow.j0 k (decide ((l0_2.length : Int) > 20)) l0_0 l0_1 l0_2) else (impl_IsShow.j0 k true l0_0 l0_1 l0_2))) else (impl_IsShow.j0 k true l0_0 l0_1 l0_2))) = some r := h; clear h; have HC2 := am_ H; clear H
 go_enter Try.func25, Try.ntmps25
 go_upto_region 1 with (first | ((with_reducible refine gate_dst (N := 1) rfl ?_); (try (refine gate_guard (by rfl) ?_; dsimp only)); refine boxZ 1 #[.slice A0_0 l0_0.length c0_0, .slice A0_1 l0_1.length c0_1, .slice A0_2 l0_2.length c0_2] 28 ?_; intro gb572 hg w3 hbox hb; replace BK572 := am_ (hbox); replace GW572 := am_ ((Zr : w.heap.size ≤ gb572)); replace GE572 := GW572; replace HB := (bsZ Zf hb); clear hb hbox hg))
 (try simp only [Act.put, List.setIfInBounds_toArray, List.set_cons_zero, List.set_cons_succ])
 go_cut [20] (fun v20 wc => ∃ (kq : Nat) (x20_1 : Bool), v20 = .bool x20_1 ∧ Aside0 (impl_IsShow.j0 kq x20_1 l0_0 l0_1 l0_2 = some r) ∧ Aside0 (kq ≤ k) ∧ Aside0 (wc.heap[gb572]? = some (.cells #[(.slice A0_0 l0_0.length c0_0), (.slice A0_1 l0_1.length c0_1), (.slice A0_2 l0_2.length c0_2)] 28 (0, 0))) ∧ Aside0 (Below w.heap.size w wc))
 case first =>
  have H := HC2.out; clear HC2; replace H := Option.bind_eq_some_iff.mp H; obtain ⟨t573, A40, H⟩ := H; have A4 := am_ A40; clear A40; have HS_ := am_ H; clear H; refine ci3 BK572 ?_; intros
  go_wp2_with (first | ((with_reducible refine gate_callee (f := 68) rfl ?_); refine gZ 7 Try.func68 #[.slice A0_0 l0_0.length c0_0] ?_; (with_reducible refine (impl_IsScore.calls k _ _ l0_0 t573 _ ?_ ?_ A4.out).mono ?_); exact (Zu HR0_0); exact HC0_0.out; rintro e w9 ⟨rfl, hb⟩; refine ⟨_, rfl, ?_⟩; replace BK572 := (bkZ BK572 hb); replace HB := (bsZ (Zi GE572) hb); clear hb; refine ?roundEnd))
  case roundEnd =>
   by_cases c5 : t573 = true
   ·have H := HS_.out
    clear HS_; subst c5; rw [if_pos rfl] at H; replace H := Option.bind_eq_some_iff.mp H; obtain ⟨t574, A60, H⟩ := H; have A6 := am_ A60; clear A60; have HS_ := am_ H; clear H; refine ci3 BK572 ?_; intros
    go_wp2_with (first | (go_at_call 69; (with_reducible refine (impl_AreArticles.calls k _ _ l0_1 t574 _ ?_ ?_ A6.out).mono ?_); exact (Zu HR0_1); exact HC0_1.out; rintro e w11 ⟨rfl, hb⟩; replace BK572 := (bkZ BK572 hb); replace HB := (bsZ (Zi GE572) hb); clear hb; refine ?roundEnd))
    case roundEnd =>
     by_cases c7 : t574 = true
     ·have H := HS_.out
      clear HS_; subst c7; rw [if_pos rfl] at H; have H' := am_ H; clear H; refine ci3 BK572 ?_; intros
      go_wp2_with (first | fail)
      go_meet
      case rel => exact ⟨_, (decide ((l0_2.length : Int) > 20)), Za, H', ⟨Zx⟩, ⟨(Zh BK572)⟩, ⟨(Zi GE572)⟩⟩
     ·have H := HS_.out
      clear HS_; replace c7 := Bool.eq_false_iff.mpr c7; subst c7; rw [if_neg (show ¬ (false = true) by decide)] at H; have H' := am_ H; clear H
      go_wp2_with (first | fail)
      go_meet
      case rel => exact ⟨_, (true), Za, H', ⟨Zx⟩, ⟨(Zh BK572)⟩, ⟨(Zi GE572)⟩⟩
   ·have H := HS_.out
    clear HS_; replace c5 := Bool.eq_false_iff.mpr c5; subst c5; rw [if_neg (show ¬ (false = true) by decide)] at H; have H' := am_ H; clear H
    go_wp2_with (first | fail)
    go_meet
    case rel => exact ⟨_, (true), Za, H', ⟨Zx⟩, ⟨(Zh BK572)⟩, ⟨(Zi GE572)⟩⟩
 case rest =>
  clear HC2
  try clear c2
  try clear p2
  try clear c5
  try clear c6
  try clear c7
  obtain ⟨kq, x20_1, rfl, HA, HJ1, BK572, HB⟩ := hcut
  cases kq with
  | zero => exact absurd HA.out (by simp [impl_IsShow.j0])
  | succ kj1 =>
   have H := HA.out; clear HA; simp only [impl_IsShow.j0] at H
   by_cases c19 : x20_1 = true
   ·subst c19
    rw [if_pos rfl] at H; obtain rfl := Option.some.inj H
    go_wp2
    go_ret
    exact ⟨Zl, (Zi GE572)⟩
   ·replace c19 := Bool.eq_false_iff.mpr c19
    subst c19; rw [if_neg (show ¬ (false = true) by decide)] at H; have H' := am_ H; clear H; refine ci3 BK572 ?_; intros
    go_wp2
    go_loopg [24] kj1 (fun kq v24 w' => ∃ (x24_2 : Int), v24 = .int .i64 x24_2 ∧ Aside0 (impl_IsShow.l0 kq l0_2 (l0_2.length : Int) x24_2 l0_0 l0_1 l0_2 = some r) ∧ Aside0 (kq ≤ kj1) ∧ Aside0 (w'.heap[gb572]? = some (.cells #[(.slice A0_0 l0_0.length c0_0), (.slice A0_1 l0_1.length c0_1), (.slice A0_2 l0_2.length c0_2)] 28 (0, 0))) ∧ Aside0 (Below w.heap.size w w'))
    case atStart => exact ⟨(0), Za, H', ⟨Nat.le_refl _⟩, ⟨(Zh BK572)⟩, ⟨(Zi GE572)⟩⟩
    case round =>
     clear H'
     try clear c1
     try clear c2
     try clear p2
     try clear c5
     try clear c6
     try clear c7
     try clear c19
     try clear p2
     obtain ⟨x24_2, rfl, HA, HK2, BK572, HB⟩ := hrel
     cases gk with
     | zero => exact absurd HA.out (by simp [impl_IsShow.l0])
     | succ k2 =>
      have H := HA.out; clear HA; simp only [impl_IsShow.l0] at H
      by_cases c21 : x24_2 < (l0_2.length : Int)
      ·rw [if_pos c21] at H
       have c21b0 := decide_eq_true c21; clear c21
       by_cases c22 : 0 ≤ x24_2
       ·rw [if_pos c22] at H
        have c22b0 := decide_eq_true c22; clear c22
        by_cases c23 : x24_2 < (l0_2.length : Int)
        ·rw [if_pos c23] at H
         have c23b0 := decide_eq_true c23; clear c23; replace H := Option.bind_eq_some_iff.mp H; obtain ⟨t577, A240, H⟩ := H; have A24 := am_ A240; clear A240
         by_cases c25 : t577 = true
         ·subst c25
          rw [if_pos rfl] at H; replace H := Option.bind_eq_some_iff.mp H; obtain ⟨t578, A260, H⟩ := H; have A26 := am_ A260; clear A260; have HS_ := am_ H; clear H; have p575 : 0 ≤ (x24_2 : Int) := of_decide_eq_true Zc; have q575 : x24_2 < (l0_2.length : Int) := of_decide_eq_true Zc; obtain ⟨ad575, e575, hx575_0, hx575_1, hx575_2, hx575_3⟩ := at_T39 HR0_2.out x24_2 p575 q575
          cases e575
          replace hx575_0 := cbH HB hx575_0; replace hx575_1 := cbH HB hx575_1; replace hx575_2 := cbH HB hx575_2; replace hx575_3 := cbH HB hx575_3; replace p575 := eq_true p575; replace q575 := eq_true q575
          go_wp2_with (first | ((with_reducible refine gate_dst (N := 4) rfl ?_); (try (refine gate_guard (by rfl) ?_; dsimp only)); refine boxZ 4 #[.int .i64 0, .int .i64 0, .string (⟨#[]⟩ : ByteArray), .int .i64 0] 39 ?_; intro gb576 hg w28 hbox hb; replace BK576 := am_ (hbox); replace GW576 := am_ (((Zt GE572) : w.heap.size ≤ gb576)); replace GE576 := GW576; replace HB := (bsZ (Zi GE572) hb); replace NB572_576 := am_ ((by rw [hg]; exact Nat.ne_of_lt (blk_lt (g := gb572) (b0Z BK572)) : gb572 ≠ gb576)); replace NB576_572 := am_ ((by rw [hg]; exact Nat.ne_of_gt (blk_lt (g := gb572) (b0Z BK572)) : gb576 ≠ gb572)); replace BK572 := (bkZ BK572 hb); clear hb hbox hg; have hnb29 := NB576_572.out; have hnc29 := NB572_576.out; refine ci4 BK576 ?_; intros) | ((with_reducible refine gate_callee (f := 53) rfl ?_); refine gZ 30 Try.func53 #[.int .i64 ((rd_T39 l0_2 x24_2).f3), .int .i64 0, .int .i64 11] ?_; (with_reducible refine (impl_within.calls ((rd_T39 l0_2 x24_2).f3) 0 11 true _ A24.out).mono ?_); rintro e w' ⟨rfl, ⟨nd, rfl⟩⟩; refine ⟨_, rfl, ?_⟩; refine ci3 BK572 ?_; intros) | (go_at_call 70; (with_reducible refine (impl_firedAt.calls k2 _ _ l0_0 _ _ l0_1 _ _ l0_2 ((rd_T39 l0_2 x24_2).f0) ((rd_T39 l0_2 x24_2).f1) ((rd_T39 l0_2 x24_2).f2) ((rd_T39 l0_2 x24_2).f3) t578 _ ?_ ?_ ?_ ?_ ?_ ?_ A26.out).mono ?_); exact Kd.C_below HR0_0.out (Zw GE572 GE576); exact HC0_0.out; exact Kd.C_below HR0_1.out (Zw GE572 GE576); exact HC0_1.out; exact Kd.C_below HR0_2.out (Zw GE572 GE576); exact HC0_2.out; rintro e w32 ⟨rfl, hb⟩; replace BK572 := am_ (blk_below (g := gb572) (bfZ BK572 NB572_576) hb); replace BK576 := am_ (blk_below (g := gb576) (o := .cells #[.int .i64 ((rd_T39 l0_2 x24_2).f0), .int .i64 ((rd_T39 l0_2 x24_2).f1), .string ((rd_T39 l0_2 x24_2).f2), .int .i64 ((rd_T39 l0_2 x24_2).f3)] 39 (0, 0)) (bpZ BK576) hb); replace HB := (bsZ (Zw GE572 GE576) hb); clear hb; refine ?roundEnd))
          case roundEnd =>
           by_cases c27 : t578 < 0
           ·have H := HS_.out
            clear HS_; rw [if_pos c27] at H; have c27b0 := decide_eq_true c27; clear c27; obtain rfl := Option.some.inj H
            go_wp2_with (first | fail)
            go_ret
            exact ⟨Zl, (Zw GE572 GE576)⟩
           ·have H := HS_.out
            clear HS_; rw [if_neg c27] at H; have c27b0 := decide_eq_false c27; clear c27; have H' := am_ H; clear H
            go_wp2_with (first | fail)
            go_roundg k2
            case measure => have := HJ1.out; have := HK2.out; omega
            case rel => exact ⟨(wrap64 (x24_2 + 1)), Za, H', ⟨by have := HJ1.out; have := HK2.out; omega⟩, ⟨(Zh BK572)⟩, ⟨(Zw GE572 GE576)⟩⟩
         ·replace c25 := Bool.eq_false_iff.mpr c25
          subst c25; rw [if_neg (show ¬ (false = true) by decide)] at H; obtain rfl := Option.some.inj H; have p575 : 0 ≤ (x24_2 : Int) := of_decide_eq_true Zc; have q575 : x24_2 < (l0_2.length : Int) := of_decide_eq_true Zc; obtain ⟨ad575, e575, hx575_0, hx575_1, hx575_2, hx575_3⟩ := at_T39 HR0_2.out x24_2 p575 q575
          cases e575
          replace hx575_0 := cbH HB hx575_0; replace hx575_1 := cbH HB hx575_1; replace hx575_2 := cbH HB hx575_2; replace hx575_3 := cbH HB hx575_3; replace p575 := eq_true p575; replace q575 := eq_true q575
          go_wp2_with (first | ((with_reducible refine gate_dst (N := 4) rfl ?_); (try (refine gate_guard (by rfl) ?_; dsimp only)); refine boxZ 4 #[.int .i64 0, .int .i64 0, .string (⟨#[]⟩ : ByteArray), .int .i64 0] 39 ?_; intro gb576 hg w38 hbox hb; replace BK576 := am_ (hbox); replace GW576 := am_ (((Zt GE572) : w.heap.size ≤ gb576)); replace GE576 := GW576; replace HB := (bsZ (Zi GE572) hb); replace NB572_576 := am_ ((by rw [hg]; exact Nat.ne_of_lt (blk_lt (g := gb572) (b0Z BK572)) : gb572 ≠ gb576)); replace NB576_572 := am_ ((by rw [hg]; exact Nat.ne_of_gt (blk_lt (g := gb572) (b0Z BK572)) : gb576 ≠ gb572)); replace BK572 := (bkZ BK572 hb); clear hb hbox hg; have hnb39 := NB576_572.out; have hnc39 := NB572_576.out; refine ci4 BK576 ?_; intros) | ((with_reducible refine gate_callee (f := 53) rfl ?_); refine gZ 30 Try.func53 #[.int .i64 ((rd_T39 l0_2 x24_2).f3), .int .i64 0, .int .i64 11] ?_; (with_reducible refine (impl_within.calls ((rd_T39 l0_2 x24_2).f3) 0 11 false _ A24.out).mono ?_); rintro e w' ⟨rfl, ⟨nd, rfl⟩⟩; refine ⟨_, rfl, ?_⟩))
          go_ret
          exact ⟨Zl, (Zw GE572 GE576)⟩
        ·rw [if_neg c23] at H
         exact absurd H (by simp)
       ·rw [if_neg c22] at H
        exact absurd H (by simp)
      ·rw [if_neg c21] at H
       have c21b0 := decide_eq_false c21; clear c21; obtain rfl := Option.some.inj H
       go_wp2
       go_ret
       exact ⟨Zl, (Zi GE572)⟩
def impl_articleFor.f (k : Nat) (l0_0 : List (S104)) (l0_1 : List (S62)) (l0_2 : List (S39)) (a1_0 : Int) (a1_1 : Int) (a1_2 : ByteArray) (a1_3 : Int) : Option (ByteArray × Int × Int × Int × Int × Int × Int × Int × Int) := (impl_articleOf.f k l0_1 a1_2).bind fun t1004 => (if 0 ≤ t1004 then (if t1004 < (l0_1.length : Int) then (some ((rd_T62 l0_1 t1004).f0, (rd_T62 l0_1 t1004).f1, (rd_T62 l0_1 t1004).f2, (rd_T62 l0_1 t1004).f3, (rd_T62 l0_1 t1004).f4, (rd_T62 l0_1 t1004).f5, (rd_T62 l0_1 t1004).f6, (rd_T62 l0_1 t1004).f7, (rd_T62 l0_1 t1004).f8)) else (none)) else (none))
def impl_articleFor.T1 : Bool × List (List Nat × List Nat) := (true, [([], []), ([0], [0]), ([], []), ([2], [2]), ([], []), ([4], [4]), ([3, 5], [3, 5]), ([1, 6], [1, 6]), ([7], [7]), ([8, 6, 0, 1, 2, 3, 4, 5, 6, 7, 8], [8])])
def impl_articleFor.B1 : List Nat := [0, 1, 0, 4, 0, 16, 60, 127, 255, 511]
theorem impl_articleFor.tab1 : rtab .any (opsOf Try.f80 1) = impl_articleFor.T1 := by kernel_rfl
theorem impl_articleFor.bits1 : waitsOk impl_articleFor.T1.2 impl_articleFor.B1 = true := by kernel_rfl
set_option maxHeartbeats 8000000 in
set_option maxRecDepth 100000 in
theorem impl_articleFor.calls (k : Nat) (A0_0 : Option Addr) (c0_0 : Nat) (l0_0 : List (S104)) (A0_1 : Option Addr) (c0_1 : Nat) (l0_1 : List (S62)) (A0_2 : Option Addr) (c0_2 : Nat) (l0_2 : List (S39)) (a1_0 : Int) (a1_1 : Int) (a1_2 : ByteArray) (a1_3 : Int) (r1 : ByteArray) (r2 : Int) (r3 : Int) (r4 : Int) (r5 : Int) (r6 : Int) (r7 : Int) (r8 : Int) (r9 : Int) (w : World) (hr0_0 : Kd.C k104 w A0_0 l0_0.length l0_0) (hc0_0 : l0_0.length ≤ c0_0) (hr0_1 : Kd.C k62 w A0_1 l0_1.length l0_1) (hc0_1 : l0_1.length ≤ c0_1) (hr0_2 : Kd.C k39 w A0_2 l0_2.length l0_2) (hc0_2 : l0_2.length ≤ c0_2) (h : impl_articleFor.f k l0_0 l0_1 l0_2 a1_0 a1_1 a1_2 a1_3 = some (r1, r2, r3, r4, r5, r6, r7, r8, r9)) :
  Calls Try.prog 80 #[.agg #[.slice A0_0 l0_0.length c0_0, .slice A0_1 l0_1.length c0_1, .slice A0_2 l0_2.length c0_2], .agg #[.int .i64 a1_0, .int .i64 a1_1, .string a1_2, .int .i64 a1_3]] w fun e w' => e = .returned (.agg #[.string r1, .int .i64 r2, .int .i64 r3, .int .i64 r4, .int .i64 r5, .int .i64 r6, .int .i64 r7, .int .i64 r8, .int .i64 r9]) ∧ Below w.heap.size w w' := by
 have hu28 := Try.underlying28; have hu39 := Try.underlying39; have hu62 := Try.underlying62; have HR0_0 := am_ hr0_0; have HC0_0 := am_ hc0_0; clear hr0_0 hc0_0; have HR0_1 := am_ hr0_1; have HC0_1 := am_ hc0_1; clear hr0_1 hc0_1; have HR0_2 := am_ hr0_2; have HC0_2 := am_ hc0_2; clear hr0_2 hc0_2; have HB := am_ (Below.refl w.heap.size w); have H : ((impl_articleOf.f k l0_1 a1_2).bind fun t1004 => (if 0 ≤ t1004 then (if t1004 < (l0_1.length : Int) then (some ((rd_T62 l0_1 t1004).f0, (rd_T62 l0_1 t1004).f1, (rd_T62 l0_1 t1004).f2, (rd_T62 l0_1 t1004).f3, (rd_T62 l0_1 t1004).f4, (rd_T62 l0_1 t1004).f5, (rd_T62 l0_1 t1004).f6, (rd_T62 l0_1 t1004).f7, (rd_T62 l0_1 t1004).f8)) else (none)) else (none))) = some (r1, r2, r3, r4, r5, r6, r7, r8, r9) := h; clear h; replace H := Option.bind_eq_some_iff.mp H; obtain ⟨t1004, A30, H⟩ := H; have A3 := am_ A30; clear A30
 by_cases c4 : 0 ≤ t1004
 ·rw [if_pos c4] at H
  have c4b0 := decide_eq_true c4; clear c4
  by_cases c5 : t1004 < (l0_1.length : Int)
  ·rw [if_pos c5] at H
   have c5b0 := decide_eq_true c5; clear c5; simp only [Option.some.injEq, Prod.mk.injEq] at H; obtain ⟨rfl, rfl, rfl, rfl, rfl, rfl, rfl, rfl, rfl⟩ := H
   go_enter Try.func80, Try.ntmps80
   try go_wp2_with (first | ((with_reducible refine gate_dst (N := 2) rfl ?_); refine boxZ 2 #[.slice A0_0 l0_0.length c0_0, .slice A0_1 l0_1.length c0_1, .slice A0_2 l0_2.length c0_2] 28 ?_; intro gb1001 hg w6 hbox hb; replace BK1001 := am_ (hbox); replace GW1001 := am_ ((Zr : w.heap.size ≤ gb1001)); replace GE1001 := GW1001; replace HB := (bsZ Zf hb); clear hb hbox hg) | ((with_reducible refine gate_dst (N := 3) rfl ?_); refine boxZ 3 #[.int .i64 a1_0, .int .i64 a1_1, .string a1_2, .int .i64 a1_3] 39 ?_; intro gb1002 hg w7 hbox hb; replace BK1002 := am_ (hbox); replace GW1002 := am_ (((Zt GE1001) : w.heap.size ≤ gb1002)); replace GE1002 := GW1002; replace HB := (bsZ (Zi GE1001) hb); replace NB1001_1002 := am_ ((by rw [hg]; exact Nat.ne_of_lt (blk_lt (g := gb1001) (b0Z BK1001)) : gb1001 ≠ gb1002)); replace NB1002_1001 := am_ ((by rw [hg]; exact Nat.ne_of_gt (blk_lt (g := gb1001) (b0Z BK1001)) : gb1002 ≠ gb1001)); replace BK1001 := (bkZ BK1001 hb); clear hb hbox hg) | ((with_reducible refine gate_dst (N := 4) rfl ?_); refine boxZ 4 #[.string (⟨#[]⟩ : ByteArray), .int .i64 0, .int .i64 0, .int .i64 0, .int .i64 0, .int .i64 0, .int .i64 0, .int .i64 0, .int .i64 0] 62 ?_; intro gb1003 hg w8 hbox hb; replace BK1003 := am_ (hbox); replace GW1003 := am_ (((Zae GE1001 GE1002) : w.heap.size ≤ gb1003)); replace GE1003 := GW1003; replace HB := (bsZ (Zw GE1001 GE1002) hb); replace NB1001_1003 := am_ ((by rw [hg]; exact Nat.ne_of_lt (blk_lt (g := gb1001) (b0Z BK1001)) : gb1001 ≠ gb1003)); replace NB1003_1001 := am_ ((by rw [hg]; exact Nat.ne_of_gt (blk_lt (g := gb1001) (b0Z BK1001)) : gb1003 ≠ gb1001)); replace BK1001 := (bkZ BK1001 hb); replace NB1002_1003 := am_ ((by rw [hg]; exact Nat.ne_of_lt (blk_lt (g := gb1002) (b0Z BK1002)) : gb1002 ≠ gb1003)); replace NB1003_1002 := am_ ((by rw [hg]; exact Nat.ne_of_gt (blk_lt (g := gb1002) (b0Z BK1002)) : gb1003 ≠ gb1002)); replace BK1002 := (bkZ BK1002 hb); clear hb hbox hg))
   replace BK1001 := am_ (blk_drew BK1001.out); replace BK1002 := am_ (blk_drew BK1002.out); replace BK1003 := am_ (blk_drew BK1003.out); replace HB := am_ (below_drew1 HB.out); have p1005 : 0 ≤ (t1004 : Int) := of_decide_eq_true Zc; have q1005 : t1004 < (l0_1.length : Int) := of_decide_eq_true Zc; obtain ⟨ad1005, e1005, hx1005_0, hx1005_1, hx1005_2, hx1005_3, hx1005_4, hx1005_5, hx1005_6, hx1005_7, hx1005_8⟩ := at_T62 HR0_1.out t1004 p1005 q1005; have hw1005_8 := hx1005_8; have hw1005_7 := hx1005_7; have hw1005_6 := hx1005_6; have hw1005_5 := hx1005_5; have hw1005_4 := hx1005_4; have hw1005_3 := hx1005_3; have hw1005_2 := hx1005_2; have hw1005_1 := hx1005_1; have hw1005_0 := hx1005_0
   cases e1005
   replace hx1005_0 := cbH HB hx1005_0; replace hx1005_1 := cbH HB hx1005_1; replace hx1005_2 := cbH HB hx1005_2; replace hx1005_3 := cbH HB hx1005_3; replace hx1005_4 := cbH HB hx1005_4; replace hx1005_5 := cbH HB hx1005_5; replace hx1005_6 := cbH HB hx1005_6; replace hx1005_7 := cbH HB hx1005_7; replace hx1005_8 := cbH HB hx1005_8; replace p1005 := eq_true p1005; replace q1005 := eq_true q1005; refine start_ (n := 10) (S := fun w' => w'.cell? ⟨gb1001, 0, none⟩ = some (.slice A0_0 l0_0.length c0_0) ∧ w'.cell? ⟨gb1001, 1, none⟩ = some (.slice (some ad1005) l0_1.length c0_1) ∧ w'.cell? ⟨gb1001, 2, none⟩ = some (.slice A0_2 l0_2.length c0_2) ∧ w'.cell? ⟨gb1002, 0, none⟩ = some (.int .i64 a1_0) ∧ w'.cell? ⟨gb1002, 1, none⟩ = some (.int .i64 a1_1) ∧ w'.cell? ⟨gb1002, 2, none⟩ = some (.string a1_2) ∧ w'.cell? ⟨gb1002, 3, none⟩ = some (.int .i64 a1_3) ∧ w'.cell? (ad1005.add ((t1004).toNat * 9)) = some (.string ((rd_T62 l0_1 t1004).f0)) ∧ w'.cell? ⟨(ad1005.add ((t1004).toNat * 9)).block, (ad1005.add ((t1004).toNat * 9)).off + 1, none⟩ = some (.int .i64 ((rd_T62 l0_1 t1004).f1)) ∧ w'.cell? ⟨(ad1005.add ((t1004).toNat * 9)).block, (ad1005.add ((t1004).toNat * 9)).off + 2, none⟩ = some (.int .i64 ((rd_T62 l0_1 t1004).f2)) ∧ w'.cell? ⟨(ad1005.add ((t1004).toNat * 9)).block, (ad1005.add ((t1004).toNat * 9)).off + 3, none⟩ = some (.int .i64 ((rd_T62 l0_1 t1004).f3)) ∧ w'.cell? ⟨(ad1005.add ((t1004).toNat * 9)).block, (ad1005.add ((t1004).toNat * 9)).off + 4, none⟩ = some (.int .i64 ((rd_T62 l0_1 t1004).f4)) ∧ w'.cell? ⟨(ad1005.add ((t1004).toNat * 9)).block, (ad1005.add ((t1004).toNat * 9)).off + 5, none⟩ = some (.int .i64 ((rd_T62 l0_1 t1004).f5)) ∧ w'.cell? ⟨(ad1005.add ((t1004).toNat * 9)).block, (ad1005.add ((t1004).toNat * 9)).off + 6, none⟩ = some (.int .i64 ((rd_T62 l0_1 t1004).f6)) ∧ w'.cell? ⟨(ad1005.add ((t1004).toNat * 9)).block, (ad1005.add ((t1004).toNat * 9)).off + 7, none⟩ = some (.int .i64 ((rd_T62 l0_1 t1004).f7)) ∧ w'.cell? ⟨(ad1005.add ((t1004).toNat * 9)).block, (ad1005.add ((t1004).toNat * 9)).off + 8, none⟩ = some (.int .i64 ((rd_T62 l0_1 t1004).f8))) (ds := []) (bT 10 0) Zk rfl rfl ⟨(blk_cell BK1001.out 0).trans rfl, (blk_cell BK1001.out 1).trans rfl, (blk_cell BK1001.out 2).trans rfl, (blk_cell BK1002.out 0).trans rfl, (blk_cell BK1002.out 1).trans rfl, (blk_cell BK1002.out 2).trans rfl, (blk_cell BK1002.out 3).trans rfl, (cbH HB hw1005_0 :), (cbH HB hw1005_1 :), (cbH HB hw1005_2 :), (cbH HB hw1005_3 :), (cbH HB hw1005_4 :), (cbH HB hw1005_5 :), (cbH HB hw1005_6 :), (cbH HB hw1005_7 :), (cbH HB hw1005_8 :)⟩ (fun hHeld => ?_); refine with_tabW impl_articleFor.tab1 impl_articleFor.bits1 (fun HT_ HW_ => ?_); generalize w8.drew = w9 at BK1001 BK1002 BK1003 HB hx1005_0 hx1005_1 hx1005_2 hx1005_3 hx1005_4 hx1005_5 hx1005_6 hx1005_7 hx1005_8 hHeld ⊢; refine pureZ HT_ 0 (some 5) (bT 10 1) ?_; refine pureZ HT_ 2 (some 7) (bB 10 5) ?_; refine pureZ HT_ 4 (some 9) (bB 10 21) ?_; refine takeZ16 HT_ HW_ 1 (some 6) (bB 10 23) hHeld ?_; refine takeZ16 HT_ HW_ 3 (some 8) (bT 10 5) hHeld ?_
   refine takeZ16 HT_ HW_ 5 (some 10) (bT 10 6) hHeld ?_; refine one_ (i := 6) (N := some 11) (bT 10 7) rfl rfl (one_of HT_.out Zk) (by decide) (fun K hK => ?_); refine goes_ Try.func63 Zk rfl #[.slice (some ad1005) l0_1.length c0_1, .string a1_2] (by rfl) rfl rfl Zs ?_
   with_reducible refine (impl_articleOf.calls k _ _ l0_1 a1_2 t1004 _ ?side1 ?side2 A3.out).mono ?_
   (case side1 => exact (Zu HR0_1))
   (case side2 => exact HC0_1.out)
   rintro e w10 ⟨rfl, hb⟩; refine ⟨_, rfl, ?_⟩; replace BK1001 := (bkZ BK1001 hb); replace BK1002 := (bkZ BK1002 hb); replace BK1003 := (bkZ BK1003 hb); replace HB := (bsZ (Zah GE1001 GE1002 GE1003) hb)
   (try clear hb)
   (try clear hb2)
   (try clear hk)
   (try clear hi)
   refine hK.out _ _ (Zcm BK1001 BK1002 hw1005_0 hw1005_1 hw1005_2 hw1005_3 hw1005_4 hw1005_5 hw1005_6 hw1005_7 hw1005_8) (fun hHeld => ?_); clear hK K; refine normZ 11 ?_; refine pureZ HT_ 7 (some 12) (bT 10 8) ?_; refine takeZ16 HT_ HW_ 8 (some 13) (bT 10 9) hHeld ?_; refine one_ (i := 9) (N := none) (bT 10 10) rfl rfl (one_of HT_.out Zk) (by decide) (fun K hK => ?_); have hs11 : w10.cell? ⟨gb1003, 0, none⟩ = some (.string (⟨#[]⟩ : ByteArray)) := (blk_cell BK1003.out 0).trans rfl; have hfs11 := blk_frozen BK1003.out 0; have hns11_0 := NB1001_1003.out; have hns11_1 := NB1002_1003.out; have hms11_0 := NB1003_1001.out; have hms11_1 := NB1003_1002.out; have hs12 : w10.cell? ⟨gb1003, 1, none⟩ = some (.int .i64 0) := (blk_cell BK1003.out 1).trans rfl; have hfs12 := blk_frozen BK1003.out 1; have hns12_0 := NB1001_1003.out; have hns12_1 := NB1002_1003.out; have hms12_0 := NB1003_1001.out; have hms12_1 := NB1003_1002.out; have hs13 : w10.cell? ⟨gb1003, 2, none⟩ = some (.int .i64 0) := (blk_cell BK1003.out 2).trans rfl; have hfs13 := blk_frozen BK1003.out 2; have hns13_0 := NB1001_1003.out; have hns13_1 := NB1002_1003.out; have hms13_0 := NB1003_1001.out; have hms13_1 := NB1003_1002.out; have hs14 : w10.cell? ⟨gb1003, 3, none⟩ = some (.int .i64 0) := (blk_cell BK1003.out 3).trans rfl; have hfs14 := blk_frozen BK1003.out 3; have hns14_0 := NB1001_1003.out; have hns14_1 := NB1002_1003.out; have hms14_0 := NB1003_1001.out; have hms14_1 := NB1003_1002.out; have hs15 : w10.cell? ⟨gb1003, 4, none⟩ = some (.int .i64 0) := (blk_cell BK1003.out 4).trans rfl; have hfs15 := blk_frozen BK1003.out 4; have hns15_0 := NB1001_1003.out; have hns15_1 := NB1002_1003.out; have hms15_0 := NB1003_1001.out; have hms15_1 := NB1003_1002.out; have hs16 : w10.cell? ⟨gb1003, 5, none⟩ = some (.int .i64 0) := (blk_cell BK1003.out 5).trans rfl; have hfs16 := blk_frozen BK1003.out 5; have hns16_0 := NB1001_1003.out; have hns16_1 := NB1002_1003.out; have hms16_0 := NB1003_1001.out; have hms16_1 := NB1003_1002.out; have hs17 : w10.cell? ⟨gb1003, 6, none⟩ = some (.int .i64 0) := (blk_cell BK1003.out 6).trans rfl; have hfs17 := blk_frozen BK1003.out 6; have hns17_0 := NB1001_1003.out; have hns17_1 := NB1002_1003.out; have hms17_0 := NB1003_1001.out; have hms17_1 := NB1003_1002.out; have hs18 : w10.cell? ⟨gb1003, 7, none⟩ = some (.int .i64 0) := (blk_cell BK1003.out 7).trans rfl; have hfs18 := blk_frozen BK1003.out 7; have hns18_0 := NB1001_1003.out; have hns18_1 := NB1002_1003.out; have hms18_0 := NB1003_1001.out; have hms18_1 := NB1003_1002.out; have hs19 : w10.cell? ⟨gb1003, 8, none⟩ = some (.int .i64 0) := (blk_cell BK1003.out 8).trans rfl; have hfs19 := blk_frozen BK1003.out 8; have hns19_0 := NB1001_1003.out; have hns19_1 := NB1002_1003.out; have hms19_0 := NB1003_1001.out; have hms19_1 := NB1003_1002.out; refine skip_ (w1 := ?_) (by rfl) rfl ?_ ?_; rotate_left
   ·go_simp
    rfl
   refine hK.out _ _ ⟨(cg1 (hHeld.1) NB1001_1003), (cg1 (hHeld.2.1) NB1001_1003), (cg1 (hHeld.2.2.1) NB1001_1003), (cg1 (hHeld.2.2.2.1) NB1002_1003), (cg1 (hHeld.2.2.2.2.1) NB1002_1003), (cg1 (hHeld.2.2.2.2.2.1) NB1002_1003), (cg1 (hHeld.2.2.2.2.2.2.1) NB1002_1003), (cfZ gb1003 (hHeld.2.2.2.2.2.2.2.1) (Zcn hw1005_0 GW1003)), (cfZ gb1003 (hHeld.2.2.2.2.2.2.2.2.1) (Zcn hw1005_1 GW1003)), (cfZ gb1003 (hHeld.2.2.2.2.2.2.2.2.2.1) (Zcn hw1005_2 GW1003)), (cfZ gb1003 (hHeld.2.2.2.2.2.2.2.2.2.2.1) (Zcn hw1005_3 GW1003)), (cfZ gb1003 (hHeld.2.2.2.2.2.2.2.2.2.2.2.1) (Zcn hw1005_4 GW1003)), (cfZ gb1003 (hHeld.2.2.2.2.2.2.2.2.2.2.2.2.1) (Zcn hw1005_5 GW1003)), (cfZ gb1003 (hHeld.2.2.2.2.2.2.2.2.2.2.2.2.2.1) (Zcn hw1005_6 GW1003)), (cfZ gb1003 (hHeld.2.2.2.2.2.2.2.2.2.2.2.2.2.2.1) (Zcn hw1005_7 GW1003)), (cfZ gb1003 (hHeld.2.2.2.2.2.2.2.2.2.2.2.2.2.2.2) (Zcn hw1005_8 GW1003))⟩ (fun hHeld => ?_); clear hK K; refine done_ (done_of HT_.out Zk) ?_
   try go_wp2
   refine bodyPost_ret (results_cell_row rfl _ _ gb1003 62 #[.string ((rd_T62 l0_1 t1004).f0), .int .i64 ((rd_T62 l0_1 t1004).f1), .int .i64 ((rd_T62 l0_1 t1004).f2), .int .i64 ((rd_T62 l0_1 t1004).f3), .int .i64 ((rd_T62 l0_1 t1004).f4), .int .i64 ((rd_T62 l0_1 t1004).f5), .int .i64 ((rd_T62 l0_1 t1004).f6), .int .i64 ((rd_T62 l0_1 t1004).f7), .int .i64 ((rd_T62 l0_1 t1004).f8)] (0, 0) _ rfl (bpZ BK1003) Try.underlying62 rfl Zk) rfl ?_; exact ⟨Zl, (Zah GE1001 GE1002 GE1003)⟩
  ·rw [if_neg c5] at H
   exact absurd H (by simp)
 ·rw [if_neg c4] at H
  exact absurd H (by simp)
def impl_shotWindows.l0 : Nat → Int → List (List Int) → Int → ByteArray → Int → Int → Int → Int → Int → Int → Int → Int → Option ((List (List Int)))
 | 0, _, _, _, _, _, _, _, _, _, _, _, _ => none
 | k + 1, x1, x5, x6, x1007000, x1007001, x1007002, x1007003, x1007004, x1007005, x1007006, x1007007, x1007008 => if x6 < x1007005 then (if x5.length < 5864062014805 then (impl_shotWindows.l0 k x1 (x5 ++ [(([wrap64 ((wrap64 ((wrap64 (x1 + x1007003)) + (wrap64 (x6 * x1007006)))) - x1007004), wrap64 ((wrap64 ((wrap64 (x1 + x1007003)) + (wrap64 (x6 * x1007006)))) + x1007004)] : List Int))]) (wrap64 (x6 + 1)) x1007000 x1007001 x1007002 x1007003 x1007004 x1007005 x1007006 x1007007 x1007008) else (none)) else (some x5)
def impl_shotWindows.f (k : Nat) (a0_0 : ByteArray) (a0_1 : Int) (a0_2 : Int) (a0_3 : Int) (a0_4 : Int) (a0_5 : Int) (a0_6 : Int) (a0_7 : Int) (a0_8 : Int) (a1 : Int) : Option ((List (List Int))) := impl_shotWindows.l0 k a1 ([] : List (List Int)) 0 a0_0 a0_1 a0_2 a0_3 a0_4 a0_5 a0_6 a0_7 a0_8
set_option maxHeartbeats 8000000 in
set_option maxRecDepth 100000 in
theorem impl_shotWindows.calls (k : Nat) (a0_0 : ByteArray) (a0_1 : Int) (a0_2 : Int) (a0_3 : Int) (a0_4 : Int) (a0_5 : Int) (a0_6 : Int) (a0_7 : Int) (a0_8 : Int) (a1 : Int) (r : List (List Int)) (w : World) (h : impl_shotWindows.f k a0_0 a0_1 a0_2 a0_3 a0_4 a0_5 a0_6 a0_7 a0_8 a1 = some r) :
  Calls Try.prog 92 #[.agg #[.string a0_0, .int .i64 a0_1, .int .i64 a0_2, .int .i64 a0_3, .int .i64 a0_4, .int .i64 a0_5, .int .i64 a0_6, .int .i64 a0_7, .int .i64 a0_8], .int .i64 a1] w fun e w' => ∃ v0_ : Value, e = .returned (v0_) ∧ Kd.S (Kd.slice 2 (Kd.int .i64)) 33 w' w.heap.size (fun _ => True) v0_ r ∧ Below w.heap.size w w' := by
 have hu62 := Try.underlying62; have HB := am_ (Below.refl w.heap.size w); have H : (impl_shotWindows.l0 k a1 ([] : List (List Int)) 0 a0_0 a0_1 a0_2 a0_3 a0_4 a0_5 a0_6 a0_7 a0_8) = some r := h; clear h; have H' := am_ H; clear H
 go_enter Try.func92, Try.ntmps92
 go_wp2_with (first | ((with_reducible refine gate_dst (N := 2) rfl ?_); refine boxZ 2 #[.string a0_0, .int .i64 a0_1, .int .i64 a0_2, .int .i64 a0_3, .int .i64 a0_4, .int .i64 a0_5, .int .i64 a0_6, .int .i64 a0_7, .int .i64 a0_8] 62 ?_; intro gb1006 hg w3 hbox hb; replace BK1006 := am_ (hbox); replace GW1006 := am_ ((Zr : w.heap.size ≤ gb1006)); replace GE1006 := GW1006; replace HB := (bsZ Zf hb); clear hb hbox hg))
 go_loopg [5, 6] k (fun kq v5 v6 w' => ∃ (x5_1 : List (List Int)) (x6_1 : Int), v6 = .int .i64 x6_1 ∧ Aside0 (impl_shotWindows.l0 kq a1 x5_1 x6_1 a0_0 a0_1 a0_2 a0_3 a0_4 a0_5 a0_6 a0_7 a0_8 = some r) ∧ Aside0 (kq ≤ k) ∧ Aside0 (Kd.S (Kd.slice 2 (Kd.int .i64)) 33 w' w.heap.size (fun _ => True) v5 x5_1) ∧ Aside0 (w'.heap[gb1006]? = some (.cells #[.string a0_0, .int .i64 a0_1, .int .i64 a0_2, .int .i64 a0_3, .int .i64 a0_4, .int .i64 a0_5, .int .i64 a0_6, .int .i64 a0_7, .int .i64 a0_8] 62 (0, 0))) ∧ Aside0 (Below w.heap.size w w'))
 case atStart => exact ⟨(([] : List (List Int))), (0), Za, H', ⟨Nat.le_refl _⟩, ⟨Zco⟩, ⟨(Zh BK1006)⟩, ⟨(Zi GE1006)⟩⟩
 case round =>
  clear H'
  try clear p2
  obtain ⟨x5_1, x6_1, rfl, HA, HK1, HO_5, BK1006, HB⟩ := hrel
  cases gk with
  | zero => exact absurd HA.out (by simp [impl_shotWindows.l0])
  | succ k1 =>
   have H := HA.out; clear HA; simp only [impl_shotWindows.l0] at H
   by_cases c4 : x6_1 < a0_5
   ·rw [if_pos c4] at H
    have c4b0 := decide_eq_true c4; clear c4; obtain ⟨y1007, hy1007⟩ : ∃ y_ : List Int, y_ = (([wrap64 ((wrap64 ((wrap64 (a1 + a0_3)) + (wrap64 (x6_1 * a0_6)))) - a0_4), wrap64 ((wrap64 ((wrap64 (a1 + a0_3)) + (wrap64 (x6_1 * a0_6)))) + a0_4)] : List Int)) := ⟨_, rfl⟩
    (first | (rw [← hy1007] at H; with_reducible replace H := bindZ H) | rw [← hy1007] at H | skip)
    have Ny1007 := am_ hy1007; clear hy1007
    by_cases c5 : x5_1.length < 5864062014805
    ·rw [if_pos c5] at H
     have LMc5 := am_ c5; clear c5; obtain ⟨y1010, hy1010⟩ : ∃ y_ : List (List Int), y_ = (x5_1 ++ [y1007]) := ⟨_, rfl⟩
     (first | (rw [← hy1010] at H; with_reducible replace H := bindZ H) | rw [← hy1010] at H | skip)
     have Ny1010 := am_ hy1010; clear hy1010; have H' := am_ H; clear H; refine ci9 BK1006 ?_; intros
     go_wp2_with (first | ((with_reducible refine gate_dst (N := 32) rfl ?_); refine Kd.R_lit (Kd.int .i64) _ 2 ?hg (N := 32) ?hd (xs := ([wrap64 ((wrap64 ((wrap64 (a1 + a0_3)) + (wrap64 (x6_1 * a0_6)))) - a0_4), wrap64 ((wrap64 ((wrap64 (a1 + a0_3)) + (wrap64 (x6_1 * a0_6)))) + a0_4)] : List Int)) (inner := [.int .i64 (wrap64 ((wrap64 ((wrap64 (a1 + a0_3)) + (wrap64 (x6_1 * a0_6)))) - a0_4)), .int .i64 (wrap64 ((wrap64 ((wrap64 (a1 + a0_3)) + (wrap64 (x6_1 * a0_6)))) + a0_4))]) (ok := fun _ => True) (okp := fun _ => True) ?hr ?hp (fun _ hk => hk) trivial (Below.refl _ _) (Nat.le_refl _) (by simp) ?_; (case hd => rfl); (case hg => rfl); (case hr => first | (go_simp; done) | (go_simp; rfl)); (case hp => exact (Reps.one (show Kd.M (Kd.int .i64) _ _ _ (wrap64 ((wrap64 ((wrap64 (a1 + a0_3)) + (wrap64 (x6_1 * a0_6)))) - a0_4)) [.int .i64 (wrap64 ((wrap64 ((wrap64 (a1 + a0_3)) + (wrap64 (x6_1 * a0_6)))) - a0_4))] from rfl) (Reps.one (show Kd.M (Kd.int .i64) _ _ _ (wrap64 ((wrap64 ((wrap64 (a1 + a0_3)) + (wrap64 (x6_1 * a0_6)))) + a0_4)) [.int .i64 (wrap64 ((wrap64 ((wrap64 (a1 + a0_3)) + (wrap64 (x6_1 * a0_6)))) + a0_4))] from rfl) (Reps.none _ _)))); intro v1008 w7 ho8 hb hg_ hnew_; clear hg_ hnew_; (first | rw [← Ny1007.out] at ho8 | (simp only [Int.reduceToNat] at ho8; rw [← Ny1007.out] at ho8)); replace HO_5 := am_ (Kd.S_elder' (Zcp HO_5) (Kd.R_base ho8) hb); replace HO1009 := am_ (Kd.R_lower ho8 (below_size (Zi GE1006))); replace BK1006 := (bkZ BK1006 hb); replace HB := (bsZ (Zi GE1006) hb); clear hb ho8; obtain ⟨Ao10, co10, eo10⟩ := Kd.R_slice HO1009.out; subst eo10) | ((with_reducible refine gate_builtin (b := .append) (xs := #[.tmp 23, .tmp 33]) rfl ?_); at_builtin; refine Kd.S_append (Kd.slice 2 (Kd.int .i64)) (w0 := w) w.heap.size rfl (.tmp 23) (.tmp 33) 51 33 (.slice none 0 0) 24 rfl Try.underlying51 info33 rfl (by decide) (by omega) u5 x5_1 y1007 [.slice Ao10 y1007.length co10] (fun _ => True) (fun k_ => some k_ = (.slice Ao10 y1007.length co10 : Value).ownBlock) rfl rfl ?aP (fun k_ hk_ => ((Kd.R_mono (ok' := fun k_ => ((fun _ => True)) k_ ∧ some k_ ≠ (u5 : Value).ownBlock) (Kd.R_apart' (HO1009.out) (Kd.S_typed HO_5.out) (by decide)) (fun k_ hk => ⟨trivial, hk.2⟩))).1 k_ hk_.symm) ?aF ?aO ?aB ?aS ?aL ?_; (case aP => exact Kd.M_row (Kd.R_mono (Kd.R_tight rfl (Kd.R_mono (ok' := fun k_ => ((fun _ => True)) k_ ∧ some k_ ≠ (u5 : Value).ownBlock) (Kd.R_apart' (HO1009.out) (Kd.S_typed HO_5.out) (by decide)) (fun k_ hk => ⟨trivial, hk.2⟩))) (fun _ h_ => h_))); (case aB => exact (Zi GE1006)); (case aF => exact (fun _ _ => trivial)); (case aO => exact (by (with_reducible repeat (first | apply Kd.S_alloc | apply Kd.S_drewN | apply Kd.S_drew)); exact Kd.S_mono HO_5.out (fun k_ hk => ⟨trivial, fun e_ => hk.2 e_⟩))); (case aS => exact (below_size (Zi GE1006))); (case aL => have := LMc5.out; omega); intro v1011 w9 ho hb hg hat; rw [← Ny1010.out] at ho; replace BK1006 := am_ (blk_grown (g := gb1006) (b0Z BK1006) hg (Kd.S_ne HO_5.out BK1006.out (by decide))); replace HB := am_ (hb); replace HO1012 := am_ (ho); clear HO_5 HO1009; clear ho hb hg hat))
     go_roundg k1
     case measure => have := HK1.out; omega
     case rel => exact ⟨(y1010), (wrap64 (x6_1 + 1)), Za, H', ⟨Zd⟩, ⟨(Zcp HO1012)⟩, ⟨(Zh BK1006)⟩, ⟨(Zi GE1006)⟩⟩
    ·rw [if_neg c5] at H
     exact absurd H (by simp)
   ·rw [if_neg c4] at H
    have c4b0 := decide_eq_false c4; clear c4; obtain rfl := Option.some.inj H; refine ci9 BK1006 ?_; intros
    go_wp2
    go_ret
    exact ⟨_, Zl, (Zcp HO_5), (Zi GE1006)⟩
def impl_windowsOfCue.f (k : Nat) (l0_0 : List (S104)) (l0_1 : List (S62)) (l0_2 : List (S39)) (a1_0 : Int) (a1_1 : Int) (a1_2 : ByteArray) (a1_3 : Int) : Option ((List (List Int))) := (impl_articleFor.f k l0_0 l0_1 l0_2 a1_0 a1_1 a1_2 a1_3).bind fun bt1015 => ((impl_firedAt.f k l0_0 l0_1 l0_2 a1_0 a1_1 a1_2 a1_3).bind fun t1024 => ((impl_shotWindows.f k bt1015.1 bt1015.2.1 bt1015.2.2.1 bt1015.2.2.2.1 bt1015.2.2.2.2.1 bt1015.2.2.2.2.2.1 bt1015.2.2.2.2.2.2.1 bt1015.2.2.2.2.2.2.2.1 bt1015.2.2.2.2.2.2.2.2 t1024).bind fun t1025 => (some t1025)))
def impl_windowsOfCue.T1 : Bool × List (List Nat × List Nat) := (true, [([], []), ([], []), ([0, 1], [0, 1]), ([], []), ([], []), ([3, 4, 2], [3, 4]), ([2, 5, 5], [2, 5]), ([6, 6, 0, 1, 2, 3, 4, 5, 6], [6])])
def impl_windowsOfCue.B1 : List Nat := [0, 0, 3, 0, 0, 31, 63, 127]
theorem impl_windowsOfCue.tab1 : rtab .any (opsOf Try.f75 1) = impl_windowsOfCue.T1 := by kernel_rfl
theorem impl_windowsOfCue.bits1 : waitsOk impl_windowsOfCue.T1.2 impl_windowsOfCue.B1 = true := by kernel_rfl
set_option maxHeartbeats 8000000 in
set_option maxRecDepth 100000 in
theorem impl_windowsOfCue.calls (k : Nat) (A0_0 : Option Addr) (c0_0 : Nat) (l0_0 : List (S104)) (A0_1 : Option Addr) (c0_1 : Nat) (l0_1 : List (S62)) (A0_2 : Option Addr) (c0_2 : Nat) (l0_2 : List (S39)) (a1_0 : Int) (a1_1 : Int) (a1_2 : ByteArray) (a1_3 : Int) (r : List (List Int)) (w : World) (hr0_0 : Kd.C k104 w A0_0 l0_0.length l0_0) (hc0_0 : l0_0.length ≤ c0_0) (hr0_1 : Kd.C k62 w A0_1 l0_1.length l0_1) (hc0_1 : l0_1.length ≤ c0_1) (hr0_2 : Kd.C k39 w A0_2 l0_2.length l0_2) (hc0_2 : l0_2.length ≤ c0_2) (h : impl_windowsOfCue.f k l0_0 l0_1 l0_2 a1_0 a1_1 a1_2 a1_3 = some r) :
  Calls Try.prog 75 #[.agg #[.slice A0_0 l0_0.length c0_0, .slice A0_1 l0_1.length c0_1, .slice A0_2 l0_2.length c0_2], .agg #[.int .i64 a1_0, .int .i64 a1_1, .string a1_2, .int .i64 a1_3]] w fun e w' => ∃ v0_ : Value, e = .returned (v0_) ∧ Kd.S (Kd.slice 2 (Kd.int .i64)) 33 w' w.heap.size (fun _ => True) v0_ r ∧ Below w.heap.size w w' := by
 have hu28 := Try.underlying28; have hu39 := Try.underlying39; have HR0_0 := am_ hr0_0; have HC0_0 := am_ hc0_0; clear hr0_0 hc0_0; have HR0_1 := am_ hr0_1; have HC0_1 := am_ hc0_1; clear hr0_1 hc0_1; have HR0_2 := am_ hr0_2; have HC0_2 := am_ hc0_2; clear hr0_2 hc0_2; have HB := am_ (Below.refl w.heap.size w); have H : ((impl_articleFor.f k l0_0 l0_1 l0_2 a1_0 a1_1 a1_2 a1_3).bind fun bt1015 => ((impl_firedAt.f k l0_0 l0_1 l0_2 a1_0 a1_1 a1_2 a1_3).bind fun t1024 => ((impl_shotWindows.f k bt1015.1 bt1015.2.1 bt1015.2.2.1 bt1015.2.2.2.1 bt1015.2.2.2.2.1 bt1015.2.2.2.2.2.1 bt1015.2.2.2.2.2.2.1 bt1015.2.2.2.2.2.2.2.1 bt1015.2.2.2.2.2.2.2.2 t1024).bind fun t1025 => (some t1025)))) = some r := h; clear h; replace H := Option.bind_eq_some_iff.mp H; obtain ⟨⟨t1015, t1016, t1017, t1018, t1019, t1020, t1021, t1022, t1023⟩, A30, H⟩ := H
 dsimp only at H
 have A3 := am_ A30; clear A30; replace H := Option.bind_eq_some_iff.mp H; obtain ⟨t1024, A40, H⟩ := H; have A4 := am_ A40; clear A40; replace H := Option.bind_eq_some_iff.mp H; obtain ⟨t1025, A50, H⟩ := H; have A5 := am_ A50; clear A50; obtain rfl := Option.some.inj H
 go_enter Try.func75, Try.ntmps75
 try go_wp2_with (first | ((with_reducible refine gate_dst (N := 2) rfl ?_); refine boxZ 2 #[.slice A0_0 l0_0.length c0_0, .slice A0_1 l0_1.length c0_1, .slice A0_2 l0_2.length c0_2] 28 ?_; intro gb1013 hg w6 hbox hb; replace BK1013 := am_ (hbox); replace GW1013 := am_ ((Zr : w.heap.size ≤ gb1013)); replace GE1013 := GW1013; replace HB := (bsZ Zf hb); clear hb hbox hg) | ((with_reducible refine gate_dst (N := 3) rfl ?_); refine boxZ 3 #[.int .i64 a1_0, .int .i64 a1_1, .string a1_2, .int .i64 a1_3] 39 ?_; intro gb1014 hg w7 hbox hb; replace BK1014 := am_ (hbox); replace GW1014 := am_ (((Zt GE1013) : w.heap.size ≤ gb1014)); replace GE1014 := GW1014; replace HB := (bsZ (Zi GE1013) hb); replace NB1013_1014 := am_ ((by rw [hg]; exact Nat.ne_of_lt (blk_lt (g := gb1013) (b0Z BK1013)) : gb1013 ≠ gb1014)); replace NB1014_1013 := am_ ((by rw [hg]; exact Nat.ne_of_gt (blk_lt (g := gb1013) (b0Z BK1013)) : gb1014 ≠ gb1013)); replace BK1013 := (bkZ BK1013 hb); clear hb hbox hg))
 replace BK1013 := am_ (blk_drew BK1013.out); replace BK1014 := am_ (blk_drew BK1014.out); replace HB := am_ (below_drew1 HB.out); refine start_ (n := 8) (S := fun w' => w'.cell? ⟨gb1013, 0, none⟩ = some (.slice A0_0 l0_0.length c0_0) ∧ w'.cell? ⟨gb1013, 1, none⟩ = some (.slice A0_1 l0_1.length c0_1) ∧ w'.cell? ⟨gb1013, 2, none⟩ = some (.slice A0_2 l0_2.length c0_2) ∧ w'.cell? ⟨gb1014, 0, none⟩ = some (.int .i64 a1_0) ∧ w'.cell? ⟨gb1014, 1, none⟩ = some (.int .i64 a1_1) ∧ w'.cell? ⟨gb1014, 2, none⟩ = some (.string a1_2) ∧ w'.cell? ⟨gb1014, 3, none⟩ = some (.int .i64 a1_3)) (ds := []) (bT 8 0) Zk rfl rfl ⟨(blk_cell BK1013.out 0).trans rfl, (blk_cell BK1013.out 1).trans rfl, (blk_cell BK1013.out 2).trans rfl, (blk_cell BK1014.out 0).trans rfl, (blk_cell BK1014.out 1).trans rfl, (blk_cell BK1014.out 2).trans rfl, (blk_cell BK1014.out 3).trans rfl⟩ (fun hHeld => ?_); refine with_tabW impl_windowsOfCue.tab1 impl_windowsOfCue.bits1 (fun HT_ HW_ => ?_); generalize w7.drew = w8 at BK1013 BK1014 HB hHeld ⊢; refine takeZ7 HT_ HW_ 0 (some 5) (bT 8 1) hHeld ?_; refine takeZ7 HT_ HW_ 1 (some 6) (bT 8 2) hHeld ?_; refine takeZ7 HT_ HW_ 3 (some 8) (bB 8 11) hHeld ?_; refine takeZ7 HT_ HW_ 4 (some 9) (bB 8 27) hHeld ?_; refine one_ (i := 2) (N := some 7) (bT 8 5) rfl rfl (one_of HT_.out Zk) (by decide) (fun K hK => ?_); refine goes_ Try.func80 Zk rfl #[.agg #[.slice A0_0 l0_0.length c0_0, .slice A0_1 l0_1.length c0_1, .slice A0_2 l0_2.length c0_2], .agg #[.int .i64 a1_0, .int .i64 a1_1, .string a1_2, .int .i64 a1_3]] (by rfl) rfl rfl Zs ?_
 with_reducible refine (impl_articleFor.calls k _ _ l0_0 _ _ l0_1 _ _ l0_2 a1_0 a1_1 a1_2 a1_3 t1015 t1016 t1017 t1018 t1019 t1020 t1021 t1022 t1023 _ ?side1 ?side2 ?side3 ?side4 ?side5 ?side6 A3.out).mono ?_
 (case side1 => exact (Zu HR0_0))
 (case side2 => exact HC0_0.out)
 (case side3 => exact (Zu HR0_1))
 (case side4 => exact HC0_1.out)
 (case side5 => exact (Zu HR0_2))
 (case side6 => exact HC0_2.out)
 rintro e w9 ⟨rfl, hb⟩; refine ⟨_, rfl, ?_⟩; replace BK1013 := (bkZ BK1013 hb); replace BK1014 := (bkZ BK1014 hb); replace HB := (bsZ (Zw GE1013 GE1014) hb)
 (try clear hb)
 (try clear hb2)
 (try clear hk)
 (try clear hi)
 refine hK.out _ _ (Zaj BK1013 BK1014) (fun hHeld => ?_); clear hK K; refine normZ 7 ?_; refine one_ (i := 5) (N := some 10) (bT 8 6) rfl rfl (one_of HT_.out Zk) (by decide) (fun K hK => ?_); refine goes_ Try.func70 Zk rfl #[.agg #[.slice A0_0 l0_0.length c0_0, .slice A0_1 l0_1.length c0_1, .slice A0_2 l0_2.length c0_2], .agg #[.int .i64 a1_0, .int .i64 a1_1, .string a1_2, .int .i64 a1_3]] (by rfl) rfl rfl Zs ?_
 with_reducible refine (impl_firedAt.calls k _ _ l0_0 _ _ l0_1 _ _ l0_2 a1_0 a1_1 a1_2 a1_3 t1024 _ ?side1 ?side2 ?side3 ?side4 ?side5 ?side6 A4.out).mono ?_
 (case side1 => exact (Zu HR0_0))
 (case side2 => exact HC0_0.out)
 (case side3 => exact (Zu HR0_1))
 (case side4 => exact HC0_1.out)
 (case side5 => exact (Zu HR0_2))
 (case side6 => exact HC0_2.out)
 rintro e w10 ⟨rfl, hb⟩; refine ⟨_, rfl, ?_⟩; replace BK1013 := (bkZ BK1013 hb); replace BK1014 := (bkZ BK1014 hb); replace HB := (bsZ (Zw GE1013 GE1014) hb)
 (try clear hb)
 (try clear hb2)
 (try clear hk)
 (try clear hi)
 refine hK.out _ _ (Zaj BK1013 BK1014) (fun hHeld => ?_); clear hK K; refine normZ 10 ?_; refine one_ (i := 6) (N := some 11) (bT 8 7) rfl rfl (one_of HT_.out Zk) (by decide) (fun K hK => ?_); refine goes_ Try.func92 Zk rfl #[.agg #[.string t1015, .int .i64 t1016, .int .i64 t1017, .int .i64 t1018, .int .i64 t1019, .int .i64 t1020, .int .i64 t1021, .int .i64 t1022, .int .i64 t1023], .int .i64 t1024] (by rfl) rfl rfl Zs ?_
 with_reducible refine (impl_shotWindows.calls k t1015 t1016 t1017 t1018 t1019 t1020 t1021 t1022 t1023 t1024 t1025 _ A5.out).mono ?_
 rintro e w11 ⟨v1026, rfl, ho0, hb⟩; refine ⟨_, rfl, ?_⟩; replace HO1027 := am_ (Kd.S_lower ho0 (below_size (Zw GE1013 GE1014))); replace BK1013 := (bkZ BK1013 hb); replace BK1014 := (bkZ BK1014 hb); replace HB := (bsZ (Zw GE1013 GE1014) hb)
 (try clear hb)
 (try clear hb2)
 (try clear hk)
 (try clear hi)
 (try clear ho0)
 refine hK.out _ _ (Zaj BK1013 BK1014) (fun hHeld => ?_); clear hK K; refine normZ 11 ?_; refine pureZ HT_ 7 (some 4) (bT 8 8) ?_; refine done_ (done_of HT_.out Zk) ?_
 try go_wp2
 go_ret
 exact ⟨_, Zl, (Zcp HO1027), (Zw GE1013 GE1014)⟩
end Go.Proofs.Ythhijbdekboahaa.F
