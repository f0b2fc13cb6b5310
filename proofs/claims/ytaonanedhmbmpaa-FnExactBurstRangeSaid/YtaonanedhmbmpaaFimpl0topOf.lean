import Derived.Test.YtaonanedhmbmpaaF0
import Derived.Test.YtaonanedhmbmpaaFimpl0heightAt
namespace Go.Proofs.Ytaonanedhmbmpaa.F
open Go.RowKit Go.Proofs.YtaonanedhmbmpaaW.PrintWords Go.Proofs.YtaonanedhmbmpaaW.PrintLast Go.Proofs.YtaonanedhmbmpaaW.PrintMore
attribute [local go_sem] max2_int min2_int max_two min_two max_three min_three max_four min_four   -- for this text's walks alone
set_option linter.unusedVariables false
set_option linter.unusedSimpArgs false

/-! ### impl_topOf: function 65 -/
def impl_topOf.l0 : Nat → Int → Int → Int → Int → Option (Int × Int)
  | 0, _, _, _, _ => none
  | k + 1, x0, x5, x7, x8 => if x7 < x8 then ((impl_heightAt.f x0 (wrap64 (Int.tdiv (wrap64 (x7 + x8)) 2))).bind fun t204 => (if t204 ≥ x5 then (impl_topOf.l0 k x0 x5 x7 (wrap64 (Int.tdiv (wrap64 (x7 + x8)) 2))) else (impl_topOf.l0 k x0 x5 (wrap64 ((wrap64 (Int.tdiv (wrap64 (x7 + x8)) 2)) + 1)) x8))) else (some (x7, x5))
def impl_topOf.f (k : Nat) (a0 : Int) : Option (Int × Int) := (impl_heightAt.f a0 (wrap64 (Int.tdiv (wrap64 (1000 * a0)) 9810))).bind fun t202 => ((impl_heightAt.f a0 (wrap64 ((wrap64 (Int.tdiv (wrap64 (1000 * a0)) 9810)) + 1))).bind fun t203 => (if t203 > t202 then (some (wrap64 ((wrap64 (Int.tdiv (wrap64 (1000 * a0)) 9810)) + 1), t203)) else (impl_topOf.l0 k a0 t202 0 (wrap64 (Int.tdiv (wrap64 (1000 * a0)) 9810)))))
theorem impl_topOf.mono_l : ∀ k, (∀ y0 y1 y2 y3, LeO (impl_topOf.l0 k y0 y1 y2 y3) (impl_topOf.l0 (k + 1) y0 y1 y2 y3))
  | 0 => fun _ _ _ _ r h => by simp [impl_topOf.l0] at h
  | k + 1 => by
    have ih0 := impl_topOf.mono_l k
    · intro y0 y1 y2 y3
      unfold impl_topOf.l0
      repeat' first
      | (with_reducible exact ih0 _ _ _ _)
      | (with_reducible exact LeO.refl _)
      | (with_reducible exact LeO.none _)
      | (with_reducible refine LeO.ite ?_ ?_)
      | (with_reducible refine LeO.bind ?_ (fun _ => ?_))
      | exact ih0 _ _ _ _
      | exact LeO.none _
      | refine LeO.ite ?_ ?_
      | refine LeO.bind ?_ (fun _ => ?_)
theorem impl_topOf.mono : ∀ a0 k, LeO (impl_topOf.f k a0) (impl_topOf.f (k + 1) a0) := by
  intro a0 k
  have ih0 := impl_topOf.mono_l k
  unfold impl_topOf.f
  repeat' first
      | (with_reducible exact ih0 _ _ _ _)
      | (with_reducible exact LeO.refl _)
      | (with_reducible exact LeO.none _)
      | (with_reducible refine LeO.ite ?_ ?_)
      | (with_reducible refine LeO.bind ?_ (fun _ => ?_))
      | exact ih0 _ _ _ _
      | exact LeO.none _
      | refine LeO.ite ?_ ?_
      | refine LeO.bind ?_ (fun _ => ?_)
set_option maxHeartbeats 8000000 in
set_option maxRecDepth 100000 in
theorem impl_topOf.calls (k : Nat) (a0 : Int) (r1 : Int) (r2 : Int) (w : World) (h : impl_topOf.f k a0 = some (r1, r2)) :
    Calls Try.prog 65 #[.int .i64 a0] w fun e w' => e = .returned (.tuple #[.int .i64 r1, .int .i64 r2]) ∧ Drawn0 w w' := by
  have H : ((impl_heightAt.f a0 (wrap64 (Int.tdiv (wrap64 (1000 * a0)) 9810))).bind fun t202 => ((impl_heightAt.f a0 (wrap64 ((wrap64 (Int.tdiv (wrap64 (1000 * a0)) 9810)) + 1))).bind fun t203 => (if t203 > t202 then (some (wrap64 ((wrap64 (Int.tdiv (wrap64 (1000 * a0)) 9810)) + 1), t203)) else (impl_topOf.l0 k a0 t202 0 (wrap64 (Int.tdiv (wrap64 (1000 * a0)) 9810)))))) = some (r1, r2) := h
  clear h
  replace H := Option.bind_eq_some_iff.mp H
  obtain ⟨t202, A20, H⟩ := H
  replace H : ((impl_heightAt.f a0 (wrap64 ((wrap64 (Int.tdiv (wrap64 (1000 * a0)) 9810)) + 1))).bind fun t203 => (if t203 > t202 then (some (wrap64 ((wrap64 (Int.tdiv (wrap64 (1000 * a0)) 9810)) + 1), t203)) else (impl_topOf.l0 k a0 t202 0 (wrap64 (Int.tdiv (wrap64 (1000 * a0)) 9810))))) = some (r1, r2) := H
  have A2 := Aside0.mk A20
  clear A20
  replace H := Option.bind_eq_some_iff.mp H
  obtain ⟨t203, A30, H⟩ := H
  replace H : (if t203 > t202 then (some (wrap64 ((wrap64 (Int.tdiv (wrap64 (1000 * a0)) 9810)) + 1), t203)) else (impl_topOf.l0 k a0 t202 0 (wrap64 (Int.tdiv (wrap64 (1000 * a0)) 9810)))) = some (r1, r2) := H
  have A3 := Aside0.mk A30
  clear A30
  by_cases c4 : t203 > t202
  · rw [if_pos c4] at H
    have c4b0 : decide (t202 < t203) = true := decide_eq_true c4
    clear c4
    simp only [Option.some.injEq, Prod.mk.injEq] at H
    obtain ⟨rfl, rfl⟩ := H
    go_enter Try.func65, Try.ntmps65
    go_wp2_with (first | ((with_reducible refine gate_callee (f := 70) rfl ?_); refine goesL_ (some 15) rfl rfl Try.func70 (by kernel_rfl) rfl #[.int .i64 a0, .int .i64 (wrap64 (Int.tdiv (wrap64 (1000 * a0)) 9810))] rfl (by (try simp only [List.map_toArray, List.map_cons, List.map_nil]); first | done | rfl | (simp only [List.length_drop, List.length_take]; rfl)) ?_; (with_reducible refine (impl_heightAt.calls a0 (wrap64 (Int.tdiv (wrap64 (1000 * a0)) 9810)) t202 _ A2.out).mono ?_); rintro e w' ⟨rfl, ⟨nd, rfl⟩⟩; refine ⟨_, rfl, ?_⟩) | ((with_reducible refine gate_callee (f := 70) rfl ?_); refine goesL_ (some 19) rfl rfl Try.func70 (by kernel_rfl) rfl #[.int .i64 a0, .int .i64 (wrap64 ((wrap64 (Int.tdiv (wrap64 (1000 * a0)) 9810)) + 1))] rfl (by (try simp only [List.map_toArray, List.map_cons, List.map_nil]); first | done | rfl | (simp only [List.length_drop, List.length_take]; rfl)) ?_; (with_reducible refine (impl_heightAt.calls a0 (wrap64 ((wrap64 (Int.tdiv (wrap64 (1000 * a0)) 9810)) + 1)) t203 _ A3.out).mono ?_); rintro e w' ⟨rfl, ⟨nd, rfl⟩⟩; refine ⟨_, rfl, ?_⟩))
    go_ret2
    exact ⟨by first | rfl | (simp; done) | (simp [*]; done), by repeat (first | exact Drawn0.refl _ | apply Drawn0.step)⟩
  · rw [if_neg c4] at H
    have c4b0 : decide (t202 < t203) = false := decide_eq_false c4
    clear c4
    have H' := Aside0.mk H
    clear H
    go_enter Try.func65, Try.ntmps65
    go_wp2_with (first | ((with_reducible refine gate_callee (f := 70) rfl ?_); refine goesL_ (some 15) rfl rfl Try.func70 (by kernel_rfl) rfl #[.int .i64 a0, .int .i64 (wrap64 (Int.tdiv (wrap64 (1000 * a0)) 9810))] rfl (by (try simp only [List.map_toArray, List.map_cons, List.map_nil]); first | done | rfl | (simp only [List.length_drop, List.length_take]; rfl)) ?_; (with_reducible refine (impl_heightAt.calls a0 (wrap64 (Int.tdiv (wrap64 (1000 * a0)) 9810)) t202 _ A2.out).mono ?_); rintro e w' ⟨rfl, ⟨nd, rfl⟩⟩; refine ⟨_, rfl, ?_⟩) | ((with_reducible refine gate_callee (f := 70) rfl ?_); refine goesL_ (some 19) rfl rfl Try.func70 (by kernel_rfl) rfl #[.int .i64 a0, .int .i64 (wrap64 ((wrap64 (Int.tdiv (wrap64 (1000 * a0)) 9810)) + 1))] rfl (by (try simp only [List.map_toArray, List.map_cons, List.map_nil]); first | done | rfl | (simp only [List.length_drop, List.length_take]; rfl)) ?_; (with_reducible refine (impl_heightAt.calls a0 (wrap64 ((wrap64 (Int.tdiv (wrap64 (1000 * a0)) 9810)) + 1)) t203 _ A3.out).mono ?_); rintro e w' ⟨rfl, ⟨nd, rfl⟩⟩; refine ⟨_, rfl, ?_⟩))
    go_loopg [7, 8] k (fun kq v7 v8 w' => ∃ (x7_1 : Int) (x8_1 : Int), v7 = .int .i64 x7_1 ∧ v8 = .int .i64 x8_1 ∧ Aside0 (impl_topOf.l0 kq a0 t202 x7_1 x8_1 = some (r1, r2)) ∧ Aside0 (kq ≤ k) ∧ Drawn0 w w')
    case atStart => exact ⟨(0), (wrap64 (Int.tdiv (wrap64 (1000 * a0)) 9810)), (by first | rfl | (simp; done) | (simp [*]; done)), (by first | rfl | (simp; done) | (simp [*]; done)), H', ⟨Nat.le_refl _⟩, by repeat (first | exact Drawn0.refl _ | apply Drawn0.step)⟩
    case round =>
      clear H'
      try clear p2
      try clear c4
      try clear c4b0
      obtain ⟨x7_1, x8_1, rfl, rfl, HA, HK1, ⟨m1, rfl⟩⟩ := hrel
      cases gk with
      | zero => exact absurd HA.out (by simp [impl_topOf.l0])
      | succ k1 =>
        have H := HA.out
        clear HA
        simp only [impl_topOf.l0] at H
        by_cases c5 : x7_1 < x8_1
        · rw [if_pos c5] at H
          have c5b0 : decide (x7_1 < x8_1) = true := decide_eq_true c5
          clear c5
          replace H := Option.bind_eq_some_iff.mp H
          obtain ⟨t204, A60, H⟩ := H
          replace H : (if t204 ≥ t202 then (impl_topOf.l0 k1 a0 t202 x7_1 (wrap64 (Int.tdiv (wrap64 (x7_1 + x8_1)) 2))) else (impl_topOf.l0 k1 a0 t202 (wrap64 ((wrap64 (Int.tdiv (wrap64 (x7_1 + x8_1)) 2)) + 1)) x8_1)) = some (r1, r2) := H
          have A6 := Aside0.mk A60
          clear A60
          by_cases c7 : t204 ≥ t202
          · rw [if_pos c7] at H
            have c7b0 : decide (t202 ≤ t204) = true := decide_eq_true c7
            clear c7
            have H' := Aside0.mk H
            clear H
            go_wp2_with (first | ((with_reducible refine gate_callee (f := 70) rfl ?_); refine goesL_ (some 36) rfl rfl Try.func70 (by kernel_rfl) rfl #[.int .i64 a0, .int .i64 (wrap64 (Int.tdiv (wrap64 (x7_1 + x8_1)) 2))] rfl (by (try simp only [List.map_toArray, List.map_cons, List.map_nil]); first | done | rfl | (simp only [List.length_drop, List.length_take]; rfl)) ?_; (with_reducible refine (impl_heightAt.calls a0 (wrap64 (Int.tdiv (wrap64 (x7_1 + x8_1)) 2)) t204 _ A6.out).mono ?_); rintro e w' ⟨rfl, ⟨nd, rfl⟩⟩; refine ⟨_, rfl, ?_⟩))
            go_roundg k1
            case measure => have := HK1.out; omega
            case rel => exact ⟨(x7_1), (wrap64 (Int.tdiv (wrap64 (x7_1 + x8_1)) 2)), (by first | rfl | (simp; done) | (simp [*]; done)), (by first | rfl | (simp; done) | (simp [*]; done)), H', ⟨by have := HK1.out; omega⟩, by repeat (first | exact Drawn0.refl _ | apply Drawn0.step)⟩
          · rw [if_neg c7] at H
            have c7b0 : decide (t202 ≤ t204) = false := decide_eq_false c7
            clear c7
            have H' := Aside0.mk H
            clear H
            go_wp2_with (first | ((with_reducible refine gate_callee (f := 70) rfl ?_); refine goesL_ (some 36) rfl rfl Try.func70 (by kernel_rfl) rfl #[.int .i64 a0, .int .i64 (wrap64 (Int.tdiv (wrap64 (x7_1 + x8_1)) 2))] rfl (by (try simp only [List.map_toArray, List.map_cons, List.map_nil]); first | done | rfl | (simp only [List.length_drop, List.length_take]; rfl)) ?_; (with_reducible refine (impl_heightAt.calls a0 (wrap64 (Int.tdiv (wrap64 (x7_1 + x8_1)) 2)) t204 _ A6.out).mono ?_); rintro e w' ⟨rfl, ⟨nd, rfl⟩⟩; refine ⟨_, rfl, ?_⟩))
            go_roundg k1
            case measure => have := HK1.out; omega
            case rel => exact ⟨(wrap64 ((wrap64 (Int.tdiv (wrap64 (x7_1 + x8_1)) 2)) + 1)), (x8_1), (by first | rfl | (simp; done) | (simp [*]; done)), (by first | rfl | (simp; done) | (simp [*]; done)), H', ⟨by have := HK1.out; omega⟩, by repeat (first | exact Drawn0.refl _ | apply Drawn0.step)⟩
        · rw [if_neg c5] at H
          have c5b0 : decide (x7_1 < x8_1) = false := decide_eq_false c5
          clear c5
          simp only [Option.some.injEq, Prod.mk.injEq] at H
          obtain ⟨rfl, rfl⟩ := H
          go_wp2
          go_ret2
          exact ⟨by first | rfl | (simp; done) | (simp [*]; done), by repeat (first | exact Drawn0.refl _ | apply Drawn0.step)⟩

end Go.Proofs.Ytaonanedhmbmpaa.F
