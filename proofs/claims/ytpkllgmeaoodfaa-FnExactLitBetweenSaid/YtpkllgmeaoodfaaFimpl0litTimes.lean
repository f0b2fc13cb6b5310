import Derived.Test.YtpkllgmeaoodfaaF0
namespace Go.Proofs.Ytpkllgmeaoodfaa.F
open Go.RowKit Go.Proofs.YtpkllgmeaoodfaaW.PrintWords Go.Proofs.YtpkllgmeaoodfaaW.PrintLast Go.Proofs.YtpkllgmeaoodfaaW.PrintMore
attribute [local go_sem] max2_int min2_int max_two min_two max_three min_three max_four min_four   -- for this text's walks alone
set_option linter.unusedVariables false
set_option linter.unusedSimpArgs false

/-! ### impl_litTimes: function 57 -/
mutual
def impl_litTimes.l0 : Nat → Int → List (S84) → List Int → List Int → Int → Option (List Int × List Int)
  | 0, _, _, _, _, _ => none
  | k + 1, x0, x1, x6, x7, x8 => if x8 < x0 then (if 0 ≤ x8 then (if x8 < (x6.length : Int) then (if x8 < (x7.length : Int) then (impl_litTimes.l1 k x0 x1 (x6.set (x8 : Int).toNat (-1)) (x7.set (x8 : Int).toNat (-1)) x8 x1 (x1.length : Int) 0) else (none)) else (none)) else (none)) else (some (x6, x7))
def impl_litTimes.l1 : Nat → Int → List (S84) → List Int → List Int → Int → List (S84) → Int → Int → Option (List Int × List Int)
  | 0, _, _, _, _, _, _, _, _ => none
  | k + 1, x0, x1, x6, x7, x8, x28, x29, x30 => if x30 < x29 then (if 0 ≤ x30 then (if x30 < (x28.length : Int) then (if ((rd_T84 x28 x30).f1) = x8 then (if 0 ≤ ((rd_T84 x28 x30).f0) then (if ((rd_T84 x28 x30).f0) < (x6.length : Int) then (impl_litTimes.j2 k x0 x1 x6 x7 x8 x28 x29 x30 (decide ((rd x6 ((rd_T84 x28 x30).f0)) < 0)) ((rd_T84 x28 x30).f0) ((rd_T84 x28 x30).f1) ((rd_T84 x28 x30).f2) ((rd_T84 x28 x30).f3)) else (none)) else (none)) else (impl_litTimes.j2 k x0 x1 x6 x7 x8 x28 x29 x30 true ((rd_T84 x28 x30).f0) ((rd_T84 x28 x30).f1) ((rd_T84 x28 x30).f2) ((rd_T84 x28 x30).f3))) else (none)) else (none)) else (impl_litTimes.l0 k x0 x1 x6 x7 (wrap64 (x8 + 1)))
def impl_litTimes.j2 : Nat → Int → List (S84) → List Int → List Int → Int → List (S84) → Int → Int → Bool → Int → Int → Int → Int → Option (List Int × List Int)
  | 0, _, _, _, _, _, _, _, _, _, _, _, _, _ => none
  | k + 1, x0, x1, x6, x7, x8, x28, x29, x30, x45, x300000, x300001, x300002, x300003 => if x45 = true then (impl_litTimes.l1 k x0 x1 x6 x7 x8 x28 x29 (wrap64 (x30 + 1))) else (if 0 ≤ x300000 then (if x300000 < (x6.length : Int) then (if 0 ≤ x8 then (if x8 < (x6.length : Int) then (if (rd x6 x8) < 0 then (impl_litTimes.j3 k x0 x1 x6 x7 x8 (wrap64 ((rd x6 x300000) + x300002)) x28 x29 x30 true x300000 x300001 x300002 x300003) else (impl_litTimes.j3 k x0 x1 x6 x7 x8 (wrap64 ((rd x6 x300000) + x300002)) x28 x29 x30 (decide ((wrap64 ((rd x6 x300000) + x300002)) < (rd x6 x8))) x300000 x300001 x300002 x300003)) else (none)) else (none)) else (none)) else (none))
def impl_litTimes.j3 : Nat → Int → List (S84) → List Int → List Int → Int → Int → List (S84) → Int → Int → Bool → Int → Int → Int → Int → Option (List Int × List Int)
  | 0, _, _, _, _, _, _, _, _, _, _, _, _, _, _ => none
  | k + 1, x0, x1, x6, x7, x8, x11, x28, x29, x30, x66, x300000, x300001, x300002, x300003 => if x66 = true then (if 0 ≤ x8 then (if x8 < (x6.length : Int) then ((some (x6.set (x8 : Int).toNat x11 : List Int)).bind fun y304 => (if 0 ≤ x300000 then (if x300000 < (x7.length : Int) then (if x8 < (x7.length : Int) then (if (rd x7 x8) < 0 then (impl_litTimes.l1 k x0 x1 y304 (x7.set (x8 : Int).toNat (wrap64 ((rd x7 x300000) + x300003))) x8 x28 x29 (wrap64 (x30 + 1))) else (if (wrap64 ((rd x7 x300000) + x300003)) < (rd x7 x8) then (impl_litTimes.l1 k x0 x1 y304 (x7.set (x8 : Int).toNat (wrap64 ((rd x7 x300000) + x300003))) x8 x28 x29 (wrap64 (x30 + 1))) else (impl_litTimes.l1 k x0 x1 y304 x7 x8 x28 x29 (wrap64 (x30 + 1))))) else (none)) else (none)) else (none))) else (none)) else (none)) else (if 0 ≤ x300000 then (if x300000 < (x7.length : Int) then (if 0 ≤ x8 then (if x8 < (x7.length : Int) then (if (rd x7 x8) < 0 then (impl_litTimes.l1 k x0 x1 x6 (x7.set (x8 : Int).toNat (wrap64 ((rd x7 x300000) + x300003))) x8 x28 x29 (wrap64 (x30 + 1))) else (if (wrap64 ((rd x7 x300000) + x300003)) < (rd x7 x8) then (impl_litTimes.l1 k x0 x1 x6 (x7.set (x8 : Int).toNat (wrap64 ((rd x7 x300000) + x300003))) x8 x28 x29 (wrap64 (x30 + 1))) else (impl_litTimes.l1 k x0 x1 x6 x7 x8 x28 x29 (wrap64 (x30 + 1))))) else (none)) else (none)) else (none)) else (none))
end
def impl_litTimes.f (k : Nat) (a0 : Int) (l1 : List (S84)) : Option (List Int × List Int) := if 0 ≤ a0 then (if (a0 : Int).toNat ≤ 35184372088832 then (impl_litTimes.l0 k a0 l1 (List.replicate (a0 : Int).toNat 0) (List.replicate (a0 : Int).toNat 0) 1) else (none)) else (none)
theorem impl_litTimes.mono_l : ∀ k, (∀ y0 y1 y2 y3 y4, LeO (impl_litTimes.l0 k y0 y1 y2 y3 y4) (impl_litTimes.l0 (k + 1) y0 y1 y2 y3 y4)) ∧ (∀ y0 y1 y2 y3 y4 y5 y6 y7, LeO (impl_litTimes.l1 k y0 y1 y2 y3 y4 y5 y6 y7) (impl_litTimes.l1 (k + 1) y0 y1 y2 y3 y4 y5 y6 y7)) ∧ (∀ y0 y1 y2 y3 y4 y5 y6 y7 y8 y9 y10 y11 y12, LeO (impl_litTimes.j2 k y0 y1 y2 y3 y4 y5 y6 y7 y8 y9 y10 y11 y12) (impl_litTimes.j2 (k + 1) y0 y1 y2 y3 y4 y5 y6 y7 y8 y9 y10 y11 y12)) ∧ (∀ y0 y1 y2 y3 y4 y5 y6 y7 y8 y9 y10 y11 y12 y13, LeO (impl_litTimes.j3 k y0 y1 y2 y3 y4 y5 y6 y7 y8 y9 y10 y11 y12 y13) (impl_litTimes.j3 (k + 1) y0 y1 y2 y3 y4 y5 y6 y7 y8 y9 y10 y11 y12 y13))
  | 0 => ⟨fun _ _ _ _ _ r h => by simp [impl_litTimes.l0] at h, fun _ _ _ _ _ _ _ _ r h => by simp [impl_litTimes.l1] at h, fun _ _ _ _ _ _ _ _ _ _ _ _ _ r h => by simp [impl_litTimes.j2] at h, fun _ _ _ _ _ _ _ _ _ _ _ _ _ _ r h => by simp [impl_litTimes.j3] at h⟩
  | k + 1 => by
    obtain ⟨ih0, ih1, ih2, ih3⟩ := impl_litTimes.mono_l k
    refine ⟨?_, ?_, ?_, ?_⟩
    · intro y0 y1 y2 y3 y4
      unfold impl_litTimes.l0
      repeat' first
      | (with_reducible exact ih0 _ _ _ _ _)
      | (with_reducible exact ih1 _ _ _ _ _ _ _ _)
      | (with_reducible exact ih2 _ _ _ _ _ _ _ _ _ _ _ _ _)
      | (with_reducible exact ih3 _ _ _ _ _ _ _ _ _ _ _ _ _ _)
      | (with_reducible exact LeO.refl _)
      | (with_reducible exact LeO.none _)
      | (with_reducible refine LeO.ite ?_ ?_)
      | (with_reducible refine LeO.bind ?_ (fun _ => ?_))
      | exact ih0 _ _ _ _ _
      | exact ih1 _ _ _ _ _ _ _ _
      | exact ih2 _ _ _ _ _ _ _ _ _ _ _ _ _
      | exact ih3 _ _ _ _ _ _ _ _ _ _ _ _ _ _
      | exact LeO.none _
      | refine LeO.ite ?_ ?_
      | refine LeO.bind ?_ (fun _ => ?_)
    · intro y0 y1 y2 y3 y4 y5 y6 y7
      unfold impl_litTimes.l1
      repeat' first
      | (with_reducible exact ih0 _ _ _ _ _)
      | (with_reducible exact ih1 _ _ _ _ _ _ _ _)
      | (with_reducible exact ih2 _ _ _ _ _ _ _ _ _ _ _ _ _)
      | (with_reducible exact ih3 _ _ _ _ _ _ _ _ _ _ _ _ _ _)
      | (with_reducible exact LeO.refl _)
      | (with_reducible exact LeO.none _)
      | (with_reducible refine LeO.ite ?_ ?_)
      | (with_reducible refine LeO.bind ?_ (fun _ => ?_))
      | exact ih0 _ _ _ _ _
      | exact ih1 _ _ _ _ _ _ _ _
      | exact ih2 _ _ _ _ _ _ _ _ _ _ _ _ _
      | exact ih3 _ _ _ _ _ _ _ _ _ _ _ _ _ _
      | exact LeO.none _
      | refine LeO.ite ?_ ?_
      | refine LeO.bind ?_ (fun _ => ?_)
    · intro y0 y1 y2 y3 y4 y5 y6 y7 y8 y9 y10 y11 y12
      unfold impl_litTimes.j2
      repeat' first
      | (with_reducible exact ih0 _ _ _ _ _)
      | (with_reducible exact ih1 _ _ _ _ _ _ _ _)
      | (with_reducible exact ih2 _ _ _ _ _ _ _ _ _ _ _ _ _)
      | (with_reducible exact ih3 _ _ _ _ _ _ _ _ _ _ _ _ _ _)
      | (with_reducible exact LeO.refl _)
      | (with_reducible exact LeO.none _)
      | (with_reducible refine LeO.ite ?_ ?_)
      | (with_reducible refine LeO.bind ?_ (fun _ => ?_))
      | exact ih0 _ _ _ _ _
      | exact ih1 _ _ _ _ _ _ _ _
      | exact ih2 _ _ _ _ _ _ _ _ _ _ _ _ _
      | exact ih3 _ _ _ _ _ _ _ _ _ _ _ _ _ _
      | exact LeO.none _
      | refine LeO.ite ?_ ?_
      | refine LeO.bind ?_ (fun _ => ?_)
    · intro y0 y1 y2 y3 y4 y5 y6 y7 y8 y9 y10 y11 y12 y13
      unfold impl_litTimes.j3
      repeat' first
      | (with_reducible exact ih0 _ _ _ _ _)
      | (with_reducible exact ih1 _ _ _ _ _ _ _ _)
      | (with_reducible exact ih2 _ _ _ _ _ _ _ _ _ _ _ _ _)
      | (with_reducible exact ih3 _ _ _ _ _ _ _ _ _ _ _ _ _ _)
      | (with_reducible exact LeO.refl _)
      | (with_reducible exact LeO.none _)
      | (with_reducible refine LeO.ite ?_ ?_)
      | (with_reducible refine LeO.bind ?_ (fun _ => ?_))
      | exact ih0 _ _ _ _ _
      | exact ih1 _ _ _ _ _ _ _ _
      | exact ih2 _ _ _ _ _ _ _ _ _ _ _ _ _
      | exact ih3 _ _ _ _ _ _ _ _ _ _ _ _ _ _
      | exact LeO.none _
      | refine LeO.ite ?_ ?_
      | refine LeO.bind ?_ (fun _ => ?_)
theorem impl_litTimes.mono : ∀ a0 a1 k, LeO (impl_litTimes.f k a0 a1) (impl_litTimes.f (k + 1) a0 a1) := by
  intro a0 a1 k
  obtain ⟨ih0, ih1, ih2, ih3⟩ := impl_litTimes.mono_l k
  unfold impl_litTimes.f
  repeat' first
      | (with_reducible exact ih0 _ _ _ _ _)
      | (with_reducible exact ih1 _ _ _ _ _ _ _ _)
      | (with_reducible exact ih2 _ _ _ _ _ _ _ _ _ _ _ _ _)
      | (with_reducible exact ih3 _ _ _ _ _ _ _ _ _ _ _ _ _ _)
      | (with_reducible exact LeO.refl _)
      | (with_reducible exact LeO.none _)
      | (with_reducible refine LeO.ite ?_ ?_)
      | (with_reducible refine LeO.bind ?_ (fun _ => ?_))
      | exact ih0 _ _ _ _ _
      | exact ih1 _ _ _ _ _ _ _ _
      | exact ih2 _ _ _ _ _ _ _ _ _ _ _ _ _
      | exact ih3 _ _ _ _ _ _ _ _ _ _ _ _ _ _
      | exact LeO.none _
      | refine LeO.ite ?_ ?_
      | refine LeO.bind ?_ (fun _ => ?_)
def impl_litTimes.T10 : Bool × List (List Nat × List Nat) := (true, [([], []), ([], []), ([1], [1]), ([0, 2], [0, 2]), ([3], [3]), ([], []), ([5], [5]), ([4, 6], [4, 6]), ([7, 0, 1, 2, 3, 4, 5, 6, 7], [7])])
def impl_litTimes.B10 : List Nat := [0, 0, 2, 7, 15, 0, 32, 127, 255]
theorem impl_litTimes.tab10 : rtab .any (opsOf Try.f57 10) = impl_litTimes.T10 := by kernel_rfl
theorem impl_litTimes.bits10 : waitsOk impl_litTimes.T10.2 impl_litTimes.B10 = true := by kernel_rfl
def impl_litTimes.T13 : Bool × List (List Nat × List Nat) := (true, [([], []), ([], []), ([1], [1]), ([0, 2], [0, 2]), ([3], [3]), ([], []), ([5], [5]), ([4, 6], [4, 6]), ([7, 0, 1, 2, 3, 4, 5, 6, 7], [7])])
def impl_litTimes.B13 : List Nat := [0, 0, 2, 7, 15, 0, 32, 127, 255]
theorem impl_litTimes.tab13 : rtab .any (opsOf Try.f57 13) = impl_litTimes.T13 := by kernel_rfl
theorem impl_litTimes.bits13 : waitsOk impl_litTimes.T13.2 impl_litTimes.B13 = true := by kernel_rfl
set_option maxHeartbeats 8000000 in
set_option maxRecDepth 100000 in
theorem impl_litTimes.calls (k : Nat) (a0 : Int) (A1 : Option Addr) (c1 : Nat) (l1 : List (S84)) (r1 : List Int) (r2 : List Int) (w : World) (hr1 : Kd.C k84 w A1 l1.length l1) (hc1 : l1.length ≤ c1) (h : impl_litTimes.f k a0 l1 = some (r1, r2)) :
    Calls Try.prog 57 #[.int .i64 a0, .slice A1 l1.length c1] w fun e w' => ∃ v0_ v1_ : Value, e = .returned (.tuple #[v0_, v1_]) ∧ Kd.R (Kd.int .i64) 2 w' w.heap.size (fun k_ => some k_ ≠ (v1_ : Value).ownBlock) v0_ r1 ∧ Kd.R (Kd.int .i64) 2 w' w.heap.size (fun k_ => some k_ ≠ (v0_ : Value).ownBlock) v1_ r2 ∧ Below w.heap.size w w' := by
  have hu84 := Try.underlying84
  have HR1 := Aside0.mk hr1
  have HC1 := Aside0.mk hc1
  clear hr1 hc1
  have HB := Aside0.mk (Below.refl w.heap.size w)
  have H : (if 0 ≤ a0 then (if (a0 : Int).toNat ≤ 35184372088832 then (impl_litTimes.l0 k a0 l1 (List.replicate (a0 : Int).toNat 0) (List.replicate (a0 : Int).toNat 0) 1) else (none)) else (none)) = some (r1, r2) := h
  clear h
  by_cases c3 : 0 ≤ a0
  · rw [if_pos c3] at H
    have c3b0 := eq_true c3
    have c3b1 : decide (0 ≤ a0) = true := decide_eq_true c3
    clear c3
    by_cases c4 : (a0 : Int).toNat ≤ 35184372088832
    · rw [if_pos c4] at H
      have c4b0 := eq_true c4
      have c4b1 : decide ((a0 : Int).toNat ≤ 35184372088832) = true := decide_eq_true c4
      clear c4
      obtain ⟨y290, hy290⟩ : ∃ y_ : List Int, y_ = (List.replicate (a0 : Int).toNat 0) := ⟨_, rfl⟩
      replace H : (impl_litTimes.l0 k a0 l1 y290 (List.replicate (a0 : Int).toNat 0) 1) = some (r1, r2) := by first | (rw [hy290]; with_reducible exact H) | (have H2_ := (Option.bind_some _ _).symm.trans H; rw [hy290]; with_reducible exact H2_) | (have H2_ := (Option.bind_some _ _).symm.trans H; with_reducible exact H2_) | with_reducible exact H | (rw [hy290]; exact H) | exact H
      have Ny290 := Aside0.mk hy290
      clear hy290
      obtain ⟨y293, hy293⟩ : ∃ y_ : List Int, y_ = (List.replicate (a0 : Int).toNat 0) := ⟨_, rfl⟩
      replace H : (impl_litTimes.l0 k a0 l1 y290 y293 1) = some (r1, r2) := by first | (rw [hy293]; with_reducible exact H) | (have H2_ := (Option.bind_some _ _).symm.trans H; rw [hy293]; with_reducible exact H2_) | (have H2_ := (Option.bind_some _ _).symm.trans H; with_reducible exact H2_) | with_reducible exact H | (rw [hy293]; exact H) | exact H
      have Ny293 := Aside0.mk hy293
      clear hy293
      have H' := Aside0.mk H
      clear H
      go_enter Try.func57, Try.ntmps57
      try go_wp2
      have n0_ := Aside0.mk (below_drew1 HB.out)
      clear HB
      have HB := n0_
      clear n0_
      refine start_ (n := 6) (S := fun w' => True) (ds := []) #[false, false, false, false, false, false] (by kernel_rfl) rfl rfl trivial (fun hHeld => ?_)
      generalize w.drew = w5 at HB hHeld ⊢
      refine pure_ (i := 0) (N := some 13) (v := ?_) (a' := ?_) #[true, false, false, false, false, false] rfl rfl (by kernel_rfl) (fun _ _ _ h => h) (Or.inl ⟨by rfl, ?_⟩) ?_ ?_
      rotate_left
      · intro w'
        go_simp
        with_reducible rfl
      rotate_left
      · simp only [Act.put, List.setIfInBounds_toArray, List.set_cons_zero, List.set_cons_succ, i64_w, i32_w]
        rfl
      refine pure_ (i := 2) (N := some 15) (v := ?_) (a' := ?_) #[true, false, true, false, false, false] rfl rfl (by kernel_rfl) (fun _ _ _ h => h) (Or.inl ⟨by rfl, ?_⟩) ?_ ?_
      rotate_left
      · intro w'
        go_simp
        with_reducible rfl
      rotate_left
      · simp only [Act.put, List.setIfInBounds_toArray, List.set_cons_zero, List.set_cons_succ, i64_w, i32_w]
        rfl
      refine join_ (σ := Value × Value) 1 #[true, true, true, true, true, false] (fun s_ => [(14, s_.1), (16, s_.2), (6, s_.1)]) (fun s_ w' => (Kd.R (Kd.int .i64) 2 w' w.heap.size (fun k_ => some k_ ≠ (s_.2 : Value).ownBlock) s_.1 y290) ∧ (Kd.R (Kd.int .i64) 2 w' w.heap.size (fun k_ => some k_ ≠ (s_.1 : Value).ownBlock) s_.2 y293) ∧ (Below w.heap.size w w')) ?_ ?_
      rotate_left
      · intro hCont
        refine two_ (i := 1) (j := 3) (Ni := some 14) (Nj := some 16) #[true, true, true, false, false, false] #[true, false, true, true, false, false] rfl rfl rfl rfl (by kernel_rfl) (by decide) (by decide) (fun K hK => ?_) (fun K hK => ?_)
        · skip
          refine Kd.R_make_step (Kd.int .i64) _ 2 (by rfl) (N := 14) rfl 80 _ _ rfl a0 rfl rfl Try.underlying80 (.int .i64 0) 8 info2 rfl (by decide) (by omega) 0 (ok := fun _ => True) (okp := fun _ => True) rfl (fun _ hk => hk) trivial (of_decide_eq_true (by first | (with_reducible assumption) | assumption)) (Nat.le_trans (Nat.mul_le_mul_right _ (of_decide_eq_true (by first | (with_reducible assumption) | assumption) : a0.toNat ≤ 35184372088832)) (by omega)) (Below.refl _ _) (Nat.le_refl _) ?_
          intro v291 w6 ho7 hb hg_ hnew_
          clear hg_ hnew_
          (first | rw [← Ny290.out] at ho7 | (simp only [Int.reduceToNat] at ho7; rw [← Ny290.out] at ho7))
          have n0_ := Aside0.mk (Kd.R_lower ho7 (below_size (by repeat (first | (with_reducible first | exact HB.out | apply below_alloc | apply pw_below_drewN | apply below_drew1) | exact HB.out))))
          have n1_ := Aside0.mk (below_step (by repeat (first | (with_reducible first | exact HB.out | apply below_alloc | apply pw_below_drewN | apply below_drew1) | exact HB.out)) hb)
          clear HB
          have HO292 := n0_
          have HB := n1_
          clear n0_ n1_
          clear hb ho7
          refine hK.out _ _ trivial (fun hHeld => ?_)
          clear hK K
          refine norm_ (a' := ?_) ?_ ?_
          rotate_left
          · show Act.put _ (some 14) _ = _
            simp only [Act.put, List.setIfInBounds_toArray, List.set_cons_zero, List.set_cons_succ, i64_w, i32_w]
            rfl
          refine pure_ (i := 4) (N := some 6) (v := ?_) (a' := ?_) #[true, true, true, false, true, false] rfl rfl (by kernel_rfl) (fun _ _ _ h => h) (Or.inl ⟨by rfl, ?_⟩) ?_ ?_
          rotate_left
          · intro w'
            go_simp
            with_reducible rfl
          rotate_left
          · simp only [Act.put, List.setIfInBounds_toArray, List.set_cons_zero, List.set_cons_succ, i64_w, i32_w]
            rfl
          refine one_ (i := 3) (N := some 16) #[true, true, true, true, true, false] rfl rfl (by kernel_rfl) (by decide) (fun K hK => ?_)
          refine Kd.R_make_step (Kd.int .i64) _ 2 (by rfl) (N := 16) rfl 80 _ _ rfl a0 rfl rfl Try.underlying80 (.int .i64 0) 8 info2 rfl (by decide) (by omega) 0 (ok := fun _ => True) (okp := fun _ => True) rfl (fun _ hk => hk) trivial (of_decide_eq_true (by first | (with_reducible assumption) | assumption)) (Nat.le_trans (Nat.mul_le_mul_right _ (of_decide_eq_true (by first | (with_reducible assumption) | assumption) : a0.toNat ≤ 35184372088832)) (by omega)) (Below.refl _ _) (Nat.le_refl _) ?_
          intro v294 w8 ho9 hb hg_ hnew_
          clear hg_ hnew_
          (first | rw [← Ny293.out] at ho9 | (simp only [Int.reduceToNat] at ho9; rw [← Ny293.out] at ho9))
          have n0_ := Aside0.mk (Kd.R_elder' (by (with_reducible repeat (first | apply Kd.R_alloc | apply Kd.R_drewN | apply Kd.R_drew)); exact HO292.out) (Kd.R_base ho9) hb)
          have n1_ := Aside0.mk (Kd.R_lower (Kd.R_new' ho9 (Kd.R_lt (by (with_reducible repeat (first | apply Kd.R_alloc | apply Kd.R_drewN | apply Kd.R_drew)); exact HO292.out))) (below_size (by repeat (first | (with_reducible first | exact HB.out | apply below_alloc | apply pw_below_drewN | apply below_drew1) | exact HB.out))))
          have n2_ := Aside0.mk (below_step (by repeat (first | (with_reducible first | exact HB.out | apply below_alloc | apply pw_below_drewN | apply below_drew1) | exact HB.out)) hb)
          clear HO292
          clear HB
          have HO292 := n0_
          have HO295 := n1_
          have HB := n2_
          clear n0_ n1_ n2_
          clear hb ho9
          refine hK.out _ _ trivial (fun hHeld => ?_)
          clear hK K
          refine norm_ (a' := ?_) ?_ ?_
          rotate_left
          · show Act.put _ (some 16) _ = _
            simp only [Act.put, List.setIfInBounds_toArray, List.set_cons_zero, List.set_cons_succ, i64_w, i32_w]
            rfl
          exact norm_ (by simp only [putAll, Act.put, List.setIfInBounds_toArray, List.set_cons_zero, List.set_cons_succ]) (hCont (v291, v294) _ ⟨(by (with_reducible repeat (first | apply Kd.R_alloc | apply Kd.R_drewN | apply Kd.R_drew)); exact Kd.R_mono HO292.out (fun _ hk => hk.2)), (by (with_reducible repeat (first | apply Kd.R_alloc | apply Kd.R_drewN | apply Kd.R_drew)); exact Kd.R_mono HO295.out (fun _ hk => hk.2)), (by repeat (first | (with_reducible first | exact HB.out | apply below_alloc | apply pw_below_drewN | apply below_drew1) | exact HB.out))⟩)
        · skip
          refine Kd.R_make_step (Kd.int .i64) _ 2 (by rfl) (N := 16) rfl 80 _ _ rfl a0 rfl rfl Try.underlying80 (.int .i64 0) 8 info2 rfl (by decide) (by omega) 0 (ok := fun _ => True) (okp := fun _ => True) rfl (fun _ hk => hk) trivial (of_decide_eq_true (by first | (with_reducible assumption) | assumption)) (Nat.le_trans (Nat.mul_le_mul_right _ (of_decide_eq_true (by first | (with_reducible assumption) | assumption) : a0.toNat ≤ 35184372088832)) (by omega)) (Below.refl _ _) (Nat.le_refl _) ?_
          intro v294 w6 ho7 hb hg_ hnew_
          clear hg_ hnew_
          (first | rw [← Ny293.out] at ho7 | (simp only [Int.reduceToNat] at ho7; rw [← Ny293.out] at ho7))
          have n0_ := Aside0.mk (Kd.R_lower ho7 (below_size (by repeat (first | (with_reducible first | exact HB.out | apply below_alloc | apply pw_below_drewN | apply below_drew1) | exact HB.out))))
          have n1_ := Aside0.mk (below_step (by repeat (first | (with_reducible first | exact HB.out | apply below_alloc | apply pw_below_drewN | apply below_drew1) | exact HB.out)) hb)
          clear HB
          have HO295 := n0_
          have HB := n1_
          clear n0_ n1_
          clear hb ho7
          refine hK.out _ _ trivial (fun hHeld => ?_)
          clear hK K
          refine norm_ (a' := ?_) ?_ ?_
          rotate_left
          · show Act.put _ (some 16) _ = _
            simp only [Act.put, List.setIfInBounds_toArray, List.set_cons_zero, List.set_cons_succ, i64_w, i32_w]
            rfl
          refine one_ (i := 1) (N := some 14) #[true, true, true, true, false, false] rfl rfl (by kernel_rfl) (by decide) (fun K hK => ?_)
          refine Kd.R_make_step (Kd.int .i64) _ 2 (by rfl) (N := 14) rfl 80 _ _ rfl a0 rfl rfl Try.underlying80 (.int .i64 0) 8 info2 rfl (by decide) (by omega) 0 (ok := fun _ => True) (okp := fun _ => True) rfl (fun _ hk => hk) trivial (of_decide_eq_true (by first | (with_reducible assumption) | assumption)) (Nat.le_trans (Nat.mul_le_mul_right _ (of_decide_eq_true (by first | (with_reducible assumption) | assumption) : a0.toNat ≤ 35184372088832)) (by omega)) (Below.refl _ _) (Nat.le_refl _) ?_
          intro v291 w8 ho9 hb hg_ hnew_
          clear hg_ hnew_
          (first | rw [← Ny290.out] at ho9 | (simp only [Int.reduceToNat] at ho9; rw [← Ny290.out] at ho9))
          have n0_ := Aside0.mk (Kd.R_elder' (by (with_reducible repeat (first | apply Kd.R_alloc | apply Kd.R_drewN | apply Kd.R_drew)); exact HO295.out) (Kd.R_base ho9) hb)
          have n1_ := Aside0.mk (Kd.R_lower (Kd.R_new' ho9 (Kd.R_lt (by (with_reducible repeat (first | apply Kd.R_alloc | apply Kd.R_drewN | apply Kd.R_drew)); exact HO295.out))) (below_size (by repeat (first | (with_reducible first | exact HB.out | apply below_alloc | apply pw_below_drewN | apply below_drew1) | exact HB.out))))
          have n2_ := Aside0.mk (below_step (by repeat (first | (with_reducible first | exact HB.out | apply below_alloc | apply pw_below_drewN | apply below_drew1) | exact HB.out)) hb)
          clear HO295
          clear HB
          have HO295 := n0_
          have HO292 := n1_
          have HB := n2_
          clear n0_ n1_ n2_
          clear hb ho9
          refine hK.out _ _ trivial (fun hHeld => ?_)
          clear hK K
          refine norm_ (a' := ?_) ?_ ?_
          rotate_left
          · show Act.put _ (some 14) _ = _
            simp only [Act.put, List.setIfInBounds_toArray, List.set_cons_zero, List.set_cons_succ, i64_w, i32_w]
            rfl
          refine pure_ (i := 4) (N := some 6) (v := ?_) (a' := ?_) #[true, true, true, true, true, false] rfl rfl (by kernel_rfl) (fun _ _ _ h => h) (Or.inl ⟨by rfl, ?_⟩) ?_ ?_
          rotate_left
          · intro w'
            go_simp
            with_reducible rfl
          rotate_left
          · simp only [Act.put, List.setIfInBounds_toArray, List.set_cons_zero, List.set_cons_succ, i64_w, i32_w]
            rfl
          exact norm_ (by simp only [putAll, Act.put, List.setIfInBounds_toArray, List.set_cons_zero, List.set_cons_succ]) (hCont (v291, v294) _ ⟨(by (with_reducible repeat (first | apply Kd.R_alloc | apply Kd.R_drewN | apply Kd.R_drew)); exact Kd.R_mono HO292.out (fun _ hk => hk.2)), (by (with_reducible repeat (first | apply Kd.R_alloc | apply Kd.R_drewN | apply Kd.R_drew)); exact Kd.R_mono HO295.out (fun _ hk => hk.2)), (by repeat (first | (with_reducible first | exact HB.out | apply below_alloc | apply pw_below_drewN | apply below_drew1) | exact HB.out))⟩)
      rintro ⟨v291, v294⟩ w10 ⟨h0_, h1_, h2_⟩
      have n0_ : Aside0 (Kd.R (Kd.int .i64) 2 w10 w.heap.size (fun k_ => some k_ ≠ (v294 : Value).ownBlock) v291 y290) := ⟨h0_⟩
      have n1_ : Aside0 (Kd.R (Kd.int .i64) 2 w10 w.heap.size (fun k_ => some k_ ≠ (v291 : Value).ownBlock) v294 y293) := ⟨h1_⟩
      have n2_ : Aside0 (Below w.heap.size w w10) := ⟨h2_⟩
      clear HB
      clear h0_ h1_ h2_
      have HO292 := n0_
      have HO295 := n1_
      have HB := n2_
      clear n0_ n1_ n2_
      have hHeld := trivial
      refine norm_ (a' := ?_) ?_ ?_
      rotate_left
      · simp only [putAll, Act.put, List.setIfInBounds_toArray, List.set_cons_zero, List.set_cons_succ]
        rfl
      refine pure_ (i := 5) (N := some 7) (v := ?_) (a' := ?_) #[true, true, true, true, true, true] rfl rfl (by kernel_rfl) (fun _ _ _ h => h) (Or.inl ⟨by rfl, ?_⟩) ?_ ?_
      rotate_left
      · intro w'
        go_simp
        with_reducible rfl
      rotate_left
      · simp only [Act.put, List.setIfInBounds_toArray, List.set_cons_zero, List.set_cons_succ, i64_w, i32_w]
        rfl
      refine done_ (by kernel_rfl) ?_
      try go_wp2
      go_loopg [8] k (fun kq v8 w' => ∃ (x6_1 : List Int) (x7_1 : List Int) (x8_1 : Int), v8 = .int .i64 x8_1 ∧ Aside0 (impl_litTimes.l0 kq a0 l1 x6_1 x7_1 x8_1 = some (r1, r2)) ∧ Aside0 (kq ≤ k) ∧ Aside0 (Kd.R (Kd.int .i64) 2 w' w.heap.size (fun k_ => some k_ ≠ (v294 : Value).ownBlock) v291 x6_1) ∧ Aside0 (Kd.R (Kd.int .i64) 2 w' w.heap.size (fun k_ => some k_ ≠ (v291 : Value).ownBlock) v294 x7_1) ∧ Aside0 (Below w.heap.size w w'))
      case atStart => exact ⟨(y290), (y293), (1), (by first | rfl | (simp; done) | (simp [*]; done)), H', ⟨Nat.le_refl _⟩, ⟨by (with_reducible repeat (first | apply Kd.R_alloc | apply Kd.R_drewN | apply Kd.R_drew)); exact HO292.out⟩, ⟨by (with_reducible repeat (first | apply Kd.R_alloc | apply Kd.R_drewN | apply Kd.R_drew)); exact HO295.out⟩, ⟨by repeat (first | (with_reducible first | exact HB.out | apply below_alloc | apply pw_below_drewN | apply below_drew1) | exact HB.out)⟩⟩
      case round =>
        clear H'
        try clear c1
        try clear p2
        try clear c3
        try clear c3b0
        try clear c3b1
        try clear c4
        try clear c4b0
        try clear c4b1
        try clear c5
        obtain ⟨x6_1, x7_1, x8_1, rfl, HA, HK1, HO_6, HO_7, HB⟩ := hrel
        cases gk with
        | zero => exact absurd HA.out (by simp [impl_litTimes.l0])
        | succ k1 =>
          have H := HA.out
          clear HA
          simp only [impl_litTimes.l0] at H
          by_cases c11 : x8_1 < a0
          · rw [if_pos c11] at H
            have c11b0 : decide (x8_1 < a0) = true := decide_eq_true c11
            clear c11
            by_cases c12 : 0 ≤ x8_1
            · rw [if_pos c12] at H
              have c12b0 : decide (0 ≤ x8_1) = true := decide_eq_true c12
              clear c12
              by_cases c13 : x8_1 < (x6_1.length : Int)
              · rw [if_pos c13] at H
                have c13b0 : decide (x8_1 < (x6_1.length : Int)) = true := decide_eq_true c13
                clear c13
                obtain ⟨y296, hy296⟩ : ∃ y_ : List Int, y_ = (x6_1.set (x8_1 : Int).toNat (-1)) := ⟨_, rfl⟩
                replace H : (if x8_1 < (x7_1.length : Int) then (impl_litTimes.l1 k1 a0 l1 y296 (x7_1.set (x8_1 : Int).toNat (-1)) x8_1 l1 (l1.length : Int) 0) else (none)) = some (r1, r2) := by first | (rw [hy296]; with_reducible exact H) | (have H2_ := (Option.bind_some _ _).symm.trans H; rw [hy296]; with_reducible exact H2_) | (have H2_ := (Option.bind_some _ _).symm.trans H; with_reducible exact H2_) | with_reducible exact H | (rw [hy296]; exact H) | exact H
                have Ny296 := Aside0.mk hy296
                clear hy296
                by_cases c15 : x8_1 < (x7_1.length : Int)
                · rw [if_pos c15] at H
                  have c15b0 : decide (x8_1 < (x7_1.length : Int)) = true := decide_eq_true c15
                  clear c15
                  obtain ⟨y297, hy297⟩ : ∃ y_ : List Int, y_ = (x7_1.set (x8_1 : Int).toNat (-1)) := ⟨_, rfl⟩
                  replace H : (impl_litTimes.l1 k1 a0 l1 y296 y297 x8_1 l1 (l1.length : Int) 0) = some (r1, r2) := by first | (rw [hy297]; with_reducible exact H) | (have H2_ := (Option.bind_some _ _).symm.trans H; rw [hy297]; with_reducible exact H2_) | (have H2_ := (Option.bind_some _ _).symm.trans H; with_reducible exact H2_) | with_reducible exact H | (rw [hy297]; exact H) | exact H
                  have Ny297 := Aside0.mk hy297
                  clear hy297
                  have H' := Aside0.mk H
                  clear H
                  have p14 : 0 ≤ (x8_1 : Int) := of_decide_eq_true (by first | (with_reducible assumption) | assumption)
                  have q14 : (x8_1 : Int) < ((x6_1.length : Int) : Int) := of_decide_eq_true (by first | (with_reducible assumption) | assumption)
                  obtain ⟨go14, co14, eo14, gb14, gl14, cl14, HG14⟩ := Kd.R_form HO_6.out (by omega)
                  (first | cases eo14 | (injection eo14 with ea_ en_ ec_; (first | subst ea_ | (injection ea_ with ea_; subst ea_)); subst ec_; clear en_))
                  have GB14 := Aside0.mk gb14
                  have GG14 := Aside0.mk HG14
                  clear gb14 gl14 HG14
                  obtain ⟨hx14_0, hf14_0⟩ := Kd.R_celln 0 HO_6.out (x8_1 : Int) p14 q14
                  replace p14 := eq_true p14
                  replace q14 := eq_true q14
                  have HP17 := Kd.R_putg HO_6.out (x8_1 : Int) (-1)
                  go_wp2_with (first | ((with_reducible refine gate_store (t := 2) (p := 26) rfl ?_); refine store_event (t := 2) (p := 26) (v := ?vo_w18) (w1 := (wr.setCell ⟨go14, (x8_1 : Int).toNat, none⟩ (.int .i64 (-1)))) ?hg ?ho ?hn ?hr ?_; (case ho => rfl); (case hg => rfl); (case hn => rfl); (case hr => first | (go_simp; done) | (go_simp; rfl)); intro w18 hw; have hg : wr.grownBy w18 (some go14) := (by rw [hw]; exact HP17.2); have hp_ : Kd.R (Kd.int .i64) 2 w18 w.heap.size (fun k_ => some k_ ≠ (v294 : Value).ownBlock) (.slice (some ⟨go14, 0, none⟩) x6_1.length co14) y296 := (by rw [hw, Ny296.out]; exact HP17.1); clear HP17; have n0_ := Aside0.mk (hp_); have n1_ := Aside0.mk (Kd.R_after (v := (.slice (some ⟨go14, 0, none⟩) x6_1.length co14)) (v1 := (.slice (some ⟨go14, 0, none⟩) x6_1.length co14)) (ok := (fun _ => True)) (by (with_reducible repeat (first | apply Kd.R_alloc | apply Kd.R_drewN | apply Kd.R_drew)); exact Kd.R_mono HO_7.out (fun _ hk => ⟨trivial, hk⟩)) hg (.inl rfl)); have n2_ := Aside0.mk ((by rw [hw]; exact below_set (HB.out) GB14.out : Below w.heap.size w w18)); clear HO_6; clear HO_7; clear HB; have HO_6 := n0_; have HO_7 := n1_; have HB := n2_; clear n0_ n1_ n2_; clear hg hw hp_; have p16 : 0 ≤ (x8_1 : Int) := of_decide_eq_true (by first | (with_reducible assumption) | assumption); have q16 : (x8_1 : Int) < ((x7_1.length : Int) : Int) := of_decide_eq_true (by first | (with_reducible assumption) | assumption); obtain ⟨go16, co16, eo16, gb16, gl16, cl16, HG16⟩ := Kd.R_form HO_7.out (by omega); (first | cases eo16 | (injection eo16 with ea_ en_ ec_; (first | subst ea_ | (injection ea_ with ea_; subst ea_)); subst ec_; clear en_)); have GB16 := Aside0.mk gb16; have GG16 := Aside0.mk HG16; clear gb16 gl16 HG16; obtain ⟨hx16_0, hf16_0⟩ := Kd.R_celln 0 HO_7.out (x8_1 : Int) p16 q16; replace p16 := eq_true p16; replace q16 := eq_true q16; have n_ := Aside0.mk (Kd.R_mono (ok' := (fun k_ => some k_ ≠ (.slice (some ⟨go14, 0, none⟩) x6_1.length co14 : Value).ownBlock)) HO_7.out (fun k_ hk => hk.2)); clear HO_7; have HO_7 := n_; clear n_; obtain ⟨hy19_, hz19_⟩ := Kd.R_celln 0 HO_7.out (x8_1 : Int) (of_decide_eq_true (by first | (with_reducible assumption) | assumption)) (of_decide_eq_true (by first | (with_reducible assumption) | assumption)); have HP19 := Kd.R_putg HO_7.out (x8_1 : Int) (-1)) | ((with_reducible refine gate_store (t := 2) (p := 27) rfl ?_); refine store_event (t := 2) (p := 27) (v := ?vo_w20) (w1 := (w18.setCell ⟨go16, (x8_1 : Int).toNat, none⟩ (.int .i64 (-1)))) ?hg ?ho ?hn ?hr ?_; (case ho => rfl); (case hg => rfl); (case hn => rfl); (case hr => first | (go_simp; done) | (go_simp; rfl)); intro w20 hw; have hg : w18.grownBy w20 (some go16) := (by rw [hw]; exact HP19.2); have hp_ : Kd.R (Kd.int .i64) 2 w20 w.heap.size (fun k_ => some k_ ≠ (.slice (some ⟨go14, 0, none⟩) x6_1.length co14 : Value).ownBlock) (.slice (some ⟨go16, 0, none⟩) x7_1.length co16) y297 := (by rw [hw, Ny297.out]; exact HP19.1); clear HP19; have n0_ := Aside0.mk (Kd.R_after (v := (.slice (some ⟨go16, 0, none⟩) x7_1.length co16)) (v1 := (.slice (some ⟨go16, 0, none⟩) x7_1.length co16)) (ok := (fun _ => True)) (by (with_reducible repeat (first | apply Kd.R_alloc | apply Kd.R_drewN | apply Kd.R_drew)); exact Kd.R_mono HO_6.out (fun _ hk => ⟨trivial, hk⟩)) hg (.inl rfl)); have n1_ := Aside0.mk (hp_); have n2_ := Aside0.mk ((by rw [hw]; exact below_set (HB.out) GB16.out : Below w.heap.size w w20)); clear HO_6; clear HO_7; clear HB; have HO_6 := n0_; have HO_7 := n1_; have HB := n2_; clear n0_ n1_ n2_; clear hg hw hp_))
                  go_loopg [30] k1 (fun kq v30 w' => ∃ (x6_2 : List Int) (x7_2 : List Int) (x30_2 : Int), v30 = .int .i64 x30_2 ∧ Aside0 (impl_litTimes.l1 kq a0 l1 x6_2 x7_2 x8_1 l1 (l1.length : Int) x30_2 = some (r1, r2)) ∧ Aside0 (kq ≤ k1) ∧ Aside0 (Kd.R (Kd.int .i64) 2 w' w.heap.size (fun k_ => some k_ ≠ ((.slice (some ⟨go16, 0, none⟩) x7_1.length co16) : Value).ownBlock) (.slice (some ⟨go14, 0, none⟩) x6_1.length co14) x6_2) ∧ Aside0 (Kd.R (Kd.int .i64) 2 w' w.heap.size (fun k_ => some k_ ≠ ((.slice (some ⟨go14, 0, none⟩) x6_1.length co14) : Value).ownBlock) (.slice (some ⟨go16, 0, none⟩) x7_1.length co16) x7_2) ∧ Aside0 (Below w.heap.size w w'))
                  case atStart => exact ⟨(y296), (y297), (0), (by first | rfl | (simp; done) | (simp [*]; done)), H', ⟨Nat.le_refl _⟩, ⟨by (with_reducible repeat (first | apply Kd.R_alloc | apply Kd.R_drewN | apply Kd.R_drew)); exact Kd.R_mono HO_6.out (fun _ hk => hk.2)⟩, ⟨by (with_reducible repeat (first | apply Kd.R_alloc | apply Kd.R_drewN | apply Kd.R_drew)); exact HO_7.out⟩, ⟨by repeat (first | (with_reducible first | exact HB.out | apply below_alloc | apply pw_below_drewN | apply below_drew1) | exact HB.out)⟩⟩
                  case round =>
                    clear H'
                    try clear c1
                    try clear p1
                    try clear q1
                    try clear hx1
                    try clear p2
                    try clear c3
                    try clear c3b0
                    try clear c3b1
                    try clear c4
                    try clear c4b0
                    try clear c4b1
                    try clear c5
                    try clear c11
                    try clear c11b0
                    try clear c12
                    try clear c12b0
                    try clear c13
                    try clear c13b0
                    try clear p14
                    try clear q14
                    try clear hx14
                    try clear hf14
                    try clear c15
                    try clear c15b0
                    try clear p16
                    try clear q16
                    try clear hx16
                    try clear hf16
                    try clear hx14_0
                    try clear hx16_0
                    try clear p14
                    try clear p16
                    try clear p2
                    try clear q14
                    try clear q16
                    obtain ⟨x6_2, x7_2, x30_2, rfl, HA, HK2, HO_6, HO_7, HB⟩ := hrel
                    have hl6_2 := (Kd.R_reads' HO_6.out).1
                    rw [hl6_2] at HO_6
                    (try simp only [hl6_2])
                    (try simp only [hl6_2] at HO_7)
                    have hl7_2 := (Kd.R_reads' HO_7.out).1
                    rw [hl7_2] at HO_7
                    (try simp only [hl7_2])
                    (try simp only [hl7_2] at HO_6)
                    cases gk with
                    | zero => exact absurd HA.out (by simp [impl_litTimes.l1])
                    | succ k2 =>
                      have H := HA.out
                      clear HA
                      simp only [impl_litTimes.l1] at H
                      by_cases c21 : x30_2 < (l1.length : Int)
                      · rw [if_pos c21] at H
                        have c21b0 : decide (x30_2 < (l1.length : Int)) = true := decide_eq_true c21
                        clear c21
                        by_cases c22 : 0 ≤ x30_2
                        · rw [if_pos c22] at H
                          have c22b0 : decide (0 ≤ x30_2) = true := decide_eq_true c22
                          clear c22
                          by_cases c23 : x30_2 < (l1.length : Int)
                          · rw [if_pos c23] at H
                            have c23b0 : decide (x30_2 < (l1.length : Int)) = true := decide_eq_true c23
                            clear c23
                            have HC24 := Aside0.mk H
                            clear H
                            have p298 : 0 ≤ (x30_2 : Int) := of_decide_eq_true (by first | (with_reducible assumption) | assumption)
                            have q298 : x30_2 < (l1.length : Int) := of_decide_eq_true (by first | (with_reducible assumption) | assumption)
                            obtain ⟨ad298, e298, hx298_0, hx298_1, hx298_2, hx298_3⟩ := at_T84 HR1.out x30_2 p298 q298
                            cases e298
                            replace hx298_0 := (HB.out.cell (World.block_lt_of_cell? w _ hx298_0)).trans hx298_0
                            replace hx298_1 := (HB.out.cell (World.block_lt_of_cell? w _ hx298_1)).trans hx298_1
                            replace hx298_2 := (HB.out.cell (World.block_lt_of_cell? w _ hx298_2)).trans hx298_2
                            replace hx298_3 := (HB.out.cell (World.block_lt_of_cell? w _ hx298_3)).trans hx298_3
                            replace p298 := eq_true p298
                            replace q298 := eq_true q298
                            go_upto_region 9 with (first | ((with_reducible refine gate_dst (N := 10) rfl ?_); refine box_event ?hg (N := 10) ?hd (cs := #[.int .i64 0, .int .i64 0, .int .i64 0, .int .i64 0]) (t := 84) ?hr ?_; (case hd => rfl); (case hg => rfl); (case hr => first | (go_simp; done) | (go_simp; rfl)); intro gb299 hg w25 hbox hb; have n0_ := Aside0.mk (Kd.R_below (by (with_reducible repeat (first | apply Kd.R_alloc | apply Kd.R_drewN | apply Kd.R_drew)); exact HO_6.out) hb); have n1_ := Aside0.mk (Kd.R_below (by (with_reducible repeat (first | apply Kd.R_alloc | apply Kd.R_drewN | apply Kd.R_drew)); exact HO_7.out) hb); have n2_ := Aside0.mk (below_step (by repeat (first | (with_reducible first | exact HB.out | apply below_alloc | apply pw_below_drewN | apply below_drew1) | exact HB.out)) hb); have n3_ := Aside0.mk (hbox); have n4_ := Aside0.mk ((by rw [hg]; exact (below_size (by repeat (first | (with_reducible first | exact HB.out | apply below_alloc | apply pw_below_drewN | apply below_drew1) | exact HB.out))) : w.heap.size ≤ gb299)); have n5_ := Aside0.mk ((by rw [hg]; exact (below_size (by repeat (first | (with_reducible first | exact HB.out | apply below_alloc | apply pw_below_drewN | apply below_drew1) | exact HB.out))) : w.heap.size ≤ gb299)); clear HO_6; clear HO_7; clear HB; have HO_6 := n0_; have HO_7 := n1_; have HB := n2_; have BK299 := n3_; have GW299 := n4_; have GE299 := n5_; clear n0_ n1_ n2_ n3_ n4_ n5_; clear hb hbox hg; have hcz26_0 : w25.cell? ⟨gb299, 0, none⟩ = some (.int .i64 0) := (blk_cell BK299.out 0).trans rfl; have hcz26_1 : w25.cell? ⟨gb299, 1, none⟩ = some (.int .i64 0) := (blk_cell BK299.out 1).trans rfl; have hcz26_2 : w25.cell? ⟨gb299, 2, none⟩ = some (.int .i64 0) := (blk_cell BK299.out 2).trans rfl; have hcz26_3 : w25.cell? ⟨gb299, 3, none⟩ = some (.int .i64 0) := (blk_cell BK299.out 3).trans rfl; have hfz26_0 := blk_frozen BK299.out 0; have hfz26_1 := blk_frozen BK299.out 1; have hfz26_2 := blk_frozen BK299.out 2; have hfz26_3 := blk_frozen BK299.out 3))
                            (try simp only [Act.put, List.setIfInBounds_toArray, List.set_cons_zero, List.set_cons_succ])
                            go_cut [45] (fun v45 wc => ∃ (kq : Nat) (x45_23 : Bool), v45 = .bool x45_23 ∧ Aside0 (impl_litTimes.j2 kq a0 l1 x6_2 x7_2 x8_1 l1 (l1.length : Int) x30_2 x45_23 ((rd_T84 l1 x30_2).f0) ((rd_T84 l1 x30_2).f1) ((rd_T84 l1 x30_2).f2) ((rd_T84 l1 x30_2).f3) = some (r1, r2)) ∧ Aside0 (kq ≤ k2) ∧ Aside0 (Kd.R (Kd.int .i64) 2 wc w.heap.size (fun k_ => some k_ ≠ ((.slice (some ⟨go16, 0, none⟩) x7_2.length co16) : Value).ownBlock) (.slice (some ⟨go14, 0, none⟩) x6_2.length co14) x6_2) ∧ Aside0 (Kd.R (Kd.int .i64) 2 wc w.heap.size (fun k_ => some k_ ≠ ((.slice (some ⟨go14, 0, none⟩) x6_2.length co14) : Value).ownBlock) (.slice (some ⟨go16, 0, none⟩) x7_2.length co16) x7_2) ∧ Aside0 (wc.heap[gb299]? = some (.cells #[.int .i64 ((rd_T84 l1 x30_2).f0), .int .i64 ((rd_T84 l1 x30_2).f1), .int .i64 ((rd_T84 l1 x30_2).f2), .int .i64 ((rd_T84 l1 x30_2).f3)] 84 (0, 0))) ∧ Aside0 (Below w.heap.size w wc))
                            case first =>
                              have H := HC24.out
                              clear HC24
                              by_cases c27 : ((rd_T84 l1 x30_2).f1) = x8_1
                              · rw [if_pos c27] at H
                                have c27b0 : (((rd_T84 l1 x30_2).f1) == x8_1) = true := beq_iff_eq.mpr c27
                                have c27b1 : (((rd_T84 l1 x30_2).f1) != x8_1) = false := bne_eq_false_iff_eq.mpr c27
                                clear c27
                                (first | rw [c27b0] | (simp only [i64_w, i32_w]; rw [c27b0]) | skip)
                                by_cases c28 : 0 ≤ ((rd_T84 l1 x30_2).f0)
                                · rw [if_pos c28] at H
                                  have c28b0 : decide (0 ≤ ((rd_T84 l1 x30_2).f0)) = true := decide_eq_true c28
                                  clear c28
                                  by_cases c29 : ((rd_T84 l1 x30_2).f0) < (x6_2.length : Int)
                                  · rw [if_pos c29] at H
                                    have c29b0 : decide (((rd_T84 l1 x30_2).f0) < (x6_2.length : Int)) = true := decide_eq_true c29
                                    clear c29
                                    have H' := Aside0.mk H
                                    clear H
                                    have hcz30_0 : w25.cell? ⟨gb299, 0, none⟩ = some (.int .i64 0) := (blk_cell BK299.out 0).trans rfl
                                    have hcz30_1 : w25.cell? ⟨gb299, 1, none⟩ = some (.int .i64 0) := (blk_cell BK299.out 1).trans rfl
                                    have hcz30_2 : w25.cell? ⟨gb299, 2, none⟩ = some (.int .i64 0) := (blk_cell BK299.out 2).trans rfl
                                    have hcz30_3 : w25.cell? ⟨gb299, 3, none⟩ = some (.int .i64 0) := (blk_cell BK299.out 3).trans rfl
                                    have hfz30_0 := blk_frozen BK299.out 0
                                    have hfz30_1 := blk_frozen BK299.out 1
                                    have hfz30_2 := blk_frozen BK299.out 2
                                    have hfz30_3 := blk_frozen BK299.out 3
                                    have p300 : 0 ≤ (((rd_T84 l1 x30_2).f0) : Int) := of_decide_eq_true (by first | (with_reducible assumption) | assumption)
                                    have q300 : ((rd_T84 l1 x30_2).f0) < (x6_2.length : Int) := of_decide_eq_true (by first | (with_reducible assumption) | assumption)
                                    obtain ⟨ad300, e300, hx300_0⟩ := Kd.at_int (Kd.R_reads' HO_6.out).2.2 ((rd_T84 l1 x30_2).f0) p300 q300
                                    obtain rfl : (⟨go14, 0, none⟩ : Addr) = ad300 := (by injection e300)
                                    (first | simp only [add_plain] at hx300_0 | simp only [add_at] at hx300_0 | simp only [Addr.add, Nat.zero_add] at hx300_0 | skip)
                                    have hn300_0 : (⟨go14, 0, none⟩ : Addr).block ≠ gb299 := Kd.own_blk (Kd.R_ne HO_6.out BK299.out (by decide))
                                    have hn300_1 : (⟨go14, 0, none⟩ : Addr).block ≠ gb299 := Kd.own_blk (Kd.R_ne HO_6.out BK299.out (by decide))
                                    have hn300_2 : (⟨go14, 0, none⟩ : Addr).block ≠ gb299 := Kd.own_blk (Kd.R_ne HO_6.out BK299.out (by decide))
                                    have hn300_3 : (⟨go14, 0, none⟩ : Addr).block ≠ gb299 := Kd.own_blk (Kd.R_ne HO_6.out BK299.out (by decide))
                                    replace hx300_0 := (cell_far (p := ⟨gb299, 0, none⟩) (by first | (rw [add_block]; exact hn300_0) | (show (Addr.add _ _).block ≠ _; rw [add_block]; exact hn300_0) | exact hn300_0) (.int .i64 ((rd_T84 l1 x30_2).f0))).trans hx300_0
                                    replace hx300_0 := (cell_far (p := ⟨gb299, 1, none⟩) (by first | (rw [add_block]; exact hn300_1) | (show (Addr.add _ _).block ≠ _; rw [add_block]; exact hn300_1) | exact hn300_1) (.int .i64 ((rd_T84 l1 x30_2).f1))).trans hx300_0
                                    replace hx300_0 := (cell_far (p := ⟨gb299, 2, none⟩) (by first | (rw [add_block]; exact hn300_2) | (show (Addr.add _ _).block ≠ _; rw [add_block]; exact hn300_2) | exact hn300_2) (.int .i64 ((rd_T84 l1 x30_2).f2))).trans hx300_0
                                    replace hx300_0 := (cell_far (p := ⟨gb299, 3, none⟩) (by first | (rw [add_block]; exact hn300_3) | (show (Addr.add _ _).block ≠ _; rw [add_block]; exact hn300_3) | exact hn300_3) (.int .i64 ((rd_T84 l1 x30_2).f3))).trans hx300_0
                                    clear hn300_0
                                    clear hn300_1
                                    clear hn300_2
                                    clear hn300_3
                                    replace p300 := eq_true p300
                                    replace q300 := eq_true q300
                                    go_wp2
                                    go_meet
                                    case rel => exact ⟨_, (decide ((rd x6_2 ((rd_T84 l1 x30_2).f0)) < 0)), (by first | rfl | (simp; done) | (simp [*]; done)), H', ⟨by have := HK1.out; have := HK2.out; first | omega | exact Nat.le_refl _⟩, ⟨by (try simp only [hl6_2]); (try simp only [hl7_2]); (with_reducible repeat (first | apply Kd.R_alloc | apply Kd.R_drewN | apply Kd.R_drew)); exact Kd.R_mono (Kd.R_far (p := ⟨gb299, 3, none⟩) (Kd.R_far (p := ⟨gb299, 2, none⟩) (Kd.R_far (p := ⟨gb299, 1, none⟩) (Kd.R_far (p := ⟨gb299, 0, none⟩) (Kd.R_types HO_6.out BK299.out (by decide)) (fun _ hk => hk.2) (.int .i64 ((rd_T84 l1 x30_2).f0))) (fun _ hk => hk.2) (.int .i64 ((rd_T84 l1 x30_2).f1))) (fun _ hk => hk.2) (.int .i64 ((rd_T84 l1 x30_2).f2))) (fun _ hk => hk.2) (.int .i64 ((rd_T84 l1 x30_2).f3))) (fun _ hk => hk.1)⟩, ⟨by (try simp only [hl6_2]); (try simp only [hl7_2]); (with_reducible repeat (first | apply Kd.R_alloc | apply Kd.R_drewN | apply Kd.R_drew)); exact Kd.R_mono (Kd.R_far (p := ⟨gb299, 3, none⟩) (Kd.R_far (p := ⟨gb299, 2, none⟩) (Kd.R_far (p := ⟨gb299, 1, none⟩) (Kd.R_far (p := ⟨gb299, 0, none⟩) (Kd.R_types HO_7.out BK299.out (by decide)) (fun _ hk => hk.2) (.int .i64 ((rd_T84 l1 x30_2).f0))) (fun _ hk => hk.2) (.int .i64 ((rd_T84 l1 x30_2).f1))) (fun _ hk => hk.2) (.int .i64 ((rd_T84 l1 x30_2).f2))) (fun _ hk => hk.2) (.int .i64 ((rd_T84 l1 x30_2).f3))) (fun _ hk => hk.1)⟩, ⟨by (try simp only [hl6_2]); (try simp only [hl7_2]); (with_reducible repeat (first | refine blk_drewN ?_ _ | refine blk_drew ?_ | refine blk_alloc ?_ _)); refine blk_put (cs := #[.int .i64 ((rd_T84 l1 x30_2).f0), .int .i64 ((rd_T84 l1 x30_2).f1), .int .i64 ((rd_T84 l1 x30_2).f2), .int .i64 0]) ?_ 3 _ rfl; (with_reducible repeat (first | refine blk_drewN ?_ _ | refine blk_drew ?_ | refine blk_alloc ?_ _)); refine blk_put (cs := #[.int .i64 ((rd_T84 l1 x30_2).f0), .int .i64 ((rd_T84 l1 x30_2).f1), .int .i64 0, .int .i64 0]) ?_ 2 _ rfl; (with_reducible repeat (first | refine blk_drewN ?_ _ | refine blk_drew ?_ | refine blk_alloc ?_ _)); refine blk_put (cs := #[.int .i64 ((rd_T84 l1 x30_2).f0), .int .i64 0, .int .i64 0, .int .i64 0]) ?_ 1 _ rfl; (with_reducible repeat (first | refine blk_drewN ?_ _ | refine blk_drew ?_ | refine blk_alloc ?_ _)); refine blk_put (cs := #[.int .i64 0, .int .i64 0, .int .i64 0, .int .i64 0]) ?_ 0 _ rfl; (with_reducible repeat (first | refine blk_drewN ?_ _ | refine blk_drew ?_ | refine blk_alloc ?_ _)); exact BK299.out⟩, ⟨by repeat (first | (with_reducible first | exact HB.out | apply below_alloc | apply pw_below_drewN | apply below_drew1 | refine below_set ?_ GE299.out) | exact HB.out)⟩⟩
                                  · rw [if_neg c29] at H
                                    exact absurd H (by simp)
                                · rw [if_neg c28] at H
                                  exact absurd H (by simp)
                              · rw [if_neg c27] at H
                                have c27b0 : (((rd_T84 l1 x30_2).f1) == x8_1) = false := beq_eq_false_iff_ne.mpr c27
                                have c27b1 : (((rd_T84 l1 x30_2).f1) != x8_1) = true := bne_iff_ne.mpr c27
                                (first | rw [c27b0] | (simp only [i64_w, i32_w]; rw [c27b0]) | skip)
                                have H' := Aside0.mk H
                                clear H
                                have hcz31_0 : w25.cell? ⟨gb299, 0, none⟩ = some (.int .i64 0) := (blk_cell BK299.out 0).trans rfl
                                have hcz31_1 : w25.cell? ⟨gb299, 1, none⟩ = some (.int .i64 0) := (blk_cell BK299.out 1).trans rfl
                                have hcz31_2 : w25.cell? ⟨gb299, 2, none⟩ = some (.int .i64 0) := (blk_cell BK299.out 2).trans rfl
                                have hcz31_3 : w25.cell? ⟨gb299, 3, none⟩ = some (.int .i64 0) := (blk_cell BK299.out 3).trans rfl
                                have hfz31_0 := blk_frozen BK299.out 0
                                have hfz31_1 := blk_frozen BK299.out 1
                                have hfz31_2 := blk_frozen BK299.out 2
                                have hfz31_3 := blk_frozen BK299.out 3
                                go_wp2
                                go_meet
                                case rel => exact ⟨_, (true), (by first | rfl | (simp; done) | (simp [*]; done)), H', ⟨by have := HK1.out; have := HK2.out; first | omega | exact Nat.le_refl _⟩, ⟨by (try simp only [hl6_2]); (try simp only [hl7_2]); (with_reducible repeat (first | apply Kd.R_alloc | apply Kd.R_drewN | apply Kd.R_drew)); exact Kd.R_mono (Kd.R_far (p := ⟨gb299, 3, none⟩) (Kd.R_far (p := ⟨gb299, 2, none⟩) (Kd.R_far (p := ⟨gb299, 1, none⟩) (Kd.R_far (p := ⟨gb299, 0, none⟩) (Kd.R_types HO_6.out BK299.out (by decide)) (fun _ hk => hk.2) (.int .i64 ((rd_T84 l1 x30_2).f0))) (fun _ hk => hk.2) (.int .i64 ((rd_T84 l1 x30_2).f1))) (fun _ hk => hk.2) (.int .i64 ((rd_T84 l1 x30_2).f2))) (fun _ hk => hk.2) (.int .i64 ((rd_T84 l1 x30_2).f3))) (fun _ hk => hk.1)⟩, ⟨by (try simp only [hl6_2]); (try simp only [hl7_2]); (with_reducible repeat (first | apply Kd.R_alloc | apply Kd.R_drewN | apply Kd.R_drew)); exact Kd.R_mono (Kd.R_far (p := ⟨gb299, 3, none⟩) (Kd.R_far (p := ⟨gb299, 2, none⟩) (Kd.R_far (p := ⟨gb299, 1, none⟩) (Kd.R_far (p := ⟨gb299, 0, none⟩) (Kd.R_types HO_7.out BK299.out (by decide)) (fun _ hk => hk.2) (.int .i64 ((rd_T84 l1 x30_2).f0))) (fun _ hk => hk.2) (.int .i64 ((rd_T84 l1 x30_2).f1))) (fun _ hk => hk.2) (.int .i64 ((rd_T84 l1 x30_2).f2))) (fun _ hk => hk.2) (.int .i64 ((rd_T84 l1 x30_2).f3))) (fun _ hk => hk.1)⟩, ⟨by (try simp only [hl6_2]); (try simp only [hl7_2]); (with_reducible repeat (first | refine blk_drewN ?_ _ | refine blk_drew ?_ | refine blk_alloc ?_ _)); refine blk_put (cs := #[.int .i64 ((rd_T84 l1 x30_2).f0), .int .i64 ((rd_T84 l1 x30_2).f1), .int .i64 ((rd_T84 l1 x30_2).f2), .int .i64 0]) ?_ 3 _ rfl; (with_reducible repeat (first | refine blk_drewN ?_ _ | refine blk_drew ?_ | refine blk_alloc ?_ _)); refine blk_put (cs := #[.int .i64 ((rd_T84 l1 x30_2).f0), .int .i64 ((rd_T84 l1 x30_2).f1), .int .i64 0, .int .i64 0]) ?_ 2 _ rfl; (with_reducible repeat (first | refine blk_drewN ?_ _ | refine blk_drew ?_ | refine blk_alloc ?_ _)); refine blk_put (cs := #[.int .i64 ((rd_T84 l1 x30_2).f0), .int .i64 0, .int .i64 0, .int .i64 0]) ?_ 1 _ rfl; (with_reducible repeat (first | refine blk_drewN ?_ _ | refine blk_drew ?_ | refine blk_alloc ?_ _)); refine blk_put (cs := #[.int .i64 0, .int .i64 0, .int .i64 0, .int .i64 0]) ?_ 0 _ rfl; (with_reducible repeat (first | refine blk_drewN ?_ _ | refine blk_drew ?_ | refine blk_alloc ?_ _)); exact BK299.out⟩, ⟨by repeat (first | (with_reducible first | exact HB.out | apply below_alloc | apply pw_below_drewN | apply below_drew1 | refine below_set ?_ GE299.out) | exact HB.out)⟩⟩
                            case rest =>
                              clear HC24
                              try clear c1
                              try clear p1
                              try clear q1
                              try clear hx1
                              try clear c2
                              try clear p2
                              try clear q2
                              try clear hx2
                              try clear c3
                              try clear c3b0
                              try clear c3b1
                              try clear p3
                              try clear q3
                              try clear hx3
                              try clear c4
                              try clear c4b0
                              try clear c4b1
                              try clear c5
                              try clear c11
                              try clear c11b0
                              try clear c12
                              try clear c12b0
                              try clear c13
                              try clear c13b0
                              try clear p14
                              try clear q14
                              try clear hx14
                              try clear hf14
                              try clear c15
                              try clear c15b0
                              try clear p16
                              try clear q16
                              try clear hx16
                              try clear hf16
                              try clear c21
                              try clear c21b0
                              try clear c22
                              try clear c22b0
                              try clear c23
                              try clear c23b0
                              try clear c27
                              try clear c27b0
                              try clear c27b1
                              try clear c28
                              try clear c28b0
                              try clear c29
                              try clear c29b0
                              try clear p29
                              try clear q29
                              try clear hx29
                              try clear p30
                              try clear q30
                              try clear hx30
                              try clear hcz26_0
                              try clear hcz26_1
                              try clear hcz26_2
                              try clear hcz26_3
                              try clear hcz30_0
                              try clear hcz30_1
                              try clear hcz30_2
                              try clear hcz30_3
                              try clear hcz31_0
                              try clear hcz31_1
                              try clear hcz31_2
                              try clear hcz31_3
                              try clear hfz26_0
                              try clear hfz26_1
                              try clear hfz26_2
                              try clear hfz26_3
                              try clear hfz30_0
                              try clear hfz30_1
                              try clear hfz30_2
                              try clear hfz30_3
                              try clear hfz31_0
                              try clear hfz31_1
                              try clear hfz31_2
                              try clear hfz31_3
                              try clear hx14_0
                              try clear hx16_0
                              try clear hx298_0
                              try clear hx298_1
                              try clear hx298_2
                              try clear hx298_3
                              try clear hx300_0
                              try clear p1
                              try clear p14
                              try clear p16
                              try clear p2
                              try clear p298
                              try clear p300
                              try clear q1
                              try clear q14
                              try clear q16
                              try clear q298
                              try clear q300
                              obtain ⟨kq, x45_23, rfl, HA, HJ23, HO_6, HO_7, BK299, HB⟩ := hcut
                              cases kq with
                              | zero => exact absurd HA.out (by simp [impl_litTimes.j2])
                              | succ kj23 =>
                                have H := HA.out
                                clear HA
                                simp only [impl_litTimes.j2] at H
                                by_cases c32 : x45_23 = true
                                · subst c32
                                  have H1 : (impl_litTimes.l1 kj23 a0 l1 x6_2 x7_2 x8_1 l1 (l1.length : Int) (wrap64 (x30_2 + 1))) = some (r1, r2) := by rw [if_pos rfl] at H; exact H
                                  clear H
                                  have H := H1
                                  clear H1
                                  have H' := Aside0.mk H
                                  clear H
                                  go_wp2
                                  (try simp only [← hl6_2, ← hl7_2])
                                  go_roundg kj23
                                  case measure => have := HK1.out; have := HK2.out; have := HJ23.out; omega
                                  case rel => exact ⟨(x6_2), (x7_2), (wrap64 (x30_2 + 1)), (by first | rfl | (simp; done) | (simp [*]; done)), H', ⟨by have := HK1.out; have := HK2.out; have := HJ23.out; omega⟩, ⟨by (try simp only [hl6_2]); (try simp only [hl7_2]); (with_reducible repeat (first | apply Kd.R_alloc | apply Kd.R_drewN | apply Kd.R_drew)); exact HO_6.out⟩, ⟨by (try simp only [hl6_2]); (try simp only [hl7_2]); (with_reducible repeat (first | apply Kd.R_alloc | apply Kd.R_drewN | apply Kd.R_drew)); exact HO_7.out⟩, ⟨by repeat (first | (with_reducible first | exact HB.out | apply below_alloc | apply pw_below_drewN | apply below_drew1 | refine below_set ?_ GE299.out) | exact HB.out)⟩⟩
                                · replace c32 := Bool.eq_false_iff.mpr c32
                                  subst c32
                                  have H1 : (if 0 ≤ ((rd_T84 l1 x30_2).f0) then (if ((rd_T84 l1 x30_2).f0) < (x6_2.length : Int) then (if 0 ≤ x8_1 then (if x8_1 < (x6_2.length : Int) then (if (rd x6_2 x8_1) < 0 then (impl_litTimes.j3 kj23 a0 l1 x6_2 x7_2 x8_1 (wrap64 ((rd x6_2 ((rd_T84 l1 x30_2).f0)) + ((rd_T84 l1 x30_2).f2))) l1 (l1.length : Int) x30_2 true ((rd_T84 l1 x30_2).f0) ((rd_T84 l1 x30_2).f1) ((rd_T84 l1 x30_2).f2) ((rd_T84 l1 x30_2).f3)) else (impl_litTimes.j3 kj23 a0 l1 x6_2 x7_2 x8_1 (wrap64 ((rd x6_2 ((rd_T84 l1 x30_2).f0)) + ((rd_T84 l1 x30_2).f2))) l1 (l1.length : Int) x30_2 (decide ((wrap64 ((rd x6_2 ((rd_T84 l1 x30_2).f0)) + ((rd_T84 l1 x30_2).f2))) < (rd x6_2 x8_1))) ((rd_T84 l1 x30_2).f0) ((rd_T84 l1 x30_2).f1) ((rd_T84 l1 x30_2).f2) ((rd_T84 l1 x30_2).f3))) else (none)) else (none)) else (none)) else (none)) = some (r1, r2) := by rw [if_neg (show ¬ (false = true) by decide)] at H; exact H
                                  clear H
                                  have H := H1
                                  clear H1
                                  by_cases c33 : 0 ≤ ((rd_T84 l1 x30_2).f0)
                                  · rw [if_pos c33] at H
                                    have c33b0 : decide (0 ≤ ((rd_T84 l1 x30_2).f0)) = true := decide_eq_true c33
                                    clear c33
                                    by_cases c34 : ((rd_T84 l1 x30_2).f0) < (x6_2.length : Int)
                                    · rw [if_pos c34] at H
                                      have c34b0 : decide (((rd_T84 l1 x30_2).f0) < (x6_2.length : Int)) = true := decide_eq_true c34
                                      clear c34
                                      have HC35 := Aside0.mk H
                                      clear H
                                      try go_wp2
                                      have n0_ := Aside0.mk (Kd.R_drew HO_6.out)
                                      have n1_ := Aside0.mk (Kd.R_drew HO_7.out)
                                      have n2_ := Aside0.mk (blk_drew BK299.out)
                                      have n3_ := Aside0.mk (below_drew1 HB.out)
                                      clear HO_6
                                      clear HO_7
                                      clear BK299
                                      clear HB
                                      have HO_6 := n0_
                                      have HO_7 := n1_
                                      have BK299 := n2_
                                      have HB := n3_
                                      clear n0_ n1_ n2_ n3_
                                      have p301 : 0 ≤ (((rd_T84 l1 x30_2).f0) : Int) := of_decide_eq_true (by first | (with_reducible assumption) | assumption)
                                      have q301 : ((rd_T84 l1 x30_2).f0) < (x6_2.length : Int) := of_decide_eq_true (by first | (with_reducible assumption) | assumption)
                                      obtain ⟨ad301, e301, hx301_0⟩ := Kd.at_int (Kd.R_reads' HO_6.out).2.2 ((rd_T84 l1 x30_2).f0) p301 q301
                                      obtain rfl : (⟨go14, 0, none⟩ : Addr) = ad301 := (by injection e301)
                                      (first | simp only [add_plain] at hx301_0 | simp only [add_at] at hx301_0 | simp only [Addr.add, Nat.zero_add] at hx301_0 | skip)
                                      replace p301 := eq_true p301
                                      replace q301 := eq_true q301
                                      refine start_ (n := 9) (S := fun w' => w'.cell? ⟨gb299, 0, none⟩ = some (.int .i64 ((rd_T84 l1 x30_2).f0)) ∧ w'.cell? ⟨gb299, 1, none⟩ = some (.int .i64 ((rd_T84 l1 x30_2).f1)) ∧ w'.cell? ⟨gb299, 2, none⟩ = some (.int .i64 ((rd_T84 l1 x30_2).f2)) ∧ w'.cell? ⟨gb299, 3, none⟩ = some (.int .i64 ((rd_T84 l1 x30_2).f3)) ∧ w'.cell? ⟨go14, (((rd_T84 l1 x30_2).f0)).toNat, none⟩ = some (.int .i64 (rd x6_2 ((rd_T84 l1 x30_2).f0)))) (ds := []) #[false, false, false, false, false, false, false, false, false] (by kernel_rfl) rfl rfl ⟨(blk_cell BK299.out 0).trans rfl, (blk_cell BK299.out 1).trans rfl, (blk_cell BK299.out 2).trans rfl, (blk_cell BK299.out 3).trans rfl, hx301_0⟩ (fun hHeld => ?_); refine with_tabW impl_litTimes.tab10 impl_litTimes.bits10 (fun HT_ HW_ => ?_)
                                      generalize wc.drew = w36 at HO_6 HO_7 BK299 HB hx301_0 hHeld ⊢
                                      refine pure_ (i := 0) (N := some 46) (v := ?_) (a' := ?_) #[true, false, false, false, false, false, false, false, false] rfl rfl (any_of HT_.out (by kernel_rfl)) (fun _ _ _ h => h) (Or.inl ⟨by rfl, ?_⟩) ?_ ?_
                                      rotate_left
                                      · intro w'
                                        go_simp
                                        with_reducible rfl
                                      rotate_left
                                      · simp only [Act.put, List.setIfInBounds_toArray, List.set_cons_zero, List.set_cons_succ, i64_w, i32_w]
                                        rfl
                                      refine pure_ (i := 1) (N := some 47) (v := ?_) (a' := ?_) #[true, true, false, false, false, false, false, false, false] rfl rfl (any_of HT_.out (by kernel_rfl)) (fun _ _ _ h => h) (Or.inl ⟨by rfl, ?_⟩) ?_ ?_
                                      rotate_left
                                      · intro w'
                                        go_simp
                                        with_reducible rfl
                                      rotate_left
                                      · simp only [Act.put, List.setIfInBounds_toArray, List.set_cons_zero, List.set_cons_succ, i64_w, i32_w]
                                        rfl
                                      refine pure_ (i := 5) (N := some 51) (v := ?_) (a' := ?_) #[true, true, false, false, false, true, false, false, false] rfl rfl (any_of HT_.out (by kernel_rfl)) (fun _ _ _ h => h) (Or.inl ⟨by rfl, ?_⟩) ?_ ?_
                                      rotate_left
                                      · intro w'
                                        go_simp
                                        with_reducible rfl
                                      rotate_left
                                      · simp only [Act.put, List.setIfInBounds_toArray, List.set_cons_zero, List.set_cons_succ, i64_w, i32_w]
                                        rfl
                                      refine take_ (i := 2) (N := some 48) (v := ?_) (a' := ?_) #[true, true, true, false, false, true, false, false, false] rfl rfl (take_ofW HT_.out HW_.out (by kernel_rfl)) (fun _ _ _ h => h) (Or.inl ⟨by rfl, ?_⟩) hHeld ?_ ?_
                                      rotate_left
                                      · rintro w' ⟨s0, s1, s2, s3, s4⟩
                                        go_simp
                                        with_reducible rfl
                                      rotate_left
                                      · simp only [Act.put, List.setIfInBounds_toArray, List.set_cons_zero, List.set_cons_succ, i64_w, i32_w]
                                        rfl
                                      refine pure_ (i := 3) (N := some 49) (v := ?_) (a' := ?_) #[true, true, true, true, false, true, false, false, false] rfl rfl (any_of HT_.out (by kernel_rfl)) (fun _ _ _ h => h) (Or.inl ⟨by rfl, ?_⟩) ?_ ?_
                                      rotate_left
                                      · intro w'
                                        go_simp
                                        with_reducible rfl
                                      rotate_left
                                      · simp only [Act.put, List.setIfInBounds_toArray, List.set_cons_zero, List.set_cons_succ, i64_w, i32_w]
                                        rfl
                                      refine take_ (i := 4) (N := some 50) (v := ?_) (a' := ?_) #[true, true, true, true, true, true, false, false, false] rfl rfl (take_ofW HT_.out HW_.out (by kernel_rfl)) (fun _ _ _ h => h) (Or.inl ⟨by rfl, ?_⟩) hHeld ?_ ?_
                                      rotate_left
                                      · rintro w' ⟨s0, s1, s2, s3, s4⟩
                                        go_simp
                                        with_reducible rfl
                                      rotate_left
                                      · simp only [Act.put, List.setIfInBounds_toArray, List.set_cons_zero, List.set_cons_succ, i64_w, i32_w]
                                        rfl
                                      refine take_ (i := 6) (N := some 52) (v := ?_) (a' := ?_) #[true, true, true, true, true, true, true, false, false] rfl rfl (take_ofW HT_.out HW_.out (by kernel_rfl)) (fun _ _ _ h => h) (Or.inl ⟨by rfl, ?_⟩) hHeld ?_ ?_
                                      rotate_left
                                      · rintro w' ⟨s0, s1, s2, s3, s4⟩
                                        go_simp
                                        with_reducible rfl
                                      rotate_left
                                      · simp only [Act.put, List.setIfInBounds_toArray, List.set_cons_zero, List.set_cons_succ, i64_w, i32_w]
                                        rfl
                                      refine pure_ (i := 7) (N := some 53) (v := ?_) (a' := ?_) #[true, true, true, true, true, true, true, true, false] rfl rfl (any_of HT_.out (by kernel_rfl)) (fun _ _ _ h => h) (Or.inl ⟨by rfl, ?_⟩) ?_ ?_
                                      rotate_left
                                      · intro w'
                                        go_simp
                                        with_reducible rfl
                                      rotate_left
                                      · simp only [Act.put, List.setIfInBounds_toArray, List.set_cons_zero, List.set_cons_succ, i64_w, i32_w]
                                        rfl
                                      refine pure_ (i := 8) (N := some 11) (v := ?_) (a' := ?_) #[true, true, true, true, true, true, true, true, true] rfl rfl (any_of HT_.out (by kernel_rfl)) (fun _ _ _ h => h) (Or.inl ⟨by rfl, ?_⟩) ?_ ?_
                                      rotate_left
                                      · intro w'
                                        go_simp
                                        with_reducible rfl
                                      rotate_left
                                      · simp only [Act.put, List.setIfInBounds_toArray, List.set_cons_zero, List.set_cons_succ, i64_w, i32_w]
                                        rfl
                                      refine done_ (done_of HT_.out (by kernel_rfl)) ?_
                                      go_upto_region 11 with (fail)
                                      go_cut [66] (fun v66 wc => ∃ (kq : Nat) (x66_34 : Bool), v66 = .bool x66_34 ∧ Aside0 (impl_litTimes.j3 kq a0 l1 x6_2 x7_2 x8_1 (wrap64 ((rd x6_2 ((rd_T84 l1 x30_2).f0)) + ((rd_T84 l1 x30_2).f2))) l1 (l1.length : Int) x30_2 x66_34 ((rd_T84 l1 x30_2).f0) ((rd_T84 l1 x30_2).f1) ((rd_T84 l1 x30_2).f2) ((rd_T84 l1 x30_2).f3) = some (r1, r2)) ∧ Aside0 (kq ≤ kj23) ∧ Aside0 (Kd.R (Kd.int .i64) 2 wc w.heap.size (fun k_ => some k_ ≠ ((.slice (some ⟨go16, 0, none⟩) x7_2.length co16) : Value).ownBlock) (.slice (some ⟨go14, 0, none⟩) x6_2.length co14) x6_2) ∧ Aside0 (Kd.R (Kd.int .i64) 2 wc w.heap.size (fun k_ => some k_ ≠ ((.slice (some ⟨go14, 0, none⟩) x6_2.length co14) : Value).ownBlock) (.slice (some ⟨go16, 0, none⟩) x7_2.length co16) x7_2) ∧ Aside0 (wc.heap[gb299]? = some (.cells #[.int .i64 ((rd_T84 l1 x30_2).f0), .int .i64 ((rd_T84 l1 x30_2).f1), .int .i64 ((rd_T84 l1 x30_2).f2), .int .i64 ((rd_T84 l1 x30_2).f3)] 84 (0, 0))) ∧ Aside0 (Below w.heap.size w wc))
                                      case first =>
                                        have H := HC35.out
                                        clear HC35
                                        by_cases c37 : 0 ≤ x8_1
                                        · rw [if_pos c37] at H
                                          have c37b0 : decide (0 ≤ x8_1) = true := decide_eq_true c37
                                          clear c37
                                          (first | rw [c37b0] | (simp only [i64_w, i32_w]; rw [c37b0]) | skip)
                                          by_cases c38 : x8_1 < (x6_2.length : Int)
                                          · rw [if_pos c38] at H
                                            have c38b0 : decide (x8_1 < (x6_2.length : Int)) = true := decide_eq_true c38
                                            clear c38
                                            by_cases c39 : (rd x6_2 x8_1) < 0
                                            · rw [if_pos c39] at H
                                              have c39b0 : decide ((rd x6_2 x8_1) < 0) = true := decide_eq_true c39
                                              clear c39
                                              have H' := Aside0.mk H
                                              clear H
                                              have p302 : 0 ≤ (x8_1 : Int) := of_decide_eq_true (by first | (with_reducible assumption) | assumption)
                                              have q302 : x8_1 < (x6_2.length : Int) := of_decide_eq_true (by first | (with_reducible assumption) | assumption)
                                              obtain ⟨ad302, e302, hx302_0⟩ := Kd.at_int (Kd.R_reads' HO_6.out).2.2 x8_1 p302 q302
                                              obtain rfl : (⟨go14, 0, none⟩ : Addr) = ad302 := (by injection e302)
                                              (first | simp only [add_plain] at hx302_0 | simp only [add_at] at hx302_0 | simp only [Addr.add, Nat.zero_add] at hx302_0 | skip)
                                              replace p302 := eq_true p302
                                              replace q302 := eq_true q302
                                              go_wp2
                                              go_meet
                                              case rel => exact ⟨_, (true), (by first | rfl | (simp; done) | (simp [*]; done)), H', ⟨by have := HK1.out; have := HK2.out; have := HJ23.out; first | omega | exact Nat.le_refl _⟩, ⟨by (try simp only [hl6_2]); (try simp only [hl7_2]); (with_reducible repeat (first | apply Kd.R_alloc | apply Kd.R_drewN | apply Kd.R_drew)); exact HO_6.out⟩, ⟨by (try simp only [hl6_2]); (try simp only [hl7_2]); (with_reducible repeat (first | apply Kd.R_alloc | apply Kd.R_drewN | apply Kd.R_drew)); exact HO_7.out⟩, ⟨by (try simp only [hl6_2]); (try simp only [hl7_2]); (with_reducible repeat (first | refine blk_drewN ?_ _ | refine blk_drew ?_ | refine blk_alloc ?_ _)); exact BK299.out⟩, ⟨by repeat (first | (with_reducible first | exact HB.out | apply below_alloc | apply pw_below_drewN | apply below_drew1 | refine below_set ?_ GE299.out) | exact HB.out)⟩⟩
                                            · rw [if_neg c39] at H
                                              have c39b0 : decide ((rd x6_2 x8_1) < 0) = false := decide_eq_false c39
                                              clear c39
                                              have H' := Aside0.mk H
                                              clear H
                                              have p302 : 0 ≤ (x8_1 : Int) := of_decide_eq_true (by first | (with_reducible assumption) | assumption)
                                              have q302 : x8_1 < (x6_2.length : Int) := of_decide_eq_true (by first | (with_reducible assumption) | assumption)
                                              obtain ⟨ad302, e302, hx302_0⟩ := Kd.at_int (Kd.R_reads' HO_6.out).2.2 x8_1 p302 q302
                                              obtain rfl : (⟨go14, 0, none⟩ : Addr) = ad302 := (by injection e302)
                                              (first | simp only [add_plain] at hx302_0 | simp only [add_at] at hx302_0 | simp only [Addr.add, Nat.zero_add] at hx302_0 | skip)
                                              replace p302 := eq_true p302
                                              replace q302 := eq_true q302
                                              have p303 : 0 ≤ (x8_1 : Int) := of_decide_eq_true (by first | (with_reducible assumption) | assumption)
                                              have q303 : x8_1 < (x6_2.length : Int) := of_decide_eq_true (by first | (with_reducible assumption) | assumption)
                                              obtain ⟨ad303, e303, hx303_0⟩ := Kd.at_int (Kd.R_reads' HO_6.out).2.2 x8_1 p303 q303
                                              obtain rfl : (⟨go14, 0, none⟩ : Addr) = ad303 := (by injection e303)
                                              (first | simp only [add_plain] at hx303_0 | simp only [add_at] at hx303_0 | simp only [Addr.add, Nat.zero_add] at hx303_0 | skip)
                                              replace p303 := eq_true p303
                                              replace q303 := eq_true q303
                                              go_wp2
                                              go_meet
                                              case rel => exact ⟨_, (decide ((wrap64 ((rd x6_2 ((rd_T84 l1 x30_2).f0)) + ((rd_T84 l1 x30_2).f2))) < (rd x6_2 x8_1))), (by first | rfl | (simp; done) | (simp [*]; done)), H', ⟨by have := HK1.out; have := HK2.out; have := HJ23.out; first | omega | exact Nat.le_refl _⟩, ⟨by (try simp only [hl6_2]); (try simp only [hl7_2]); (with_reducible repeat (first | apply Kd.R_alloc | apply Kd.R_drewN | apply Kd.R_drew)); exact HO_6.out⟩, ⟨by (try simp only [hl6_2]); (try simp only [hl7_2]); (with_reducible repeat (first | apply Kd.R_alloc | apply Kd.R_drewN | apply Kd.R_drew)); exact HO_7.out⟩, ⟨by (try simp only [hl6_2]); (try simp only [hl7_2]); (with_reducible repeat (first | refine blk_drewN ?_ _ | refine blk_drew ?_ | refine blk_alloc ?_ _)); exact BK299.out⟩, ⟨by repeat (first | (with_reducible first | exact HB.out | apply below_alloc | apply pw_below_drewN | apply below_drew1 | refine below_set ?_ GE299.out) | exact HB.out)⟩⟩
                                          · rw [if_neg c38] at H
                                            exact absurd H (by simp)
                                        · rw [if_neg c37] at H
                                          exact absurd H (by simp)
                                      case rest =>
                                        clear HC35
                                        try clear c1
                                        try clear p1
                                        try clear q1
                                        try clear hx1
                                        try clear c2
                                        try clear p2
                                        try clear q2
                                        try clear hx2
                                        try clear c3
                                        try clear c3b0
                                        try clear c3b1
                                        try clear p3
                                        try clear q3
                                        try clear hx3
                                        try clear c4
                                        try clear c4b0
                                        try clear c4b1
                                        try clear c5
                                        try clear p6
                                        try clear c11
                                        try clear c11b0
                                        try clear c12
                                        try clear c12b0
                                        try clear c13
                                        try clear c13b0
                                        try clear p14
                                        try clear q14
                                        try clear hx14
                                        try clear hf14
                                        try clear c15
                                        try clear c15b0
                                        try clear p16
                                        try clear q16
                                        try clear hx16
                                        try clear hf16
                                        try clear c21
                                        try clear c21b0
                                        try clear c22
                                        try clear c22b0
                                        try clear c23
                                        try clear c23b0
                                        try clear c27
                                        try clear c27b0
                                        try clear c27b1
                                        try clear c28
                                        try clear c28b0
                                        try clear c29
                                        try clear c29b0
                                        try clear p29
                                        try clear q29
                                        try clear hx29
                                        try clear p30
                                        try clear q30
                                        try clear hx30
                                        try clear c32
                                        try clear c33
                                        try clear c33b0
                                        try clear c34
                                        try clear c34b0
                                        try clear c37
                                        try clear c37b0
                                        try clear c38
                                        try clear c38b0
                                        try clear c39
                                        try clear c39b0
                                        try clear hcz26_0
                                        try clear hcz26_1
                                        try clear hcz26_2
                                        try clear hcz26_3
                                        try clear hcz30_0
                                        try clear hcz30_1
                                        try clear hcz30_2
                                        try clear hcz30_3
                                        try clear hcz31_0
                                        try clear hcz31_1
                                        try clear hcz31_2
                                        try clear hcz31_3
                                        try clear hfz26_0
                                        try clear hfz26_1
                                        try clear hfz26_2
                                        try clear hfz26_3
                                        try clear hfz30_0
                                        try clear hfz30_1
                                        try clear hfz30_2
                                        try clear hfz30_3
                                        try clear hfz31_0
                                        try clear hfz31_1
                                        try clear hfz31_2
                                        try clear hfz31_3
                                        try clear hx14_0
                                        try clear hx16_0
                                        try clear hx298_0
                                        try clear hx298_1
                                        try clear hx298_2
                                        try clear hx298_3
                                        try clear hx300_0
                                        try clear hx301_0
                                        try clear hx302_0
                                        try clear hx303_0
                                        try clear p1
                                        try clear p14
                                        try clear p16
                                        try clear p2
                                        try clear p29
                                        try clear p298
                                        try clear p3
                                        try clear p30
                                        try clear p300
                                        try clear p301
                                        try clear p302
                                        try clear p303
                                        try clear q1
                                        try clear q14
                                        try clear q16
                                        try clear q2
                                        try clear q29
                                        try clear q298
                                        try clear q3
                                        try clear q30
                                        try clear q300
                                        try clear q301
                                        try clear q302
                                        try clear q303
                                        obtain ⟨kq, x66_34, rfl, HA, HJ34, HO_6, HO_7, BK299, HB⟩ := hcut
                                        cases kq with
                                        | zero => exact absurd HA.out (by simp [impl_litTimes.j3])
                                        | succ kj34 =>
                                          have H := HA.out
                                          clear HA
                                          simp only [impl_litTimes.j3] at H
                                          by_cases c40 : x66_34 = true
                                          · subst c40
                                            have H1 : (if 0 ≤ x8_1 then (if x8_1 < (x6_2.length : Int) then ((some (x6_2.set (x8_1 : Int).toNat (wrap64 ((rd x6_2 ((rd_T84 l1 x30_2).f0)) + ((rd_T84 l1 x30_2).f2))) : List Int)).bind fun y304 => (if 0 ≤ ((rd_T84 l1 x30_2).f0) then (if ((rd_T84 l1 x30_2).f0) < (x7_2.length : Int) then (if x8_1 < (x7_2.length : Int) then (if (rd x7_2 x8_1) < 0 then (impl_litTimes.l1 kj34 a0 l1 y304 (x7_2.set (x8_1 : Int).toNat (wrap64 ((rd x7_2 ((rd_T84 l1 x30_2).f0)) + ((rd_T84 l1 x30_2).f3)))) x8_1 l1 (l1.length : Int) (wrap64 (x30_2 + 1))) else (if (wrap64 ((rd x7_2 ((rd_T84 l1 x30_2).f0)) + ((rd_T84 l1 x30_2).f3))) < (rd x7_2 x8_1) then (impl_litTimes.l1 kj34 a0 l1 y304 (x7_2.set (x8_1 : Int).toNat (wrap64 ((rd x7_2 ((rd_T84 l1 x30_2).f0)) + ((rd_T84 l1 x30_2).f3)))) x8_1 l1 (l1.length : Int) (wrap64 (x30_2 + 1))) else (impl_litTimes.l1 kj34 a0 l1 y304 x7_2 x8_1 l1 (l1.length : Int) (wrap64 (x30_2 + 1))))) else (none)) else (none)) else (none))) else (none)) else (none)) = some (r1, r2) := by rw [if_pos rfl] at H; exact H
                                            clear H
                                            have H := H1
                                            clear H1
                                            by_cases c41 : 0 ≤ x8_1
                                            · rw [if_pos c41] at H
                                              have c41b0 : decide (0 ≤ x8_1) = true := decide_eq_true c41
                                              clear c41
                                              by_cases c42 : x8_1 < (x6_2.length : Int)
                                              · rw [if_pos c42] at H
                                                have c42b0 : decide (x8_1 < (x6_2.length : Int)) = true := decide_eq_true c42
                                                clear c42
                                                obtain ⟨y304, hy304⟩ : ∃ y_ : List Int, y_ = (x6_2.set (x8_1 : Int).toNat (wrap64 ((rd x6_2 ((rd_T84 l1 x30_2).f0)) + ((rd_T84 l1 x30_2).f2)))) := ⟨_, rfl⟩
                                                replace H : (if 0 ≤ ((rd_T84 l1 x30_2).f0) then (if ((rd_T84 l1 x30_2).f0) < (x7_2.length : Int) then (if x8_1 < (x7_2.length : Int) then (if (rd x7_2 x8_1) < 0 then (impl_litTimes.l1 kj34 a0 l1 y304 (x7_2.set (x8_1 : Int).toNat (wrap64 ((rd x7_2 ((rd_T84 l1 x30_2).f0)) + ((rd_T84 l1 x30_2).f3)))) x8_1 l1 (l1.length : Int) (wrap64 (x30_2 + 1))) else (if (wrap64 ((rd x7_2 ((rd_T84 l1 x30_2).f0)) + ((rd_T84 l1 x30_2).f3))) < (rd x7_2 x8_1) then (impl_litTimes.l1 kj34 a0 l1 y304 (x7_2.set (x8_1 : Int).toNat (wrap64 ((rd x7_2 ((rd_T84 l1 x30_2).f0)) + ((rd_T84 l1 x30_2).f3)))) x8_1 l1 (l1.length : Int) (wrap64 (x30_2 + 1))) else (impl_litTimes.l1 kj34 a0 l1 y304 x7_2 x8_1 l1 (l1.length : Int) (wrap64 (x30_2 + 1))))) else (none)) else (none)) else (none)) = some (r1, r2) := by first | (rw [hy304]; with_reducible exact H) | (have H2_ := (Option.bind_some _ _).symm.trans H; rw [hy304]; with_reducible exact H2_) | (have H2_ := (Option.bind_some _ _).symm.trans H; with_reducible exact H2_) | with_reducible exact H | (rw [hy304]; exact H) | exact H
                                                have Ny304 := Aside0.mk hy304
                                                clear hy304
                                                by_cases c44 : 0 ≤ ((rd_T84 l1 x30_2).f0)
                                                · rw [if_pos c44] at H
                                                  have c44b0 : decide (0 ≤ ((rd_T84 l1 x30_2).f0)) = true := decide_eq_true c44
                                                  clear c44
                                                  by_cases c45 : ((rd_T84 l1 x30_2).f0) < (x7_2.length : Int)
                                                  · rw [if_pos c45] at H
                                                    have c45b0 : decide (((rd_T84 l1 x30_2).f0) < (x7_2.length : Int)) = true := decide_eq_true c45
                                                    clear c45
                                                    by_cases c46 : x8_1 < (x7_2.length : Int)
                                                    · rw [if_pos c46] at H
                                                      have c46b0 : decide (x8_1 < (x7_2.length : Int)) = true := decide_eq_true c46
                                                      clear c46
                                                      by_cases c47 : (rd x7_2 x8_1) < 0
                                                      · rw [if_pos c47] at H
                                                        have c47b0 : decide ((rd x7_2 x8_1) < 0) = true := decide_eq_true c47
                                                        clear c47
                                                        obtain ⟨y307, hy307⟩ : ∃ y_ : List Int, y_ = (x7_2.set (x8_1 : Int).toNat (wrap64 ((rd x7_2 ((rd_T84 l1 x30_2).f0)) + ((rd_T84 l1 x30_2).f3)))) := ⟨_, rfl⟩
                                                        replace H : (impl_litTimes.l1 kj34 a0 l1 y304 y307 x8_1 l1 (l1.length : Int) (wrap64 (x30_2 + 1))) = some (r1, r2) := by first | (rw [hy307]; with_reducible exact H) | (have H2_ := (Option.bind_some _ _).symm.trans H; rw [hy307]; with_reducible exact H2_) | (have H2_ := (Option.bind_some _ _).symm.trans H; with_reducible exact H2_) | with_reducible exact H | (rw [hy307]; exact H) | exact H
                                                        have Ny307 := Aside0.mk hy307
                                                        clear hy307
                                                        have H' := Aside0.mk H
                                                        clear H
                                                        have p43 : 0 ≤ (x8_1 : Int) := of_decide_eq_true (by first | (with_reducible assumption) | assumption)
                                                        have q43 : (x8_1 : Int) < ((x6_2.length : Int) : Int) := of_decide_eq_true (by first | (with_reducible assumption) | assumption)
                                                        obtain ⟨hx43_0, hf43_0⟩ := Kd.R_celln 0 HO_6.out (x8_1 : Int) p43 q43
                                                        replace p43 := eq_true p43
                                                        replace q43 := eq_true q43
                                                        have HP49 := Kd.R_putg HO_6.out (x8_1 : Int) (wrap64 ((rd x6_2 ((rd_T84 l1 x30_2).f0)) + ((rd_T84 l1 x30_2).f2)))
                                                        try go_wp2_with (first | ((with_reducible refine gate_store (t := 2) (p := 70) rfl ?_); refine store_event (t := 2) (p := 70) (v := ?vo_w50) (w1 := (wc.setCell ⟨go14, (x8_1 : Int).toNat, none⟩ (.int .i64 (wrap64 ((rd x6_2 ((rd_T84 l1 x30_2).f0)) + ((rd_T84 l1 x30_2).f2)))))) ?hg ?ho ?hn ?hr ?_; (case ho => rfl); (case hg => rfl); (case hn => rfl); (case hr => first | (go_simp; done) | (go_simp; rfl)); intro w50 hw; have hg : wc.grownBy w50 (some go14) := (by rw [hw]; exact HP49.2); have hp_ : Kd.R (Kd.int .i64) 2 w50 w.heap.size (fun k_ => some k_ ≠ (.slice (some ⟨go16, 0, none⟩) x7_2.length co16 : Value).ownBlock) (.slice (some ⟨go14, 0, none⟩) x6_2.length co14) y304 := (by rw [hw, Ny304.out]; exact HP49.1); clear HP49; have n0_ := Aside0.mk (hp_); have n1_ := Aside0.mk (Kd.R_after (v := (.slice (some ⟨go14, 0, none⟩) x6_2.length co14)) (v1 := (.slice (some ⟨go14, 0, none⟩) x6_2.length co14)) (ok := (fun _ => True)) (by (with_reducible repeat (first | apply Kd.R_alloc | apply Kd.R_drewN | apply Kd.R_drew)); exact Kd.R_mono HO_7.out (fun _ hk => ⟨trivial, hk⟩)) hg (.inl rfl)); have n2_ := Aside0.mk (blk_grown (g := gb299) (o := .cells #[.int .i64 ((rd_T84 l1 x30_2).f0), .int .i64 ((rd_T84 l1 x30_2).f1), .int .i64 ((rd_T84 l1 x30_2).f2), .int .i64 ((rd_T84 l1 x30_2).f3)] 84 (0, 0)) (by (with_reducible repeat (first | refine blk_drewN ?_ _ | refine blk_drew ?_ | refine blk_alloc ?_ _)); exact BK299.out) hg (Kd.R_ne HO_6.out BK299.out (by decide))); have n3_ := Aside0.mk ((by rw [hw]; exact below_set (HB.out) GB14.out : Below w.heap.size w w50)); clear HO_6; clear HO_7; clear BK299; clear HB; have HO_6 := n0_; have HO_7 := n1_; have BK299 := n2_; have HB := n3_; clear n0_ n1_ n2_ n3_; clear hg hw hp_))
                                                        have n0_ := Aside0.mk (Kd.R_drew HO_6.out)
                                                        have n1_ := Aside0.mk (Kd.R_drew HO_7.out)
                                                        have n2_ := Aside0.mk (blk_drew BK299.out)
                                                        have n3_ := Aside0.mk (below_drew1 HB.out)
                                                        clear HO_6
                                                        clear HO_7
                                                        clear BK299
                                                        clear HB
                                                        have HO_6 := n0_
                                                        have HO_7 := n1_
                                                        have BK299 := n2_
                                                        have HB := n3_
                                                        clear n0_ n1_ n2_ n3_
                                                        have p305 : 0 ≤ (((rd_T84 l1 x30_2).f0) : Int) := of_decide_eq_true (by first | (with_reducible assumption) | assumption)
                                                        have q305 : ((rd_T84 l1 x30_2).f0) < (x7_2.length : Int) := of_decide_eq_true (by first | (with_reducible assumption) | assumption)
                                                        obtain ⟨ad305, e305, hx305_0⟩ := Kd.at_int (Kd.R_reads' HO_7.out).2.2 ((rd_T84 l1 x30_2).f0) p305 q305
                                                        obtain rfl : (⟨go16, 0, none⟩ : Addr) = ad305 := (by injection e305)
                                                        (first | simp only [add_plain] at hx305_0 | simp only [add_at] at hx305_0 | simp only [Addr.add, Nat.zero_add] at hx305_0 | skip)
                                                        replace p305 := eq_true p305
                                                        replace q305 := eq_true q305
                                                        refine start_ (n := 9) (S := fun w' => w'.cell? ⟨gb299, 0, none⟩ = some (.int .i64 ((rd_T84 l1 x30_2).f0)) ∧ w'.cell? ⟨gb299, 1, none⟩ = some (.int .i64 ((rd_T84 l1 x30_2).f1)) ∧ w'.cell? ⟨gb299, 2, none⟩ = some (.int .i64 ((rd_T84 l1 x30_2).f2)) ∧ w'.cell? ⟨gb299, 3, none⟩ = some (.int .i64 ((rd_T84 l1 x30_2).f3)) ∧ w'.cell? ⟨go16, (((rd_T84 l1 x30_2).f0)).toNat, none⟩ = some (.int .i64 (rd x7_2 ((rd_T84 l1 x30_2).f0)))) (ds := []) #[false, false, false, false, false, false, false, false, false] (by kernel_rfl) rfl rfl ⟨(blk_cell BK299.out 0).trans rfl, (blk_cell BK299.out 1).trans rfl, (blk_cell BK299.out 2).trans rfl, (blk_cell BK299.out 3).trans rfl, hx305_0⟩ (fun hHeld => ?_); refine with_tabW impl_litTimes.tab13 impl_litTimes.bits13 (fun HT_ HW_ => ?_)
                                                        generalize w50.drew = w51 at HO_6 HO_7 BK299 HB hx305_0 hHeld ⊢
                                                        refine pure_ (i := 0) (N := some 71) (v := ?_) (a' := ?_) #[true, false, false, false, false, false, false, false, false] rfl rfl (any_of HT_.out (by kernel_rfl)) (fun _ _ _ h => h) (Or.inl ⟨by rfl, ?_⟩) ?_ ?_
                                                        rotate_left
                                                        · intro w'
                                                          go_simp
                                                          with_reducible rfl
                                                        rotate_left
                                                        · simp only [Act.put, List.setIfInBounds_toArray, List.set_cons_zero, List.set_cons_succ, i64_w, i32_w]
                                                          rfl
                                                        refine pure_ (i := 1) (N := some 72) (v := ?_) (a' := ?_) #[true, true, false, false, false, false, false, false, false] rfl rfl (any_of HT_.out (by kernel_rfl)) (fun _ _ _ h => h) (Or.inl ⟨by rfl, ?_⟩) ?_ ?_
                                                        rotate_left
                                                        · intro w'
                                                          go_simp
                                                          with_reducible rfl
                                                        rotate_left
                                                        · simp only [Act.put, List.setIfInBounds_toArray, List.set_cons_zero, List.set_cons_succ, i64_w, i32_w]
                                                          rfl
                                                        refine pure_ (i := 5) (N := some 76) (v := ?_) (a' := ?_) #[true, true, false, false, false, true, false, false, false] rfl rfl (any_of HT_.out (by kernel_rfl)) (fun _ _ _ h => h) (Or.inl ⟨by rfl, ?_⟩) ?_ ?_
                                                        rotate_left
                                                        · intro w'
                                                          go_simp
                                                          with_reducible rfl
                                                        rotate_left
                                                        · simp only [Act.put, List.setIfInBounds_toArray, List.set_cons_zero, List.set_cons_succ, i64_w, i32_w]
                                                          rfl
                                                        refine take_ (i := 2) (N := some 73) (v := ?_) (a' := ?_) #[true, true, true, false, false, true, false, false, false] rfl rfl (take_ofW HT_.out HW_.out (by kernel_rfl)) (fun _ _ _ h => h) (Or.inl ⟨by rfl, ?_⟩) hHeld ?_ ?_
                                                        rotate_left
                                                        · rintro w' ⟨s0, s1, s2, s3, s4⟩
                                                          go_simp
                                                          with_reducible rfl
                                                        rotate_left
                                                        · simp only [Act.put, List.setIfInBounds_toArray, List.set_cons_zero, List.set_cons_succ, i64_w, i32_w]
                                                          rfl
                                                        refine pure_ (i := 3) (N := some 74) (v := ?_) (a' := ?_) #[true, true, true, true, false, true, false, false, false] rfl rfl (any_of HT_.out (by kernel_rfl)) (fun _ _ _ h => h) (Or.inl ⟨by rfl, ?_⟩) ?_ ?_
                                                        rotate_left
                                                        · intro w'
                                                          go_simp
                                                          with_reducible rfl
                                                        rotate_left
                                                        · simp only [Act.put, List.setIfInBounds_toArray, List.set_cons_zero, List.set_cons_succ, i64_w, i32_w]
                                                          rfl
                                                        refine take_ (i := 4) (N := some 75) (v := ?_) (a' := ?_) #[true, true, true, true, true, true, false, false, false] rfl rfl (take_ofW HT_.out HW_.out (by kernel_rfl)) (fun _ _ _ h => h) (Or.inl ⟨by rfl, ?_⟩) hHeld ?_ ?_
                                                        rotate_left
                                                        · rintro w' ⟨s0, s1, s2, s3, s4⟩
                                                          go_simp
                                                          with_reducible rfl
                                                        rotate_left
                                                        · simp only [Act.put, List.setIfInBounds_toArray, List.set_cons_zero, List.set_cons_succ, i64_w, i32_w]
                                                          rfl
                                                        refine take_ (i := 6) (N := some 77) (v := ?_) (a' := ?_) #[true, true, true, true, true, true, true, false, false] rfl rfl (take_ofW HT_.out HW_.out (by kernel_rfl)) (fun _ _ _ h => h) (Or.inl ⟨by rfl, ?_⟩) hHeld ?_ ?_
                                                        rotate_left
                                                        · rintro w' ⟨s0, s1, s2, s3, s4⟩
                                                          go_simp
                                                          with_reducible rfl
                                                        rotate_left
                                                        · simp only [Act.put, List.setIfInBounds_toArray, List.set_cons_zero, List.set_cons_succ, i64_w, i32_w]
                                                          rfl
                                                        refine pure_ (i := 7) (N := some 78) (v := ?_) (a' := ?_) #[true, true, true, true, true, true, true, true, false] rfl rfl (any_of HT_.out (by kernel_rfl)) (fun _ _ _ h => h) (Or.inl ⟨by rfl, ?_⟩) ?_ ?_
                                                        rotate_left
                                                        · intro w'
                                                          go_simp
                                                          with_reducible rfl
                                                        rotate_left
                                                        · simp only [Act.put, List.setIfInBounds_toArray, List.set_cons_zero, List.set_cons_succ, i64_w, i32_w]
                                                          rfl
                                                        refine pure_ (i := 8) (N := some 12) (v := ?_) (a' := ?_) #[true, true, true, true, true, true, true, true, true] rfl rfl (any_of HT_.out (by kernel_rfl)) (fun _ _ _ h => h) (Or.inl ⟨by rfl, ?_⟩) ?_ ?_
                                                        rotate_left
                                                        · intro w'
                                                          go_simp
                                                          with_reducible rfl
                                                        rotate_left
                                                        · simp only [Act.put, List.setIfInBounds_toArray, List.set_cons_zero, List.set_cons_succ, i64_w, i32_w]
                                                          rfl
                                                        refine done_ (done_of HT_.out (by kernel_rfl)) ?_
                                                        have p306 : 0 ≤ (x8_1 : Int) := of_decide_eq_true (by first | (with_reducible assumption) | assumption)
                                                        have q306 : x8_1 < (x7_2.length : Int) := of_decide_eq_true (by first | (with_reducible assumption) | assumption)
                                                        obtain ⟨ad306, e306, hx306_0⟩ := Kd.at_int (Kd.R_reads' HO_7.out).2.2 x8_1 p306 q306
                                                        obtain rfl : (⟨go16, 0, none⟩ : Addr) = ad306 := (by injection e306)
                                                        (first | simp only [add_plain] at hx306_0 | simp only [add_at] at hx306_0 | simp only [Addr.add, Nat.zero_add] at hx306_0 | skip)
                                                        replace p306 := eq_true p306
                                                        replace q306 := eq_true q306
                                                        have p48 : 0 ≤ (x8_1 : Int) := of_decide_eq_true (by first | (with_reducible assumption) | assumption)
                                                        have q48 : (x8_1 : Int) < ((x7_2.length : Int) : Int) := of_decide_eq_true (by first | (with_reducible assumption) | assumption)
                                                        obtain ⟨hx48_0, hf48_0⟩ := Kd.R_celln 0 HO_7.out (x8_1 : Int) p48 q48
                                                        replace p48 := eq_true p48
                                                        replace q48 := eq_true q48
                                                        have n_ := Aside0.mk (Kd.R_mono (ok' := (fun k_ => some k_ ≠ (.slice (some ⟨go14, 0, none⟩) x6_2.length co14 : Value).ownBlock)) HO_7.out (fun k_ hk => hk.2))
                                                        clear HO_7
                                                        have HO_7 := n_
                                                        clear n_
                                                        obtain ⟨hy52_, hz52_⟩ := Kd.R_celln 0 HO_7.out (x8_1 : Int) (of_decide_eq_true (by first | (with_reducible assumption) | assumption)) (of_decide_eq_true (by first | (with_reducible assumption) | assumption))
                                                        have HP52 := Kd.R_putg HO_7.out (x8_1 : Int) (wrap64 ((rd x7_2 ((rd_T84 l1 x30_2).f0)) + ((rd_T84 l1 x30_2).f3)))
                                                        try go_wp2_with (first | ((with_reducible refine gate_store (t := 2) (p := 95) rfl ?_); refine store_event (t := 2) (p := 95) (v := ?vo_w53) (w1 := (w51.setCell ⟨go16, (x8_1 : Int).toNat, none⟩ (.int .i64 (wrap64 ((rd x7_2 ((rd_T84 l1 x30_2).f0)) + ((rd_T84 l1 x30_2).f3)))))) ?hg ?ho ?hn ?hr ?_; (case ho => rfl); (case hg => rfl); (case hn => rfl); (case hr => first | (go_simp; done) | (go_simp; rfl)); intro w53 hw; have hg : w51.grownBy w53 (some go16) := (by rw [hw]; exact HP52.2); have hp_ : Kd.R (Kd.int .i64) 2 w53 w.heap.size (fun k_ => some k_ ≠ (.slice (some ⟨go14, 0, none⟩) x6_2.length co14 : Value).ownBlock) (.slice (some ⟨go16, 0, none⟩) x7_2.length co16) y307 := (by rw [hw, Ny307.out]; exact HP52.1); clear HP52; have n0_ := Aside0.mk (Kd.R_after (v := (.slice (some ⟨go16, 0, none⟩) x7_2.length co16)) (v1 := (.slice (some ⟨go16, 0, none⟩) x7_2.length co16)) (ok := (fun _ => True)) (by (with_reducible repeat (first | apply Kd.R_alloc | apply Kd.R_drewN | apply Kd.R_drew)); exact Kd.R_mono HO_6.out (fun _ hk => ⟨trivial, hk⟩)) hg (.inl rfl)); have n1_ := Aside0.mk (hp_); have n2_ := Aside0.mk (blk_grown (g := gb299) (o := .cells #[.int .i64 ((rd_T84 l1 x30_2).f0), .int .i64 ((rd_T84 l1 x30_2).f1), .int .i64 ((rd_T84 l1 x30_2).f2), .int .i64 ((rd_T84 l1 x30_2).f3)] 84 (0, 0)) (by (with_reducible repeat (first | refine blk_drewN ?_ _ | refine blk_drew ?_ | refine blk_alloc ?_ _)); exact BK299.out) hg (Kd.R_ne HO_7.out BK299.out (by decide))); have n3_ := Aside0.mk ((by rw [hw]; exact below_set (HB.out) GB16.out : Below w.heap.size w w53)); clear HO_6; clear HO_7; clear BK299; clear HB; have HO_6 := n0_; have HO_7 := n1_; have BK299 := n2_; have HB := n3_; clear n0_ n1_ n2_ n3_; clear hg hw hp_))
                                                        (try simp only [← hl6_2, ← hl7_2])
                                                        go_roundg kj34
                                                        case measure => have := HK1.out; have := HK2.out; have := HJ23.out; have := HJ34.out; omega
                                                        case rel => exact ⟨(y304), (y307), (wrap64 (x30_2 + 1)), (by first | rfl | (simp; done) | (simp [*]; done)), H', ⟨by have := HK1.out; have := HK2.out; have := HJ23.out; have := HJ34.out; omega⟩, ⟨by (try simp only [hl6_2]); (try simp only [hl7_2]); (with_reducible repeat (first | apply Kd.R_alloc | apply Kd.R_drewN | apply Kd.R_drew)); exact Kd.R_mono HO_6.out (fun _ hk => hk.2)⟩, ⟨by (try simp only [hl6_2]); (try simp only [hl7_2]); (with_reducible repeat (first | apply Kd.R_alloc | apply Kd.R_drewN | apply Kd.R_drew)); exact HO_7.out⟩, ⟨by repeat (first | (with_reducible first | exact HB.out | apply below_alloc | apply pw_below_drewN | apply below_drew1 | refine below_set ?_ GE299.out) | exact HB.out)⟩⟩
                                                      · rw [if_neg c47] at H
                                                        have c47b0 : decide ((rd x7_2 x8_1) < 0) = false := decide_eq_false c47
                                                        clear c47
                                                        by_cases c54 : (wrap64 ((rd x7_2 ((rd_T84 l1 x30_2).f0)) + ((rd_T84 l1 x30_2).f3))) < (rd x7_2 x8_1)
                                                        · rw [if_pos c54] at H
                                                          have c54b0 : decide ((wrap64 ((rd x7_2 ((rd_T84 l1 x30_2).f0)) + ((rd_T84 l1 x30_2).f3))) < (rd x7_2 x8_1)) = true := decide_eq_true c54
                                                          clear c54
                                                          obtain ⟨y309, hy309⟩ : ∃ y_ : List Int, y_ = (x7_2.set (x8_1 : Int).toNat (wrap64 ((rd x7_2 ((rd_T84 l1 x30_2).f0)) + ((rd_T84 l1 x30_2).f3)))) := ⟨_, rfl⟩
                                                          replace H : (impl_litTimes.l1 kj34 a0 l1 y304 y309 x8_1 l1 (l1.length : Int) (wrap64 (x30_2 + 1))) = some (r1, r2) := by first | (rw [hy309]; with_reducible exact H) | (have H2_ := (Option.bind_some _ _).symm.trans H; rw [hy309]; with_reducible exact H2_) | (have H2_ := (Option.bind_some _ _).symm.trans H; with_reducible exact H2_) | with_reducible exact H | (rw [hy309]; exact H) | exact H
                                                          have Ny309 := Aside0.mk hy309
                                                          clear hy309
                                                          have H' := Aside0.mk H
                                                          clear H
                                                          have p43 : 0 ≤ (x8_1 : Int) := of_decide_eq_true (by first | (with_reducible assumption) | assumption)
                                                          have q43 : (x8_1 : Int) < ((x6_2.length : Int) : Int) := of_decide_eq_true (by first | (with_reducible assumption) | assumption)
                                                          obtain ⟨hx43_0, hf43_0⟩ := Kd.R_celln 0 HO_6.out (x8_1 : Int) p43 q43
                                                          replace p43 := eq_true p43
                                                          replace q43 := eq_true q43
                                                          have HP56 := Kd.R_putg HO_6.out (x8_1 : Int) (wrap64 ((rd x6_2 ((rd_T84 l1 x30_2).f0)) + ((rd_T84 l1 x30_2).f2)))
                                                          try go_wp2_with (first | ((with_reducible refine gate_store (t := 2) (p := 70) rfl ?_); refine store_event (t := 2) (p := 70) (v := ?vo_w57) (w1 := (wc.setCell ⟨go14, (x8_1 : Int).toNat, none⟩ (.int .i64 (wrap64 ((rd x6_2 ((rd_T84 l1 x30_2).f0)) + ((rd_T84 l1 x30_2).f2)))))) ?hg ?ho ?hn ?hr ?_; (case ho => rfl); (case hg => rfl); (case hn => rfl); (case hr => first | (go_simp; done) | (go_simp; rfl)); intro w57 hw; have hg : wc.grownBy w57 (some go14) := (by rw [hw]; exact HP56.2); have hp_ : Kd.R (Kd.int .i64) 2 w57 w.heap.size (fun k_ => some k_ ≠ (.slice (some ⟨go16, 0, none⟩) x7_2.length co16 : Value).ownBlock) (.slice (some ⟨go14, 0, none⟩) x6_2.length co14) y304 := (by rw [hw, Ny304.out]; exact HP56.1); clear HP56; have n0_ := Aside0.mk (hp_); have n1_ := Aside0.mk (Kd.R_after (v := (.slice (some ⟨go14, 0, none⟩) x6_2.length co14)) (v1 := (.slice (some ⟨go14, 0, none⟩) x6_2.length co14)) (ok := (fun _ => True)) (by (with_reducible repeat (first | apply Kd.R_alloc | apply Kd.R_drewN | apply Kd.R_drew)); exact Kd.R_mono HO_7.out (fun _ hk => ⟨trivial, hk⟩)) hg (.inl rfl)); have n2_ := Aside0.mk (blk_grown (g := gb299) (o := .cells #[.int .i64 ((rd_T84 l1 x30_2).f0), .int .i64 ((rd_T84 l1 x30_2).f1), .int .i64 ((rd_T84 l1 x30_2).f2), .int .i64 ((rd_T84 l1 x30_2).f3)] 84 (0, 0)) (by (with_reducible repeat (first | refine blk_drewN ?_ _ | refine blk_drew ?_ | refine blk_alloc ?_ _)); exact BK299.out) hg (Kd.R_ne HO_6.out BK299.out (by decide))); have n3_ := Aside0.mk ((by rw [hw]; exact below_set (HB.out) GB14.out : Below w.heap.size w w57)); clear HO_6; clear HO_7; clear BK299; clear HB; have HO_6 := n0_; have HO_7 := n1_; have BK299 := n2_; have HB := n3_; clear n0_ n1_ n2_ n3_; clear hg hw hp_))
                                                          have n0_ := Aside0.mk (Kd.R_drew HO_6.out)
                                                          have n1_ := Aside0.mk (Kd.R_drew HO_7.out)
                                                          have n2_ := Aside0.mk (blk_drew BK299.out)
                                                          have n3_ := Aside0.mk (below_drew1 HB.out)
                                                          clear HO_6
                                                          clear HO_7
                                                          clear BK299
                                                          clear HB
                                                          have HO_6 := n0_
                                                          have HO_7 := n1_
                                                          have BK299 := n2_
                                                          have HB := n3_
                                                          clear n0_ n1_ n2_ n3_
                                                          have p305 : 0 ≤ (((rd_T84 l1 x30_2).f0) : Int) := of_decide_eq_true (by first | (with_reducible assumption) | assumption)
                                                          have q305 : ((rd_T84 l1 x30_2).f0) < (x7_2.length : Int) := of_decide_eq_true (by first | (with_reducible assumption) | assumption)
                                                          obtain ⟨ad305, e305, hx305_0⟩ := Kd.at_int (Kd.R_reads' HO_7.out).2.2 ((rd_T84 l1 x30_2).f0) p305 q305
                                                          obtain rfl : (⟨go16, 0, none⟩ : Addr) = ad305 := (by injection e305)
                                                          (first | simp only [add_plain] at hx305_0 | simp only [add_at] at hx305_0 | simp only [Addr.add, Nat.zero_add] at hx305_0 | skip)
                                                          replace p305 := eq_true p305
                                                          replace q305 := eq_true q305
                                                          refine start_ (n := 9) (S := fun w' => w'.cell? ⟨gb299, 0, none⟩ = some (.int .i64 ((rd_T84 l1 x30_2).f0)) ∧ w'.cell? ⟨gb299, 1, none⟩ = some (.int .i64 ((rd_T84 l1 x30_2).f1)) ∧ w'.cell? ⟨gb299, 2, none⟩ = some (.int .i64 ((rd_T84 l1 x30_2).f2)) ∧ w'.cell? ⟨gb299, 3, none⟩ = some (.int .i64 ((rd_T84 l1 x30_2).f3)) ∧ w'.cell? ⟨go16, (((rd_T84 l1 x30_2).f0)).toNat, none⟩ = some (.int .i64 (rd x7_2 ((rd_T84 l1 x30_2).f0)))) (ds := []) #[false, false, false, false, false, false, false, false, false] (by kernel_rfl) rfl rfl ⟨(blk_cell BK299.out 0).trans rfl, (blk_cell BK299.out 1).trans rfl, (blk_cell BK299.out 2).trans rfl, (blk_cell BK299.out 3).trans rfl, hx305_0⟩ (fun hHeld => ?_); refine with_tabW impl_litTimes.tab13 impl_litTimes.bits13 (fun HT_ HW_ => ?_)
                                                          generalize w57.drew = w58 at HO_6 HO_7 BK299 HB hx305_0 hHeld ⊢
                                                          refine pure_ (i := 0) (N := some 71) (v := ?_) (a' := ?_) #[true, false, false, false, false, false, false, false, false] rfl rfl (any_of HT_.out (by kernel_rfl)) (fun _ _ _ h => h) (Or.inl ⟨by rfl, ?_⟩) ?_ ?_
                                                          rotate_left
                                                          · intro w'
                                                            go_simp
                                                            with_reducible rfl
                                                          rotate_left
                                                          · simp only [Act.put, List.setIfInBounds_toArray, List.set_cons_zero, List.set_cons_succ, i64_w, i32_w]
                                                            rfl
                                                          refine pure_ (i := 1) (N := some 72) (v := ?_) (a' := ?_) #[true, true, false, false, false, false, false, false, false] rfl rfl (any_of HT_.out (by kernel_rfl)) (fun _ _ _ h => h) (Or.inl ⟨by rfl, ?_⟩) ?_ ?_
                                                          rotate_left
                                                          · intro w'
                                                            go_simp
                                                            with_reducible rfl
                                                          rotate_left
                                                          · simp only [Act.put, List.setIfInBounds_toArray, List.set_cons_zero, List.set_cons_succ, i64_w, i32_w]
                                                            rfl
                                                          refine pure_ (i := 5) (N := some 76) (v := ?_) (a' := ?_) #[true, true, false, false, false, true, false, false, false] rfl rfl (any_of HT_.out (by kernel_rfl)) (fun _ _ _ h => h) (Or.inl ⟨by rfl, ?_⟩) ?_ ?_
                                                          rotate_left
                                                          · intro w'
                                                            go_simp
                                                            with_reducible rfl
                                                          rotate_left
                                                          · simp only [Act.put, List.setIfInBounds_toArray, List.set_cons_zero, List.set_cons_succ, i64_w, i32_w]
                                                            rfl
                                                          refine take_ (i := 2) (N := some 73) (v := ?_) (a' := ?_) #[true, true, true, false, false, true, false, false, false] rfl rfl (take_ofW HT_.out HW_.out (by kernel_rfl)) (fun _ _ _ h => h) (Or.inl ⟨by rfl, ?_⟩) hHeld ?_ ?_
                                                          rotate_left
                                                          · rintro w' ⟨s0, s1, s2, s3, s4⟩
                                                            go_simp
                                                            with_reducible rfl
                                                          rotate_left
                                                          · simp only [Act.put, List.setIfInBounds_toArray, List.set_cons_zero, List.set_cons_succ, i64_w, i32_w]
                                                            rfl
                                                          refine pure_ (i := 3) (N := some 74) (v := ?_) (a' := ?_) #[true, true, true, true, false, true, false, false, false] rfl rfl (any_of HT_.out (by kernel_rfl)) (fun _ _ _ h => h) (Or.inl ⟨by rfl, ?_⟩) ?_ ?_
                                                          rotate_left
                                                          · intro w'
                                                            go_simp
                                                            with_reducible rfl
                                                          rotate_left
                                                          · simp only [Act.put, List.setIfInBounds_toArray, List.set_cons_zero, List.set_cons_succ, i64_w, i32_w]
                                                            rfl
                                                          refine take_ (i := 4) (N := some 75) (v := ?_) (a' := ?_) #[true, true, true, true, true, true, false, false, false] rfl rfl (take_ofW HT_.out HW_.out (by kernel_rfl)) (fun _ _ _ h => h) (Or.inl ⟨by rfl, ?_⟩) hHeld ?_ ?_
                                                          rotate_left
                                                          · rintro w' ⟨s0, s1, s2, s3, s4⟩
                                                            go_simp
                                                            with_reducible rfl
                                                          rotate_left
                                                          · simp only [Act.put, List.setIfInBounds_toArray, List.set_cons_zero, List.set_cons_succ, i64_w, i32_w]
                                                            rfl
                                                          refine take_ (i := 6) (N := some 77) (v := ?_) (a' := ?_) #[true, true, true, true, true, true, true, false, false] rfl rfl (take_ofW HT_.out HW_.out (by kernel_rfl)) (fun _ _ _ h => h) (Or.inl ⟨by rfl, ?_⟩) hHeld ?_ ?_
                                                          rotate_left
                                                          · rintro w' ⟨s0, s1, s2, s3, s4⟩
                                                            go_simp
                                                            with_reducible rfl
                                                          rotate_left
                                                          · simp only [Act.put, List.setIfInBounds_toArray, List.set_cons_zero, List.set_cons_succ, i64_w, i32_w]
                                                            rfl
                                                          refine pure_ (i := 7) (N := some 78) (v := ?_) (a' := ?_) #[true, true, true, true, true, true, true, true, false] rfl rfl (any_of HT_.out (by kernel_rfl)) (fun _ _ _ h => h) (Or.inl ⟨by rfl, ?_⟩) ?_ ?_
                                                          rotate_left
                                                          · intro w'
                                                            go_simp
                                                            with_reducible rfl
                                                          rotate_left
                                                          · simp only [Act.put, List.setIfInBounds_toArray, List.set_cons_zero, List.set_cons_succ, i64_w, i32_w]
                                                            rfl
                                                          refine pure_ (i := 8) (N := some 12) (v := ?_) (a' := ?_) #[true, true, true, true, true, true, true, true, true] rfl rfl (any_of HT_.out (by kernel_rfl)) (fun _ _ _ h => h) (Or.inl ⟨by rfl, ?_⟩) ?_ ?_
                                                          rotate_left
                                                          · intro w'
                                                            go_simp
                                                            with_reducible rfl
                                                          rotate_left
                                                          · simp only [Act.put, List.setIfInBounds_toArray, List.set_cons_zero, List.set_cons_succ, i64_w, i32_w]
                                                            rfl
                                                          refine done_ (done_of HT_.out (by kernel_rfl)) ?_
                                                          have p306 : 0 ≤ (x8_1 : Int) := of_decide_eq_true (by first | (with_reducible assumption) | assumption)
                                                          have q306 : x8_1 < (x7_2.length : Int) := of_decide_eq_true (by first | (with_reducible assumption) | assumption)
                                                          obtain ⟨ad306, e306, hx306_0⟩ := Kd.at_int (Kd.R_reads' HO_7.out).2.2 x8_1 p306 q306
                                                          obtain rfl : (⟨go16, 0, none⟩ : Addr) = ad306 := (by injection e306)
                                                          (first | simp only [add_plain] at hx306_0 | simp only [add_at] at hx306_0 | simp only [Addr.add, Nat.zero_add] at hx306_0 | skip)
                                                          replace p306 := eq_true p306
                                                          replace q306 := eq_true q306
                                                          have p308 : 0 ≤ (x8_1 : Int) := of_decide_eq_true (by first | (with_reducible assumption) | assumption)
                                                          have q308 : x8_1 < (x7_2.length : Int) := of_decide_eq_true (by first | (with_reducible assumption) | assumption)
                                                          obtain ⟨ad308, e308, hx308_0⟩ := Kd.at_int (Kd.R_reads' HO_7.out).2.2 x8_1 p308 q308
                                                          obtain rfl : (⟨go16, 0, none⟩ : Addr) = ad308 := (by injection e308)
                                                          (first | simp only [add_plain] at hx308_0 | simp only [add_at] at hx308_0 | simp only [Addr.add, Nat.zero_add] at hx308_0 | skip)
                                                          replace p308 := eq_true p308
                                                          replace q308 := eq_true q308
                                                          have p55 : 0 ≤ (x8_1 : Int) := of_decide_eq_true (by first | (with_reducible assumption) | assumption)
                                                          have q55 : (x8_1 : Int) < ((x7_2.length : Int) : Int) := of_decide_eq_true (by first | (with_reducible assumption) | assumption)
                                                          obtain ⟨hx55_0, hf55_0⟩ := Kd.R_celln 0 HO_7.out (x8_1 : Int) p55 q55
                                                          replace p55 := eq_true p55
                                                          replace q55 := eq_true q55
                                                          have n_ := Aside0.mk (Kd.R_mono (ok' := (fun k_ => some k_ ≠ (.slice (some ⟨go14, 0, none⟩) x6_2.length co14 : Value).ownBlock)) HO_7.out (fun k_ hk => hk.2))
                                                          clear HO_7
                                                          have HO_7 := n_
                                                          clear n_
                                                          obtain ⟨hy59_, hz59_⟩ := Kd.R_celln 0 HO_7.out (x8_1 : Int) (of_decide_eq_true (by first | (with_reducible assumption) | assumption)) (of_decide_eq_true (by first | (with_reducible assumption) | assumption))
                                                          have HP59 := Kd.R_putg HO_7.out (x8_1 : Int) (wrap64 ((rd x7_2 ((rd_T84 l1 x30_2).f0)) + ((rd_T84 l1 x30_2).f3)))
                                                          try go_wp2_with (first | ((with_reducible refine gate_store (t := 2) (p := 95) rfl ?_); refine store_event (t := 2) (p := 95) (v := ?vo_w60) (w1 := (w58.setCell ⟨go16, (x8_1 : Int).toNat, none⟩ (.int .i64 (wrap64 ((rd x7_2 ((rd_T84 l1 x30_2).f0)) + ((rd_T84 l1 x30_2).f3)))))) ?hg ?ho ?hn ?hr ?_; (case ho => rfl); (case hg => rfl); (case hn => rfl); (case hr => first | (go_simp; done) | (go_simp; rfl)); intro w60 hw; have hg : w58.grownBy w60 (some go16) := (by rw [hw]; exact HP59.2); have hp_ : Kd.R (Kd.int .i64) 2 w60 w.heap.size (fun k_ => some k_ ≠ (.slice (some ⟨go14, 0, none⟩) x6_2.length co14 : Value).ownBlock) (.slice (some ⟨go16, 0, none⟩) x7_2.length co16) y309 := (by rw [hw, Ny309.out]; exact HP59.1); clear HP59; have n0_ := Aside0.mk (Kd.R_after (v := (.slice (some ⟨go16, 0, none⟩) x7_2.length co16)) (v1 := (.slice (some ⟨go16, 0, none⟩) x7_2.length co16)) (ok := (fun _ => True)) (by (with_reducible repeat (first | apply Kd.R_alloc | apply Kd.R_drewN | apply Kd.R_drew)); exact Kd.R_mono HO_6.out (fun _ hk => ⟨trivial, hk⟩)) hg (.inl rfl)); have n1_ := Aside0.mk (hp_); have n2_ := Aside0.mk (blk_grown (g := gb299) (o := .cells #[.int .i64 ((rd_T84 l1 x30_2).f0), .int .i64 ((rd_T84 l1 x30_2).f1), .int .i64 ((rd_T84 l1 x30_2).f2), .int .i64 ((rd_T84 l1 x30_2).f3)] 84 (0, 0)) (by (with_reducible repeat (first | refine blk_drewN ?_ _ | refine blk_drew ?_ | refine blk_alloc ?_ _)); exact BK299.out) hg (Kd.R_ne HO_7.out BK299.out (by decide))); have n3_ := Aside0.mk ((by rw [hw]; exact below_set (HB.out) GB16.out : Below w.heap.size w w60)); clear HO_6; clear HO_7; clear BK299; clear HB; have HO_6 := n0_; have HO_7 := n1_; have BK299 := n2_; have HB := n3_; clear n0_ n1_ n2_ n3_; clear hg hw hp_))
                                                          (try simp only [← hl6_2, ← hl7_2])
                                                          go_roundg kj34
                                                          case measure => have := HK1.out; have := HK2.out; have := HJ23.out; have := HJ34.out; omega
                                                          case rel => exact ⟨(y304), (y309), (wrap64 (x30_2 + 1)), (by first | rfl | (simp; done) | (simp [*]; done)), H', ⟨by have := HK1.out; have := HK2.out; have := HJ23.out; have := HJ34.out; omega⟩, ⟨by (try simp only [hl6_2]); (try simp only [hl7_2]); (with_reducible repeat (first | apply Kd.R_alloc | apply Kd.R_drewN | apply Kd.R_drew)); exact Kd.R_mono HO_6.out (fun _ hk => hk.2)⟩, ⟨by (try simp only [hl6_2]); (try simp only [hl7_2]); (with_reducible repeat (first | apply Kd.R_alloc | apply Kd.R_drewN | apply Kd.R_drew)); exact HO_7.out⟩, ⟨by repeat (first | (with_reducible first | exact HB.out | apply below_alloc | apply pw_below_drewN | apply below_drew1 | refine below_set ?_ GE299.out) | exact HB.out)⟩⟩
                                                        · rw [if_neg c54] at H
                                                          have c54b0 : decide ((wrap64 ((rd x7_2 ((rd_T84 l1 x30_2).f0)) + ((rd_T84 l1 x30_2).f3))) < (rd x7_2 x8_1)) = false := decide_eq_false c54
                                                          clear c54
                                                          have H' := Aside0.mk H
                                                          clear H
                                                          have p43 : 0 ≤ (x8_1 : Int) := of_decide_eq_true (by first | (with_reducible assumption) | assumption)
                                                          have q43 : (x8_1 : Int) < ((x6_2.length : Int) : Int) := of_decide_eq_true (by first | (with_reducible assumption) | assumption)
                                                          obtain ⟨hx43_0, hf43_0⟩ := Kd.R_celln 0 HO_6.out (x8_1 : Int) p43 q43
                                                          replace p43 := eq_true p43
                                                          replace q43 := eq_true q43
                                                          have HP61 := Kd.R_putg HO_6.out (x8_1 : Int) (wrap64 ((rd x6_2 ((rd_T84 l1 x30_2).f0)) + ((rd_T84 l1 x30_2).f2)))
                                                          try go_wp2_with (first | ((with_reducible refine gate_store (t := 2) (p := 70) rfl ?_); refine store_event (t := 2) (p := 70) (v := ?vo_w62) (w1 := (wc.setCell ⟨go14, (x8_1 : Int).toNat, none⟩ (.int .i64 (wrap64 ((rd x6_2 ((rd_T84 l1 x30_2).f0)) + ((rd_T84 l1 x30_2).f2)))))) ?hg ?ho ?hn ?hr ?_; (case ho => rfl); (case hg => rfl); (case hn => rfl); (case hr => first | (go_simp; done) | (go_simp; rfl)); intro w62 hw; have hg : wc.grownBy w62 (some go14) := (by rw [hw]; exact HP61.2); have hp_ : Kd.R (Kd.int .i64) 2 w62 w.heap.size (fun k_ => some k_ ≠ (.slice (some ⟨go16, 0, none⟩) x7_2.length co16 : Value).ownBlock) (.slice (some ⟨go14, 0, none⟩) x6_2.length co14) y304 := (by rw [hw, Ny304.out]; exact HP61.1); clear HP61; have n0_ := Aside0.mk (hp_); have n1_ := Aside0.mk (Kd.R_after (v := (.slice (some ⟨go14, 0, none⟩) x6_2.length co14)) (v1 := (.slice (some ⟨go14, 0, none⟩) x6_2.length co14)) (ok := (fun _ => True)) (by (with_reducible repeat (first | apply Kd.R_alloc | apply Kd.R_drewN | apply Kd.R_drew)); exact Kd.R_mono HO_7.out (fun _ hk => ⟨trivial, hk⟩)) hg (.inl rfl)); have n2_ := Aside0.mk (blk_grown (g := gb299) (o := .cells #[.int .i64 ((rd_T84 l1 x30_2).f0), .int .i64 ((rd_T84 l1 x30_2).f1), .int .i64 ((rd_T84 l1 x30_2).f2), .int .i64 ((rd_T84 l1 x30_2).f3)] 84 (0, 0)) (by (with_reducible repeat (first | refine blk_drewN ?_ _ | refine blk_drew ?_ | refine blk_alloc ?_ _)); exact BK299.out) hg (Kd.R_ne HO_6.out BK299.out (by decide))); have n3_ := Aside0.mk ((by rw [hw]; exact below_set (HB.out) GB14.out : Below w.heap.size w w62)); clear HO_6; clear HO_7; clear BK299; clear HB; have HO_6 := n0_; have HO_7 := n1_; have BK299 := n2_; have HB := n3_; clear n0_ n1_ n2_ n3_; clear hg hw hp_))
                                                          have n0_ := Aside0.mk (Kd.R_drew HO_6.out)
                                                          have n1_ := Aside0.mk (Kd.R_drew HO_7.out)
                                                          have n2_ := Aside0.mk (blk_drew BK299.out)
                                                          have n3_ := Aside0.mk (below_drew1 HB.out)
                                                          clear HO_6
                                                          clear HO_7
                                                          clear BK299
                                                          clear HB
                                                          have HO_6 := n0_
                                                          have HO_7 := n1_
                                                          have BK299 := n2_
                                                          have HB := n3_
                                                          clear n0_ n1_ n2_ n3_
                                                          have p305 : 0 ≤ (((rd_T84 l1 x30_2).f0) : Int) := of_decide_eq_true (by first | (with_reducible assumption) | assumption)
                                                          have q305 : ((rd_T84 l1 x30_2).f0) < (x7_2.length : Int) := of_decide_eq_true (by first | (with_reducible assumption) | assumption)
                                                          obtain ⟨ad305, e305, hx305_0⟩ := Kd.at_int (Kd.R_reads' HO_7.out).2.2 ((rd_T84 l1 x30_2).f0) p305 q305
                                                          obtain rfl : (⟨go16, 0, none⟩ : Addr) = ad305 := (by injection e305)
                                                          (first | simp only [add_plain] at hx305_0 | simp only [add_at] at hx305_0 | simp only [Addr.add, Nat.zero_add] at hx305_0 | skip)
                                                          replace p305 := eq_true p305
                                                          replace q305 := eq_true q305
                                                          refine start_ (n := 9) (S := fun w' => w'.cell? ⟨gb299, 0, none⟩ = some (.int .i64 ((rd_T84 l1 x30_2).f0)) ∧ w'.cell? ⟨gb299, 1, none⟩ = some (.int .i64 ((rd_T84 l1 x30_2).f1)) ∧ w'.cell? ⟨gb299, 2, none⟩ = some (.int .i64 ((rd_T84 l1 x30_2).f2)) ∧ w'.cell? ⟨gb299, 3, none⟩ = some (.int .i64 ((rd_T84 l1 x30_2).f3)) ∧ w'.cell? ⟨go16, (((rd_T84 l1 x30_2).f0)).toNat, none⟩ = some (.int .i64 (rd x7_2 ((rd_T84 l1 x30_2).f0)))) (ds := []) #[false, false, false, false, false, false, false, false, false] (by kernel_rfl) rfl rfl ⟨(blk_cell BK299.out 0).trans rfl, (blk_cell BK299.out 1).trans rfl, (blk_cell BK299.out 2).trans rfl, (blk_cell BK299.out 3).trans rfl, hx305_0⟩ (fun hHeld => ?_); refine with_tabW impl_litTimes.tab13 impl_litTimes.bits13 (fun HT_ HW_ => ?_)
                                                          generalize w62.drew = w63 at HO_6 HO_7 BK299 HB hx305_0 hHeld ⊢
                                                          refine pure_ (i := 0) (N := some 71) (v := ?_) (a' := ?_) #[true, false, false, false, false, false, false, false, false] rfl rfl (any_of HT_.out (by kernel_rfl)) (fun _ _ _ h => h) (Or.inl ⟨by rfl, ?_⟩) ?_ ?_
                                                          rotate_left
                                                          · intro w'
                                                            go_simp
                                                            with_reducible rfl
                                                          rotate_left
                                                          · simp only [Act.put, List.setIfInBounds_toArray, List.set_cons_zero, List.set_cons_succ, i64_w, i32_w]
                                                            rfl
                                                          refine pure_ (i := 1) (N := some 72) (v := ?_) (a' := ?_) #[true, true, false, false, false, false, false, false, false] rfl rfl (any_of HT_.out (by kernel_rfl)) (fun _ _ _ h => h) (Or.inl ⟨by rfl, ?_⟩) ?_ ?_
                                                          rotate_left
                                                          · intro w'
                                                            go_simp
                                                            with_reducible rfl
                                                          rotate_left
                                                          · simp only [Act.put, List.setIfInBounds_toArray, List.set_cons_zero, List.set_cons_succ, i64_w, i32_w]
                                                            rfl
                                                          refine pure_ (i := 5) (N := some 76) (v := ?_) (a' := ?_) #[true, true, false, false, false, true, false, false, false] rfl rfl (any_of HT_.out (by kernel_rfl)) (fun _ _ _ h => h) (Or.inl ⟨by rfl, ?_⟩) ?_ ?_
                                                          rotate_left
                                                          · intro w'
                                                            go_simp
                                                            with_reducible rfl
                                                          rotate_left
                                                          · simp only [Act.put, List.setIfInBounds_toArray, List.set_cons_zero, List.set_cons_succ, i64_w, i32_w]
                                                            rfl
                                                          refine take_ (i := 2) (N := some 73) (v := ?_) (a' := ?_) #[true, true, true, false, false, true, false, false, false] rfl rfl (take_ofW HT_.out HW_.out (by kernel_rfl)) (fun _ _ _ h => h) (Or.inl ⟨by rfl, ?_⟩) hHeld ?_ ?_
                                                          rotate_left
                                                          · rintro w' ⟨s0, s1, s2, s3, s4⟩
                                                            go_simp
                                                            with_reducible rfl
                                                          rotate_left
                                                          · simp only [Act.put, List.setIfInBounds_toArray, List.set_cons_zero, List.set_cons_succ, i64_w, i32_w]
                                                            rfl
                                                          refine pure_ (i := 3) (N := some 74) (v := ?_) (a' := ?_) #[true, true, true, true, false, true, false, false, false] rfl rfl (any_of HT_.out (by kernel_rfl)) (fun _ _ _ h => h) (Or.inl ⟨by rfl, ?_⟩) ?_ ?_
                                                          rotate_left
                                                          · intro w'
                                                            go_simp
                                                            with_reducible rfl
                                                          rotate_left
                                                          · simp only [Act.put, List.setIfInBounds_toArray, List.set_cons_zero, List.set_cons_succ, i64_w, i32_w]
                                                            rfl
                                                          refine take_ (i := 4) (N := some 75) (v := ?_) (a' := ?_) #[true, true, true, true, true, true, false, false, false] rfl rfl (take_ofW HT_.out HW_.out (by kernel_rfl)) (fun _ _ _ h => h) (Or.inl ⟨by rfl, ?_⟩) hHeld ?_ ?_
                                                          rotate_left
                                                          · rintro w' ⟨s0, s1, s2, s3, s4⟩
                                                            go_simp
                                                            with_reducible rfl
                                                          rotate_left
                                                          · simp only [Act.put, List.setIfInBounds_toArray, List.set_cons_zero, List.set_cons_succ, i64_w, i32_w]
                                                            rfl
                                                          refine take_ (i := 6) (N := some 77) (v := ?_) (a' := ?_) #[true, true, true, true, true, true, true, false, false] rfl rfl (take_ofW HT_.out HW_.out (by kernel_rfl)) (fun _ _ _ h => h) (Or.inl ⟨by rfl, ?_⟩) hHeld ?_ ?_
                                                          rotate_left
                                                          · rintro w' ⟨s0, s1, s2, s3, s4⟩
                                                            go_simp
                                                            with_reducible rfl
                                                          rotate_left
                                                          · simp only [Act.put, List.setIfInBounds_toArray, List.set_cons_zero, List.set_cons_succ, i64_w, i32_w]
                                                            rfl
                                                          refine pure_ (i := 7) (N := some 78) (v := ?_) (a' := ?_) #[true, true, true, true, true, true, true, true, false] rfl rfl (any_of HT_.out (by kernel_rfl)) (fun _ _ _ h => h) (Or.inl ⟨by rfl, ?_⟩) ?_ ?_
                                                          rotate_left
                                                          · intro w'
                                                            go_simp
                                                            with_reducible rfl
                                                          rotate_left
                                                          · simp only [Act.put, List.setIfInBounds_toArray, List.set_cons_zero, List.set_cons_succ, i64_w, i32_w]
                                                            rfl
                                                          refine pure_ (i := 8) (N := some 12) (v := ?_) (a' := ?_) #[true, true, true, true, true, true, true, true, true] rfl rfl (any_of HT_.out (by kernel_rfl)) (fun _ _ _ h => h) (Or.inl ⟨by rfl, ?_⟩) ?_ ?_
                                                          rotate_left
                                                          · intro w'
                                                            go_simp
                                                            with_reducible rfl
                                                          rotate_left
                                                          · simp only [Act.put, List.setIfInBounds_toArray, List.set_cons_zero, List.set_cons_succ, i64_w, i32_w]
                                                            rfl
                                                          refine done_ (done_of HT_.out (by kernel_rfl)) ?_
                                                          have p306 : 0 ≤ (x8_1 : Int) := of_decide_eq_true (by first | (with_reducible assumption) | assumption)
                                                          have q306 : x8_1 < (x7_2.length : Int) := of_decide_eq_true (by first | (with_reducible assumption) | assumption)
                                                          obtain ⟨ad306, e306, hx306_0⟩ := Kd.at_int (Kd.R_reads' HO_7.out).2.2 x8_1 p306 q306
                                                          obtain rfl : (⟨go16, 0, none⟩ : Addr) = ad306 := (by injection e306)
                                                          (first | simp only [add_plain] at hx306_0 | simp only [add_at] at hx306_0 | simp only [Addr.add, Nat.zero_add] at hx306_0 | skip)
                                                          replace p306 := eq_true p306
                                                          replace q306 := eq_true q306
                                                          have p308 : 0 ≤ (x8_1 : Int) := of_decide_eq_true (by first | (with_reducible assumption) | assumption)
                                                          have q308 : x8_1 < (x7_2.length : Int) := of_decide_eq_true (by first | (with_reducible assumption) | assumption)
                                                          obtain ⟨ad308, e308, hx308_0⟩ := Kd.at_int (Kd.R_reads' HO_7.out).2.2 x8_1 p308 q308
                                                          obtain rfl : (⟨go16, 0, none⟩ : Addr) = ad308 := (by injection e308)
                                                          (first | simp only [add_plain] at hx308_0 | simp only [add_at] at hx308_0 | simp only [Addr.add, Nat.zero_add] at hx308_0 | skip)
                                                          replace p308 := eq_true p308
                                                          replace q308 := eq_true q308
                                                          try go_wp2
                                                          (try simp only [← hl6_2, ← hl7_2])
                                                          go_roundg kj34
                                                          case measure => have := HK1.out; have := HK2.out; have := HJ23.out; have := HJ34.out; omega
                                                          case rel => exact ⟨(y304), (x7_2), (wrap64 (x30_2 + 1)), (by first | rfl | (simp; done) | (simp [*]; done)), H', ⟨by have := HK1.out; have := HK2.out; have := HJ23.out; have := HJ34.out; omega⟩, ⟨by (try simp only [hl6_2]); (try simp only [hl7_2]); (with_reducible repeat (first | apply Kd.R_alloc | apply Kd.R_drewN | apply Kd.R_drew)); exact HO_6.out⟩, ⟨by (try simp only [hl6_2]); (try simp only [hl7_2]); (with_reducible repeat (first | apply Kd.R_alloc | apply Kd.R_drewN | apply Kd.R_drew)); exact Kd.R_mono HO_7.out (fun _ hk => hk.2)⟩, ⟨by repeat (first | (with_reducible first | exact HB.out | apply below_alloc | apply pw_below_drewN | apply below_drew1 | refine below_set ?_ GE299.out) | exact HB.out)⟩⟩
                                                    · rw [if_neg c46] at H
                                                      exact absurd H (by simp)
                                                  · rw [if_neg c45] at H
                                                    exact absurd H (by simp)
                                                · rw [if_neg c44] at H
                                                  exact absurd H (by simp)
                                              · rw [if_neg c42] at H
                                                exact absurd H (by simp)
                                            · rw [if_neg c41] at H
                                              exact absurd H (by simp)
                                          · replace c40 := Bool.eq_false_iff.mpr c40
                                            subst c40
                                            have H1 : (if 0 ≤ ((rd_T84 l1 x30_2).f0) then (if ((rd_T84 l1 x30_2).f0) < (x7_2.length : Int) then (if 0 ≤ x8_1 then (if x8_1 < (x7_2.length : Int) then (if (rd x7_2 x8_1) < 0 then (impl_litTimes.l1 kj34 a0 l1 x6_2 (x7_2.set (x8_1 : Int).toNat (wrap64 ((rd x7_2 ((rd_T84 l1 x30_2).f0)) + ((rd_T84 l1 x30_2).f3)))) x8_1 l1 (l1.length : Int) (wrap64 (x30_2 + 1))) else (if (wrap64 ((rd x7_2 ((rd_T84 l1 x30_2).f0)) + ((rd_T84 l1 x30_2).f3))) < (rd x7_2 x8_1) then (impl_litTimes.l1 kj34 a0 l1 x6_2 (x7_2.set (x8_1 : Int).toNat (wrap64 ((rd x7_2 ((rd_T84 l1 x30_2).f0)) + ((rd_T84 l1 x30_2).f3)))) x8_1 l1 (l1.length : Int) (wrap64 (x30_2 + 1))) else (impl_litTimes.l1 kj34 a0 l1 x6_2 x7_2 x8_1 l1 (l1.length : Int) (wrap64 (x30_2 + 1))))) else (none)) else (none)) else (none)) else (none)) = some (r1, r2) := by rw [if_neg (show ¬ (false = true) by decide)] at H; exact H
                                            clear H
                                            have H := H1
                                            clear H1
                                            by_cases c64 : 0 ≤ ((rd_T84 l1 x30_2).f0)
                                            · rw [if_pos c64] at H
                                              have c64b0 : decide (0 ≤ ((rd_T84 l1 x30_2).f0)) = true := decide_eq_true c64
                                              clear c64
                                              by_cases c65 : ((rd_T84 l1 x30_2).f0) < (x7_2.length : Int)
                                              · rw [if_pos c65] at H
                                                have c65b0 : decide (((rd_T84 l1 x30_2).f0) < (x7_2.length : Int)) = true := decide_eq_true c65
                                                clear c65
                                                by_cases c66 : 0 ≤ x8_1
                                                · rw [if_pos c66] at H
                                                  have c66b0 : decide (0 ≤ x8_1) = true := decide_eq_true c66
                                                  clear c66
                                                  by_cases c67 : x8_1 < (x7_2.length : Int)
                                                  · rw [if_pos c67] at H
                                                    have c67b0 : decide (x8_1 < (x7_2.length : Int)) = true := decide_eq_true c67
                                                    clear c67
                                                    by_cases c68 : (rd x7_2 x8_1) < 0
                                                    · rw [if_pos c68] at H
                                                      have c68b0 : decide ((rd x7_2 x8_1) < 0) = true := decide_eq_true c68
                                                      clear c68
                                                      obtain ⟨y312, hy312⟩ : ∃ y_ : List Int, y_ = (x7_2.set (x8_1 : Int).toNat (wrap64 ((rd x7_2 ((rd_T84 l1 x30_2).f0)) + ((rd_T84 l1 x30_2).f3)))) := ⟨_, rfl⟩
                                                      replace H : (impl_litTimes.l1 kj34 a0 l1 x6_2 y312 x8_1 l1 (l1.length : Int) (wrap64 (x30_2 + 1))) = some (r1, r2) := by first | (rw [hy312]; with_reducible exact H) | (have H2_ := (Option.bind_some _ _).symm.trans H; rw [hy312]; with_reducible exact H2_) | (have H2_ := (Option.bind_some _ _).symm.trans H; with_reducible exact H2_) | with_reducible exact H | (rw [hy312]; exact H) | exact H
                                                      have Ny312 := Aside0.mk hy312
                                                      clear hy312
                                                      have H' := Aside0.mk H
                                                      clear H
                                                      try go_wp2
                                                      have n0_ := Aside0.mk (Kd.R_drew HO_6.out)
                                                      have n1_ := Aside0.mk (Kd.R_drew HO_7.out)
                                                      have n2_ := Aside0.mk (blk_drew BK299.out)
                                                      have n3_ := Aside0.mk (below_drew1 HB.out)
                                                      clear HO_6
                                                      clear HO_7
                                                      clear BK299
                                                      clear HB
                                                      have HO_6 := n0_
                                                      have HO_7 := n1_
                                                      have BK299 := n2_
                                                      have HB := n3_
                                                      clear n0_ n1_ n2_ n3_
                                                      have p310 : 0 ≤ (((rd_T84 l1 x30_2).f0) : Int) := of_decide_eq_true (by first | (with_reducible assumption) | assumption)
                                                      have q310 : ((rd_T84 l1 x30_2).f0) < (x7_2.length : Int) := of_decide_eq_true (by first | (with_reducible assumption) | assumption)
                                                      obtain ⟨ad310, e310, hx310_0⟩ := Kd.at_int (Kd.R_reads' HO_7.out).2.2 ((rd_T84 l1 x30_2).f0) p310 q310
                                                      obtain rfl : (⟨go16, 0, none⟩ : Addr) = ad310 := (by injection e310)
                                                      (first | simp only [add_plain] at hx310_0 | simp only [add_at] at hx310_0 | simp only [Addr.add, Nat.zero_add] at hx310_0 | skip)
                                                      replace p310 := eq_true p310
                                                      replace q310 := eq_true q310
                                                      refine start_ (n := 9) (S := fun w' => w'.cell? ⟨gb299, 0, none⟩ = some (.int .i64 ((rd_T84 l1 x30_2).f0)) ∧ w'.cell? ⟨gb299, 1, none⟩ = some (.int .i64 ((rd_T84 l1 x30_2).f1)) ∧ w'.cell? ⟨gb299, 2, none⟩ = some (.int .i64 ((rd_T84 l1 x30_2).f2)) ∧ w'.cell? ⟨gb299, 3, none⟩ = some (.int .i64 ((rd_T84 l1 x30_2).f3)) ∧ w'.cell? ⟨go16, (((rd_T84 l1 x30_2).f0)).toNat, none⟩ = some (.int .i64 (rd x7_2 ((rd_T84 l1 x30_2).f0)))) (ds := []) #[false, false, false, false, false, false, false, false, false] (by kernel_rfl) rfl rfl ⟨(blk_cell BK299.out 0).trans rfl, (blk_cell BK299.out 1).trans rfl, (blk_cell BK299.out 2).trans rfl, (blk_cell BK299.out 3).trans rfl, hx310_0⟩ (fun hHeld => ?_); refine with_tabW impl_litTimes.tab13 impl_litTimes.bits13 (fun HT_ HW_ => ?_)
                                                      generalize wc.drew = w70 at HO_6 HO_7 BK299 HB hx310_0 hHeld ⊢
                                                      refine pure_ (i := 0) (N := some 71) (v := ?_) (a' := ?_) #[true, false, false, false, false, false, false, false, false] rfl rfl (any_of HT_.out (by kernel_rfl)) (fun _ _ _ h => h) (Or.inl ⟨by rfl, ?_⟩) ?_ ?_
                                                      rotate_left
                                                      · intro w'
                                                        go_simp
                                                        with_reducible rfl
                                                      rotate_left
                                                      · simp only [Act.put, List.setIfInBounds_toArray, List.set_cons_zero, List.set_cons_succ, i64_w, i32_w]
                                                        rfl
                                                      refine pure_ (i := 1) (N := some 72) (v := ?_) (a' := ?_) #[true, true, false, false, false, false, false, false, false] rfl rfl (any_of HT_.out (by kernel_rfl)) (fun _ _ _ h => h) (Or.inl ⟨by rfl, ?_⟩) ?_ ?_
                                                      rotate_left
                                                      · intro w'
                                                        go_simp
                                                        with_reducible rfl
                                                      rotate_left
                                                      · simp only [Act.put, List.setIfInBounds_toArray, List.set_cons_zero, List.set_cons_succ, i64_w, i32_w]
                                                        rfl
                                                      refine pure_ (i := 5) (N := some 76) (v := ?_) (a' := ?_) #[true, true, false, false, false, true, false, false, false] rfl rfl (any_of HT_.out (by kernel_rfl)) (fun _ _ _ h => h) (Or.inl ⟨by rfl, ?_⟩) ?_ ?_
                                                      rotate_left
                                                      · intro w'
                                                        go_simp
                                                        with_reducible rfl
                                                      rotate_left
                                                      · simp only [Act.put, List.setIfInBounds_toArray, List.set_cons_zero, List.set_cons_succ, i64_w, i32_w]
                                                        rfl
                                                      refine take_ (i := 2) (N := some 73) (v := ?_) (a' := ?_) #[true, true, true, false, false, true, false, false, false] rfl rfl (take_ofW HT_.out HW_.out (by kernel_rfl)) (fun _ _ _ h => h) (Or.inl ⟨by rfl, ?_⟩) hHeld ?_ ?_
                                                      rotate_left
                                                      · rintro w' ⟨s0, s1, s2, s3, s4⟩
                                                        go_simp
                                                        with_reducible rfl
                                                      rotate_left
                                                      · simp only [Act.put, List.setIfInBounds_toArray, List.set_cons_zero, List.set_cons_succ, i64_w, i32_w]
                                                        rfl
                                                      refine pure_ (i := 3) (N := some 74) (v := ?_) (a' := ?_) #[true, true, true, true, false, true, false, false, false] rfl rfl (any_of HT_.out (by kernel_rfl)) (fun _ _ _ h => h) (Or.inl ⟨by rfl, ?_⟩) ?_ ?_
                                                      rotate_left
                                                      · intro w'
                                                        go_simp
                                                        with_reducible rfl
                                                      rotate_left
                                                      · simp only [Act.put, List.setIfInBounds_toArray, List.set_cons_zero, List.set_cons_succ, i64_w, i32_w]
                                                        rfl
                                                      refine take_ (i := 4) (N := some 75) (v := ?_) (a' := ?_) #[true, true, true, true, true, true, false, false, false] rfl rfl (take_ofW HT_.out HW_.out (by kernel_rfl)) (fun _ _ _ h => h) (Or.inl ⟨by rfl, ?_⟩) hHeld ?_ ?_
                                                      rotate_left
                                                      · rintro w' ⟨s0, s1, s2, s3, s4⟩
                                                        go_simp
                                                        with_reducible rfl
                                                      rotate_left
                                                      · simp only [Act.put, List.setIfInBounds_toArray, List.set_cons_zero, List.set_cons_succ, i64_w, i32_w]
                                                        rfl
                                                      refine take_ (i := 6) (N := some 77) (v := ?_) (a' := ?_) #[true, true, true, true, true, true, true, false, false] rfl rfl (take_ofW HT_.out HW_.out (by kernel_rfl)) (fun _ _ _ h => h) (Or.inl ⟨by rfl, ?_⟩) hHeld ?_ ?_
                                                      rotate_left
                                                      · rintro w' ⟨s0, s1, s2, s3, s4⟩
                                                        go_simp
                                                        with_reducible rfl
                                                      rotate_left
                                                      · simp only [Act.put, List.setIfInBounds_toArray, List.set_cons_zero, List.set_cons_succ, i64_w, i32_w]
                                                        rfl
                                                      refine pure_ (i := 7) (N := some 78) (v := ?_) (a' := ?_) #[true, true, true, true, true, true, true, true, false] rfl rfl (any_of HT_.out (by kernel_rfl)) (fun _ _ _ h => h) (Or.inl ⟨by rfl, ?_⟩) ?_ ?_
                                                      rotate_left
                                                      · intro w'
                                                        go_simp
                                                        with_reducible rfl
                                                      rotate_left
                                                      · simp only [Act.put, List.setIfInBounds_toArray, List.set_cons_zero, List.set_cons_succ, i64_w, i32_w]
                                                        rfl
                                                      refine pure_ (i := 8) (N := some 12) (v := ?_) (a' := ?_) #[true, true, true, true, true, true, true, true, true] rfl rfl (any_of HT_.out (by kernel_rfl)) (fun _ _ _ h => h) (Or.inl ⟨by rfl, ?_⟩) ?_ ?_
                                                      rotate_left
                                                      · intro w'
                                                        go_simp
                                                        with_reducible rfl
                                                      rotate_left
                                                      · simp only [Act.put, List.setIfInBounds_toArray, List.set_cons_zero, List.set_cons_succ, i64_w, i32_w]
                                                        rfl
                                                      refine done_ (done_of HT_.out (by kernel_rfl)) ?_
                                                      have p311 : 0 ≤ (x8_1 : Int) := of_decide_eq_true (by first | (with_reducible assumption) | assumption)
                                                      have q311 : x8_1 < (x7_2.length : Int) := of_decide_eq_true (by first | (with_reducible assumption) | assumption)
                                                      obtain ⟨ad311, e311, hx311_0⟩ := Kd.at_int (Kd.R_reads' HO_7.out).2.2 x8_1 p311 q311
                                                      obtain rfl : (⟨go16, 0, none⟩ : Addr) = ad311 := (by injection e311)
                                                      (first | simp only [add_plain] at hx311_0 | simp only [add_at] at hx311_0 | simp only [Addr.add, Nat.zero_add] at hx311_0 | skip)
                                                      replace p311 := eq_true p311
                                                      replace q311 := eq_true q311
                                                      have p69 : 0 ≤ (x8_1 : Int) := of_decide_eq_true (by first | (with_reducible assumption) | assumption)
                                                      have q69 : (x8_1 : Int) < ((x7_2.length : Int) : Int) := of_decide_eq_true (by first | (with_reducible assumption) | assumption)
                                                      obtain ⟨hx69_0, hf69_0⟩ := Kd.R_celln 0 HO_7.out (x8_1 : Int) p69 q69
                                                      replace p69 := eq_true p69
                                                      replace q69 := eq_true q69
                                                      obtain ⟨hy71_, hz71_⟩ := Kd.R_celln 0 HO_7.out (x8_1 : Int) (of_decide_eq_true (by first | (with_reducible assumption) | assumption)) (of_decide_eq_true (by first | (with_reducible assumption) | assumption))
                                                      have HP71 := Kd.R_putg HO_7.out (x8_1 : Int) (wrap64 ((rd x7_2 ((rd_T84 l1 x30_2).f0)) + ((rd_T84 l1 x30_2).f3)))
                                                      try go_wp2_with (first | ((with_reducible refine gate_store (t := 2) (p := 95) rfl ?_); refine store_event (t := 2) (p := 95) (v := ?vo_w72) (w1 := (w70.setCell ⟨go16, (x8_1 : Int).toNat, none⟩ (.int .i64 (wrap64 ((rd x7_2 ((rd_T84 l1 x30_2).f0)) + ((rd_T84 l1 x30_2).f3)))))) ?hg ?ho ?hn ?hr ?_; (case ho => rfl); (case hg => rfl); (case hn => rfl); (case hr => first | (go_simp; done) | (go_simp; rfl)); intro w72 hw; have hg : w70.grownBy w72 (some go16) := (by rw [hw]; exact HP71.2); have hp_ : Kd.R (Kd.int .i64) 2 w72 w.heap.size (fun k_ => some k_ ≠ (.slice (some ⟨go14, 0, none⟩) x6_2.length co14 : Value).ownBlock) (.slice (some ⟨go16, 0, none⟩) x7_2.length co16) y312 := (by rw [hw, Ny312.out]; exact HP71.1); clear HP71; have n0_ := Aside0.mk (Kd.R_after (v := (.slice (some ⟨go16, 0, none⟩) x7_2.length co16)) (v1 := (.slice (some ⟨go16, 0, none⟩) x7_2.length co16)) (ok := (fun _ => True)) (by (with_reducible repeat (first | apply Kd.R_alloc | apply Kd.R_drewN | apply Kd.R_drew)); exact Kd.R_mono HO_6.out (fun _ hk => ⟨trivial, hk⟩)) hg (.inl rfl)); have n1_ := Aside0.mk (hp_); have n2_ := Aside0.mk (blk_grown (g := gb299) (o := .cells #[.int .i64 ((rd_T84 l1 x30_2).f0), .int .i64 ((rd_T84 l1 x30_2).f1), .int .i64 ((rd_T84 l1 x30_2).f2), .int .i64 ((rd_T84 l1 x30_2).f3)] 84 (0, 0)) (by (with_reducible repeat (first | refine blk_drewN ?_ _ | refine blk_drew ?_ | refine blk_alloc ?_ _)); exact BK299.out) hg (Kd.R_ne HO_7.out BK299.out (by decide))); have n3_ := Aside0.mk ((by rw [hw]; exact below_set (HB.out) GB16.out : Below w.heap.size w w72)); clear HO_6; clear HO_7; clear BK299; clear HB; have HO_6 := n0_; have HO_7 := n1_; have BK299 := n2_; have HB := n3_; clear n0_ n1_ n2_ n3_; clear hg hw hp_))
                                                      (try simp only [← hl6_2, ← hl7_2])
                                                      go_roundg kj34
                                                      case measure => have := HK1.out; have := HK2.out; have := HJ23.out; have := HJ34.out; omega
                                                      case rel => exact ⟨(x6_2), (y312), (wrap64 (x30_2 + 1)), (by first | rfl | (simp; done) | (simp [*]; done)), H', ⟨by have := HK1.out; have := HK2.out; have := HJ23.out; have := HJ34.out; omega⟩, ⟨by (try simp only [hl6_2]); (try simp only [hl7_2]); (with_reducible repeat (first | apply Kd.R_alloc | apply Kd.R_drewN | apply Kd.R_drew)); exact Kd.R_mono HO_6.out (fun _ hk => hk.2)⟩, ⟨by (try simp only [hl6_2]); (try simp only [hl7_2]); (with_reducible repeat (first | apply Kd.R_alloc | apply Kd.R_drewN | apply Kd.R_drew)); exact HO_7.out⟩, ⟨by repeat (first | (with_reducible first | exact HB.out | apply below_alloc | apply pw_below_drewN | apply below_drew1 | refine below_set ?_ GE299.out) | exact HB.out)⟩⟩
                                                    · rw [if_neg c68] at H
                                                      have c68b0 : decide ((rd x7_2 x8_1) < 0) = false := decide_eq_false c68
                                                      clear c68
                                                      by_cases c73 : (wrap64 ((rd x7_2 ((rd_T84 l1 x30_2).f0)) + ((rd_T84 l1 x30_2).f3))) < (rd x7_2 x8_1)
                                                      · rw [if_pos c73] at H
                                                        have c73b0 : decide ((wrap64 ((rd x7_2 ((rd_T84 l1 x30_2).f0)) + ((rd_T84 l1 x30_2).f3))) < (rd x7_2 x8_1)) = true := decide_eq_true c73
                                                        clear c73
                                                        obtain ⟨y314, hy314⟩ : ∃ y_ : List Int, y_ = (x7_2.set (x8_1 : Int).toNat (wrap64 ((rd x7_2 ((rd_T84 l1 x30_2).f0)) + ((rd_T84 l1 x30_2).f3)))) := ⟨_, rfl⟩
                                                        replace H : (impl_litTimes.l1 kj34 a0 l1 x6_2 y314 x8_1 l1 (l1.length : Int) (wrap64 (x30_2 + 1))) = some (r1, r2) := by first | (rw [hy314]; with_reducible exact H) | (have H2_ := (Option.bind_some _ _).symm.trans H; rw [hy314]; with_reducible exact H2_) | (have H2_ := (Option.bind_some _ _).symm.trans H; with_reducible exact H2_) | with_reducible exact H | (rw [hy314]; exact H) | exact H
                                                        have Ny314 := Aside0.mk hy314
                                                        clear hy314
                                                        have H' := Aside0.mk H
                                                        clear H
                                                        try go_wp2
                                                        have n0_ := Aside0.mk (Kd.R_drew HO_6.out)
                                                        have n1_ := Aside0.mk (Kd.R_drew HO_7.out)
                                                        have n2_ := Aside0.mk (blk_drew BK299.out)
                                                        have n3_ := Aside0.mk (below_drew1 HB.out)
                                                        clear HO_6
                                                        clear HO_7
                                                        clear BK299
                                                        clear HB
                                                        have HO_6 := n0_
                                                        have HO_7 := n1_
                                                        have BK299 := n2_
                                                        have HB := n3_
                                                        clear n0_ n1_ n2_ n3_
                                                        have p310 : 0 ≤ (((rd_T84 l1 x30_2).f0) : Int) := of_decide_eq_true (by first | (with_reducible assumption) | assumption)
                                                        have q310 : ((rd_T84 l1 x30_2).f0) < (x7_2.length : Int) := of_decide_eq_true (by first | (with_reducible assumption) | assumption)
                                                        obtain ⟨ad310, e310, hx310_0⟩ := Kd.at_int (Kd.R_reads' HO_7.out).2.2 ((rd_T84 l1 x30_2).f0) p310 q310
                                                        obtain rfl : (⟨go16, 0, none⟩ : Addr) = ad310 := (by injection e310)
                                                        (first | simp only [add_plain] at hx310_0 | simp only [add_at] at hx310_0 | simp only [Addr.add, Nat.zero_add] at hx310_0 | skip)
                                                        replace p310 := eq_true p310
                                                        replace q310 := eq_true q310
                                                        refine start_ (n := 9) (S := fun w' => w'.cell? ⟨gb299, 0, none⟩ = some (.int .i64 ((rd_T84 l1 x30_2).f0)) ∧ w'.cell? ⟨gb299, 1, none⟩ = some (.int .i64 ((rd_T84 l1 x30_2).f1)) ∧ w'.cell? ⟨gb299, 2, none⟩ = some (.int .i64 ((rd_T84 l1 x30_2).f2)) ∧ w'.cell? ⟨gb299, 3, none⟩ = some (.int .i64 ((rd_T84 l1 x30_2).f3)) ∧ w'.cell? ⟨go16, (((rd_T84 l1 x30_2).f0)).toNat, none⟩ = some (.int .i64 (rd x7_2 ((rd_T84 l1 x30_2).f0)))) (ds := []) #[false, false, false, false, false, false, false, false, false] (by kernel_rfl) rfl rfl ⟨(blk_cell BK299.out 0).trans rfl, (blk_cell BK299.out 1).trans rfl, (blk_cell BK299.out 2).trans rfl, (blk_cell BK299.out 3).trans rfl, hx310_0⟩ (fun hHeld => ?_); refine with_tabW impl_litTimes.tab13 impl_litTimes.bits13 (fun HT_ HW_ => ?_)
                                                        generalize wc.drew = w75 at HO_6 HO_7 BK299 HB hx310_0 hHeld ⊢
                                                        refine pure_ (i := 0) (N := some 71) (v := ?_) (a' := ?_) #[true, false, false, false, false, false, false, false, false] rfl rfl (any_of HT_.out (by kernel_rfl)) (fun _ _ _ h => h) (Or.inl ⟨by rfl, ?_⟩) ?_ ?_
                                                        rotate_left
                                                        · intro w'
                                                          go_simp
                                                          with_reducible rfl
                                                        rotate_left
                                                        · simp only [Act.put, List.setIfInBounds_toArray, List.set_cons_zero, List.set_cons_succ, i64_w, i32_w]
                                                          rfl
                                                        refine pure_ (i := 1) (N := some 72) (v := ?_) (a' := ?_) #[true, true, false, false, false, false, false, false, false] rfl rfl (any_of HT_.out (by kernel_rfl)) (fun _ _ _ h => h) (Or.inl ⟨by rfl, ?_⟩) ?_ ?_
                                                        rotate_left
                                                        · intro w'
                                                          go_simp
                                                          with_reducible rfl
                                                        rotate_left
                                                        · simp only [Act.put, List.setIfInBounds_toArray, List.set_cons_zero, List.set_cons_succ, i64_w, i32_w]
                                                          rfl
                                                        refine pure_ (i := 5) (N := some 76) (v := ?_) (a' := ?_) #[true, true, false, false, false, true, false, false, false] rfl rfl (any_of HT_.out (by kernel_rfl)) (fun _ _ _ h => h) (Or.inl ⟨by rfl, ?_⟩) ?_ ?_
                                                        rotate_left
                                                        · intro w'
                                                          go_simp
                                                          with_reducible rfl
                                                        rotate_left
                                                        · simp only [Act.put, List.setIfInBounds_toArray, List.set_cons_zero, List.set_cons_succ, i64_w, i32_w]
                                                          rfl
                                                        refine take_ (i := 2) (N := some 73) (v := ?_) (a' := ?_) #[true, true, true, false, false, true, false, false, false] rfl rfl (take_ofW HT_.out HW_.out (by kernel_rfl)) (fun _ _ _ h => h) (Or.inl ⟨by rfl, ?_⟩) hHeld ?_ ?_
                                                        rotate_left
                                                        · rintro w' ⟨s0, s1, s2, s3, s4⟩
                                                          go_simp
                                                          with_reducible rfl
                                                        rotate_left
                                                        · simp only [Act.put, List.setIfInBounds_toArray, List.set_cons_zero, List.set_cons_succ, i64_w, i32_w]
                                                          rfl
                                                        refine pure_ (i := 3) (N := some 74) (v := ?_) (a' := ?_) #[true, true, true, true, false, true, false, false, false] rfl rfl (any_of HT_.out (by kernel_rfl)) (fun _ _ _ h => h) (Or.inl ⟨by rfl, ?_⟩) ?_ ?_
                                                        rotate_left
                                                        · intro w'
                                                          go_simp
                                                          with_reducible rfl
                                                        rotate_left
                                                        · simp only [Act.put, List.setIfInBounds_toArray, List.set_cons_zero, List.set_cons_succ, i64_w, i32_w]
                                                          rfl
                                                        refine take_ (i := 4) (N := some 75) (v := ?_) (a' := ?_) #[true, true, true, true, true, true, false, false, false] rfl rfl (take_ofW HT_.out HW_.out (by kernel_rfl)) (fun _ _ _ h => h) (Or.inl ⟨by rfl, ?_⟩) hHeld ?_ ?_
                                                        rotate_left
                                                        · rintro w' ⟨s0, s1, s2, s3, s4⟩
                                                          go_simp
                                                          with_reducible rfl
                                                        rotate_left
                                                        · simp only [Act.put, List.setIfInBounds_toArray, List.set_cons_zero, List.set_cons_succ, i64_w, i32_w]
                                                          rfl
                                                        refine take_ (i := 6) (N := some 77) (v := ?_) (a' := ?_) #[true, true, true, true, true, true, true, false, false] rfl rfl (take_ofW HT_.out HW_.out (by kernel_rfl)) (fun _ _ _ h => h) (Or.inl ⟨by rfl, ?_⟩) hHeld ?_ ?_
                                                        rotate_left
                                                        · rintro w' ⟨s0, s1, s2, s3, s4⟩
                                                          go_simp
                                                          with_reducible rfl
                                                        rotate_left
                                                        · simp only [Act.put, List.setIfInBounds_toArray, List.set_cons_zero, List.set_cons_succ, i64_w, i32_w]
                                                          rfl
                                                        refine pure_ (i := 7) (N := some 78) (v := ?_) (a' := ?_) #[true, true, true, true, true, true, true, true, false] rfl rfl (any_of HT_.out (by kernel_rfl)) (fun _ _ _ h => h) (Or.inl ⟨by rfl, ?_⟩) ?_ ?_
                                                        rotate_left
                                                        · intro w'
                                                          go_simp
                                                          with_reducible rfl
                                                        rotate_left
                                                        · simp only [Act.put, List.setIfInBounds_toArray, List.set_cons_zero, List.set_cons_succ, i64_w, i32_w]
                                                          rfl
                                                        refine pure_ (i := 8) (N := some 12) (v := ?_) (a' := ?_) #[true, true, true, true, true, true, true, true, true] rfl rfl (any_of HT_.out (by kernel_rfl)) (fun _ _ _ h => h) (Or.inl ⟨by rfl, ?_⟩) ?_ ?_
                                                        rotate_left
                                                        · intro w'
                                                          go_simp
                                                          with_reducible rfl
                                                        rotate_left
                                                        · simp only [Act.put, List.setIfInBounds_toArray, List.set_cons_zero, List.set_cons_succ, i64_w, i32_w]
                                                          rfl
                                                        refine done_ (done_of HT_.out (by kernel_rfl)) ?_
                                                        have p311 : 0 ≤ (x8_1 : Int) := of_decide_eq_true (by first | (with_reducible assumption) | assumption)
                                                        have q311 : x8_1 < (x7_2.length : Int) := of_decide_eq_true (by first | (with_reducible assumption) | assumption)
                                                        obtain ⟨ad311, e311, hx311_0⟩ := Kd.at_int (Kd.R_reads' HO_7.out).2.2 x8_1 p311 q311
                                                        obtain rfl : (⟨go16, 0, none⟩ : Addr) = ad311 := (by injection e311)
                                                        (first | simp only [add_plain] at hx311_0 | simp only [add_at] at hx311_0 | simp only [Addr.add, Nat.zero_add] at hx311_0 | skip)
                                                        replace p311 := eq_true p311
                                                        replace q311 := eq_true q311
                                                        have p313 : 0 ≤ (x8_1 : Int) := of_decide_eq_true (by first | (with_reducible assumption) | assumption)
                                                        have q313 : x8_1 < (x7_2.length : Int) := of_decide_eq_true (by first | (with_reducible assumption) | assumption)
                                                        obtain ⟨ad313, e313, hx313_0⟩ := Kd.at_int (Kd.R_reads' HO_7.out).2.2 x8_1 p313 q313
                                                        obtain rfl : (⟨go16, 0, none⟩ : Addr) = ad313 := (by injection e313)
                                                        (first | simp only [add_plain] at hx313_0 | simp only [add_at] at hx313_0 | simp only [Addr.add, Nat.zero_add] at hx313_0 | skip)
                                                        replace p313 := eq_true p313
                                                        replace q313 := eq_true q313
                                                        have p74 : 0 ≤ (x8_1 : Int) := of_decide_eq_true (by first | (with_reducible assumption) | assumption)
                                                        have q74 : (x8_1 : Int) < ((x7_2.length : Int) : Int) := of_decide_eq_true (by first | (with_reducible assumption) | assumption)
                                                        obtain ⟨hx74_0, hf74_0⟩ := Kd.R_celln 0 HO_7.out (x8_1 : Int) p74 q74
                                                        replace p74 := eq_true p74
                                                        replace q74 := eq_true q74
                                                        obtain ⟨hy76_, hz76_⟩ := Kd.R_celln 0 HO_7.out (x8_1 : Int) (of_decide_eq_true (by first | (with_reducible assumption) | assumption)) (of_decide_eq_true (by first | (with_reducible assumption) | assumption))
                                                        have HP76 := Kd.R_putg HO_7.out (x8_1 : Int) (wrap64 ((rd x7_2 ((rd_T84 l1 x30_2).f0)) + ((rd_T84 l1 x30_2).f3)))
                                                        try go_wp2_with (first | ((with_reducible refine gate_store (t := 2) (p := 95) rfl ?_); refine store_event (t := 2) (p := 95) (v := ?vo_w77) (w1 := (w75.setCell ⟨go16, (x8_1 : Int).toNat, none⟩ (.int .i64 (wrap64 ((rd x7_2 ((rd_T84 l1 x30_2).f0)) + ((rd_T84 l1 x30_2).f3)))))) ?hg ?ho ?hn ?hr ?_; (case ho => rfl); (case hg => rfl); (case hn => rfl); (case hr => first | (go_simp; done) | (go_simp; rfl)); intro w77 hw; have hg : w75.grownBy w77 (some go16) := (by rw [hw]; exact HP76.2); have hp_ : Kd.R (Kd.int .i64) 2 w77 w.heap.size (fun k_ => some k_ ≠ (.slice (some ⟨go14, 0, none⟩) x6_2.length co14 : Value).ownBlock) (.slice (some ⟨go16, 0, none⟩) x7_2.length co16) y314 := (by rw [hw, Ny314.out]; exact HP76.1); clear HP76; have n0_ := Aside0.mk (Kd.R_after (v := (.slice (some ⟨go16, 0, none⟩) x7_2.length co16)) (v1 := (.slice (some ⟨go16, 0, none⟩) x7_2.length co16)) (ok := (fun _ => True)) (by (with_reducible repeat (first | apply Kd.R_alloc | apply Kd.R_drewN | apply Kd.R_drew)); exact Kd.R_mono HO_6.out (fun _ hk => ⟨trivial, hk⟩)) hg (.inl rfl)); have n1_ := Aside0.mk (hp_); have n2_ := Aside0.mk (blk_grown (g := gb299) (o := .cells #[.int .i64 ((rd_T84 l1 x30_2).f0), .int .i64 ((rd_T84 l1 x30_2).f1), .int .i64 ((rd_T84 l1 x30_2).f2), .int .i64 ((rd_T84 l1 x30_2).f3)] 84 (0, 0)) (by (with_reducible repeat (first | refine blk_drewN ?_ _ | refine blk_drew ?_ | refine blk_alloc ?_ _)); exact BK299.out) hg (Kd.R_ne HO_7.out BK299.out (by decide))); have n3_ := Aside0.mk ((by rw [hw]; exact below_set (HB.out) GB16.out : Below w.heap.size w w77)); clear HO_6; clear HO_7; clear BK299; clear HB; have HO_6 := n0_; have HO_7 := n1_; have BK299 := n2_; have HB := n3_; clear n0_ n1_ n2_ n3_; clear hg hw hp_))
                                                        (try simp only [← hl6_2, ← hl7_2])
                                                        go_roundg kj34
                                                        case measure => have := HK1.out; have := HK2.out; have := HJ23.out; have := HJ34.out; omega
                                                        case rel => exact ⟨(x6_2), (y314), (wrap64 (x30_2 + 1)), (by first | rfl | (simp; done) | (simp [*]; done)), H', ⟨by have := HK1.out; have := HK2.out; have := HJ23.out; have := HJ34.out; omega⟩, ⟨by (try simp only [hl6_2]); (try simp only [hl7_2]); (with_reducible repeat (first | apply Kd.R_alloc | apply Kd.R_drewN | apply Kd.R_drew)); exact Kd.R_mono HO_6.out (fun _ hk => hk.2)⟩, ⟨by (try simp only [hl6_2]); (try simp only [hl7_2]); (with_reducible repeat (first | apply Kd.R_alloc | apply Kd.R_drewN | apply Kd.R_drew)); exact HO_7.out⟩, ⟨by repeat (first | (with_reducible first | exact HB.out | apply below_alloc | apply pw_below_drewN | apply below_drew1 | refine below_set ?_ GE299.out) | exact HB.out)⟩⟩
                                                      · rw [if_neg c73] at H
                                                        have c73b0 : decide ((wrap64 ((rd x7_2 ((rd_T84 l1 x30_2).f0)) + ((rd_T84 l1 x30_2).f3))) < (rd x7_2 x8_1)) = false := decide_eq_false c73
                                                        clear c73
                                                        have H' := Aside0.mk H
                                                        clear H
                                                        try go_wp2
                                                        have n0_ := Aside0.mk (Kd.R_drew HO_6.out)
                                                        have n1_ := Aside0.mk (Kd.R_drew HO_7.out)
                                                        have n2_ := Aside0.mk (blk_drew BK299.out)
                                                        have n3_ := Aside0.mk (below_drew1 HB.out)
                                                        clear HO_6
                                                        clear HO_7
                                                        clear BK299
                                                        clear HB
                                                        have HO_6 := n0_
                                                        have HO_7 := n1_
                                                        have BK299 := n2_
                                                        have HB := n3_
                                                        clear n0_ n1_ n2_ n3_
                                                        have p310 : 0 ≤ (((rd_T84 l1 x30_2).f0) : Int) := of_decide_eq_true (by first | (with_reducible assumption) | assumption)
                                                        have q310 : ((rd_T84 l1 x30_2).f0) < (x7_2.length : Int) := of_decide_eq_true (by first | (with_reducible assumption) | assumption)
                                                        obtain ⟨ad310, e310, hx310_0⟩ := Kd.at_int (Kd.R_reads' HO_7.out).2.2 ((rd_T84 l1 x30_2).f0) p310 q310
                                                        obtain rfl : (⟨go16, 0, none⟩ : Addr) = ad310 := (by injection e310)
                                                        (first | simp only [add_plain] at hx310_0 | simp only [add_at] at hx310_0 | simp only [Addr.add, Nat.zero_add] at hx310_0 | skip)
                                                        replace p310 := eq_true p310
                                                        replace q310 := eq_true q310
                                                        refine start_ (n := 9) (S := fun w' => w'.cell? ⟨gb299, 0, none⟩ = some (.int .i64 ((rd_T84 l1 x30_2).f0)) ∧ w'.cell? ⟨gb299, 1, none⟩ = some (.int .i64 ((rd_T84 l1 x30_2).f1)) ∧ w'.cell? ⟨gb299, 2, none⟩ = some (.int .i64 ((rd_T84 l1 x30_2).f2)) ∧ w'.cell? ⟨gb299, 3, none⟩ = some (.int .i64 ((rd_T84 l1 x30_2).f3)) ∧ w'.cell? ⟨go16, (((rd_T84 l1 x30_2).f0)).toNat, none⟩ = some (.int .i64 (rd x7_2 ((rd_T84 l1 x30_2).f0)))) (ds := []) #[false, false, false, false, false, false, false, false, false] (by kernel_rfl) rfl rfl ⟨(blk_cell BK299.out 0).trans rfl, (blk_cell BK299.out 1).trans rfl, (blk_cell BK299.out 2).trans rfl, (blk_cell BK299.out 3).trans rfl, hx310_0⟩ (fun hHeld => ?_); refine with_tabW impl_litTimes.tab13 impl_litTimes.bits13 (fun HT_ HW_ => ?_)
                                                        generalize wc.drew = w78 at HO_6 HO_7 BK299 HB hx310_0 hHeld ⊢
                                                        refine pure_ (i := 0) (N := some 71) (v := ?_) (a' := ?_) #[true, false, false, false, false, false, false, false, false] rfl rfl (any_of HT_.out (by kernel_rfl)) (fun _ _ _ h => h) (Or.inl ⟨by rfl, ?_⟩) ?_ ?_
                                                        rotate_left
                                                        · intro w'
                                                          go_simp
                                                          with_reducible rfl
                                                        rotate_left
                                                        · simp only [Act.put, List.setIfInBounds_toArray, List.set_cons_zero, List.set_cons_succ, i64_w, i32_w]
                                                          rfl
                                                        refine pure_ (i := 1) (N := some 72) (v := ?_) (a' := ?_) #[true, true, false, false, false, false, false, false, false] rfl rfl (any_of HT_.out (by kernel_rfl)) (fun _ _ _ h => h) (Or.inl ⟨by rfl, ?_⟩) ?_ ?_
                                                        rotate_left
                                                        · intro w'
                                                          go_simp
                                                          with_reducible rfl
                                                        rotate_left
                                                        · simp only [Act.put, List.setIfInBounds_toArray, List.set_cons_zero, List.set_cons_succ, i64_w, i32_w]
                                                          rfl
                                                        refine pure_ (i := 5) (N := some 76) (v := ?_) (a' := ?_) #[true, true, false, false, false, true, false, false, false] rfl rfl (any_of HT_.out (by kernel_rfl)) (fun _ _ _ h => h) (Or.inl ⟨by rfl, ?_⟩) ?_ ?_
                                                        rotate_left
                                                        · intro w'
                                                          go_simp
                                                          with_reducible rfl
                                                        rotate_left
                                                        · simp only [Act.put, List.setIfInBounds_toArray, List.set_cons_zero, List.set_cons_succ, i64_w, i32_w]
                                                          rfl
                                                        refine take_ (i := 2) (N := some 73) (v := ?_) (a' := ?_) #[true, true, true, false, false, true, false, false, false] rfl rfl (take_ofW HT_.out HW_.out (by kernel_rfl)) (fun _ _ _ h => h) (Or.inl ⟨by rfl, ?_⟩) hHeld ?_ ?_
                                                        rotate_left
                                                        · rintro w' ⟨s0, s1, s2, s3, s4⟩
                                                          go_simp
                                                          with_reducible rfl
                                                        rotate_left
                                                        · simp only [Act.put, List.setIfInBounds_toArray, List.set_cons_zero, List.set_cons_succ, i64_w, i32_w]
                                                          rfl
                                                        refine pure_ (i := 3) (N := some 74) (v := ?_) (a' := ?_) #[true, true, true, true, false, true, false, false, false] rfl rfl (any_of HT_.out (by kernel_rfl)) (fun _ _ _ h => h) (Or.inl ⟨by rfl, ?_⟩) ?_ ?_
                                                        rotate_left
                                                        · intro w'
                                                          go_simp
                                                          with_reducible rfl
                                                        rotate_left
                                                        · simp only [Act.put, List.setIfInBounds_toArray, List.set_cons_zero, List.set_cons_succ, i64_w, i32_w]
                                                          rfl
                                                        refine take_ (i := 4) (N := some 75) (v := ?_) (a' := ?_) #[true, true, true, true, true, true, false, false, false] rfl rfl (take_ofW HT_.out HW_.out (by kernel_rfl)) (fun _ _ _ h => h) (Or.inl ⟨by rfl, ?_⟩) hHeld ?_ ?_
                                                        rotate_left
                                                        · rintro w' ⟨s0, s1, s2, s3, s4⟩
                                                          go_simp
                                                          with_reducible rfl
                                                        rotate_left
                                                        · simp only [Act.put, List.setIfInBounds_toArray, List.set_cons_zero, List.set_cons_succ, i64_w, i32_w]
                                                          rfl
                                                        refine take_ (i := 6) (N := some 77) (v := ?_) (a' := ?_) #[true, true, true, true, true, true, true, false, false] rfl rfl (take_ofW HT_.out HW_.out (by kernel_rfl)) (fun _ _ _ h => h) (Or.inl ⟨by rfl, ?_⟩) hHeld ?_ ?_
                                                        rotate_left
                                                        · rintro w' ⟨s0, s1, s2, s3, s4⟩
                                                          go_simp
                                                          with_reducible rfl
                                                        rotate_left
                                                        · simp only [Act.put, List.setIfInBounds_toArray, List.set_cons_zero, List.set_cons_succ, i64_w, i32_w]
                                                          rfl
                                                        refine pure_ (i := 7) (N := some 78) (v := ?_) (a' := ?_) #[true, true, true, true, true, true, true, true, false] rfl rfl (any_of HT_.out (by kernel_rfl)) (fun _ _ _ h => h) (Or.inl ⟨by rfl, ?_⟩) ?_ ?_
                                                        rotate_left
                                                        · intro w'
                                                          go_simp
                                                          with_reducible rfl
                                                        rotate_left
                                                        · simp only [Act.put, List.setIfInBounds_toArray, List.set_cons_zero, List.set_cons_succ, i64_w, i32_w]
                                                          rfl
                                                        refine pure_ (i := 8) (N := some 12) (v := ?_) (a' := ?_) #[true, true, true, true, true, true, true, true, true] rfl rfl (any_of HT_.out (by kernel_rfl)) (fun _ _ _ h => h) (Or.inl ⟨by rfl, ?_⟩) ?_ ?_
                                                        rotate_left
                                                        · intro w'
                                                          go_simp
                                                          with_reducible rfl
                                                        rotate_left
                                                        · simp only [Act.put, List.setIfInBounds_toArray, List.set_cons_zero, List.set_cons_succ, i64_w, i32_w]
                                                          rfl
                                                        refine done_ (done_of HT_.out (by kernel_rfl)) ?_
                                                        have p311 : 0 ≤ (x8_1 : Int) := of_decide_eq_true (by first | (with_reducible assumption) | assumption)
                                                        have q311 : x8_1 < (x7_2.length : Int) := of_decide_eq_true (by first | (with_reducible assumption) | assumption)
                                                        obtain ⟨ad311, e311, hx311_0⟩ := Kd.at_int (Kd.R_reads' HO_7.out).2.2 x8_1 p311 q311
                                                        obtain rfl : (⟨go16, 0, none⟩ : Addr) = ad311 := (by injection e311)
                                                        (first | simp only [add_plain] at hx311_0 | simp only [add_at] at hx311_0 | simp only [Addr.add, Nat.zero_add] at hx311_0 | skip)
                                                        replace p311 := eq_true p311
                                                        replace q311 := eq_true q311
                                                        have p313 : 0 ≤ (x8_1 : Int) := of_decide_eq_true (by first | (with_reducible assumption) | assumption)
                                                        have q313 : x8_1 < (x7_2.length : Int) := of_decide_eq_true (by first | (with_reducible assumption) | assumption)
                                                        obtain ⟨ad313, e313, hx313_0⟩ := Kd.at_int (Kd.R_reads' HO_7.out).2.2 x8_1 p313 q313
                                                        obtain rfl : (⟨go16, 0, none⟩ : Addr) = ad313 := (by injection e313)
                                                        (first | simp only [add_plain] at hx313_0 | simp only [add_at] at hx313_0 | simp only [Addr.add, Nat.zero_add] at hx313_0 | skip)
                                                        replace p313 := eq_true p313
                                                        replace q313 := eq_true q313
                                                        try go_wp2
                                                        (try simp only [← hl6_2, ← hl7_2])
                                                        go_roundg kj34
                                                        case measure => have := HK1.out; have := HK2.out; have := HJ23.out; have := HJ34.out; omega
                                                        case rel => exact ⟨(x6_2), (x7_2), (wrap64 (x30_2 + 1)), (by first | rfl | (simp; done) | (simp [*]; done)), H', ⟨by have := HK1.out; have := HK2.out; have := HJ23.out; have := HJ34.out; omega⟩, ⟨by (try simp only [hl6_2]); (try simp only [hl7_2]); (with_reducible repeat (first | apply Kd.R_alloc | apply Kd.R_drewN | apply Kd.R_drew)); exact HO_6.out⟩, ⟨by (try simp only [hl6_2]); (try simp only [hl7_2]); (with_reducible repeat (first | apply Kd.R_alloc | apply Kd.R_drewN | apply Kd.R_drew)); exact HO_7.out⟩, ⟨by repeat (first | (with_reducible first | exact HB.out | apply below_alloc | apply pw_below_drewN | apply below_drew1 | refine below_set ?_ GE299.out) | exact HB.out)⟩⟩
                                                  · rw [if_neg c67] at H
                                                    exact absurd H (by simp)
                                                · rw [if_neg c66] at H
                                                  exact absurd H (by simp)
                                              · rw [if_neg c65] at H
                                                exact absurd H (by simp)
                                            · rw [if_neg c64] at H
                                              exact absurd H (by simp)
                                    · rw [if_neg c34] at H
                                      exact absurd H (by simp)
                                  · rw [if_neg c33] at H
                                    exact absurd H (by simp)
                          · rw [if_neg c23] at H
                            exact absurd H (by simp)
                        · rw [if_neg c22] at H
                          exact absurd H (by simp)
                      · rw [if_neg c21] at H
                        have c21b0 : decide (x30_2 < (l1.length : Int)) = false := decide_eq_false c21
                        clear c21
                        have H' := Aside0.mk H
                        clear H
                        go_wp2
                        (try simp only [← hl6_2, ← hl7_2])
                        go_roundg k2
                        case measure => have := HK1.out; have := HK2.out; omega
                        case rel => exact ⟨(x6_2), (x7_2), (wrap64 (x8_1 + 1)), (by first | rfl | (simp; done) | (simp [*]; done)), H', ⟨by have := HK1.out; have := HK2.out; omega⟩, ⟨by (try simp only [hl6_2]); (try simp only [hl7_2]); (with_reducible repeat (first | apply Kd.R_alloc | apply Kd.R_drewN | apply Kd.R_drew)); exact HO_6.out⟩, ⟨by (try simp only [hl6_2]); (try simp only [hl7_2]); (with_reducible repeat (first | apply Kd.R_alloc | apply Kd.R_drewN | apply Kd.R_drew)); exact HO_7.out⟩, ⟨by repeat (first | (with_reducible first | exact HB.out | apply below_alloc | apply pw_below_drewN | apply below_drew1) | exact HB.out)⟩⟩
                · rw [if_neg c15] at H
                  exact absurd H (by simp)
              · rw [if_neg c13] at H
                exact absurd H (by simp)
            · rw [if_neg c12] at H
              exact absurd H (by simp)
          · rw [if_neg c11] at H
            have c11b0 : decide (x8_1 < a0) = false := decide_eq_false c11
            clear c11
            simp only [Option.some.injEq, Prod.mk.injEq] at H
            obtain ⟨rfl, rfl⟩ := H
            go_wp2
            go_ret2
            exact ⟨_, _, by first | rfl | (simp [errW_none, errW_some] <;> rfl) | (simp [*, errW_none, errW_some] <;> rfl), by (with_reducible repeat (first | apply Kd.R_alloc | apply Kd.R_drewN | apply Kd.R_drew)); exact HO_6.out, by (with_reducible repeat (first | apply Kd.R_alloc | apply Kd.R_drewN | apply Kd.R_drew)); exact HO_7.out, by repeat (first | (with_reducible first | exact HB.out | apply below_alloc | apply pw_below_drewN | apply below_drew1) | exact HB.out)⟩
    · rw [if_neg c4] at H
      exact absurd H (by simp)
  · rw [if_neg c3] at H
    exact absurd H (by simp)

end Go.Proofs.Ytpkllgmeaoodfaa.F
