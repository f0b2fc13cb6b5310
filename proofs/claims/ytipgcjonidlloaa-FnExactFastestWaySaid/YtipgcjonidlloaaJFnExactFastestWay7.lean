import Derived.Test.YtipgcjonidlloaaJFnExactFastestWay6
import Derived.Below
import Derived.Deep.Draws
import Derived.Deep.AppendLies
import Derived.Maps.AppendAt
import Derived.OwnWalk
import Derived.Laws.BytesArg
import Derived.Laws.MakeOwn
import Derived.Laws.OwnMore
import Derived.Deep.OwnRows
import Derived.Tactics
import Derived.Lib.ConvBytes
import Derived.Laws.Slices
import Derived.WalkKit
import Derived.KernelRfl
import Derived.RowKit3
import Derived.Deep.LoopGhost
import Derived.Deep.QuietTactic
import Derived.BigQuiet
import Derived.WideLaws
import Derived.Deep.DeepCutAuto
import Derived.Deep.CutBlock
import Derived.Deep.RegionHeld3
import Derived.Laws.Rows
import Derived.Lib.AppendStr
import Derived.ArgAppend
import Derived.Laws.IdiomCopy
import Derived.RowKit
import Derived.OrdersHeld
import Derived.Laws.BitsLemmas
import Derived.Laws.StructEq
import Derived.Test.YtipgcjonidlloaaProg
import Derived.ChangeSlices
import Derived.OpenShut
import Derived.Test.YtipgcjonidlloaaRows
import Derived.ProofKit
import Derived.ShutString
import Derived.ChangeOld
import Derived.SizedLaws
namespace Go.Proofs.Ytipgcjonidlloaa.F
open Go.RowKit Go.Proofs.YtipgcjonidlloaaW.PrintWords Go.Proofs.YtipgcjonidlloaaW.PrintLast Go.Proofs.YtipgcjonidlloaaW.PrintMore
set_option linter.unusedVariables false
set_option linter.unusedSimpArgs false
structure Ok_FnExactFastestWay (k : Nat) (a0 : Int) (l1 : List S46) (a2 : Int) (L1 : List S44) (M1 : List S44) (t1 : Int) (q1 : List Int) (q2 : Int) (k1 : Int) (M1k : List (S44)) (m1 : Int) (q1k : List Int) : Prop where
 ne1 : L1 ≠ []
 tk1 : M1 = L1.take l1.length ∧ l1.length ≤ L1.length
 ln1 : M1.length = l1.length
 fu1 : full_toFuseS.f k l1 false = some L1
 rm1 : laws_roomBehind.f (M1.length : Int) = some t1
 jn1 : wrap64 ((M1.length : Int) + t1) = (L1.length : Int)
 eq1 : laws_eqFuseS.f k L1 L1 = some true
 sp : spec_FastestWay.f k a0 M1 a2 = some (q1, q2)
 im : impl_FastestWay.f k a0 M1 a2 = some (q1, q2)
 er : laws_eqInt64S.f k q1 q1 = some true
 mk1 : laws_markFuseS.f k M1 101 = some (k1, M1k)
 mk10 : 0 ≤ k1
 mg : laws_markInt64S.f k q1 101 = some (m1, q1k)
 mg0 : 0 ≤ m1
 hd : laws_heldInt64S.f k q1k 101 = some m1
 hl : q1k.length = q1.length
 to1 : laws_toFuseS.f k l1 true = some M1
def Law_FnExactFastestWay (k : Nat) (a0 : Int) (l1 : List S46) (a2 : Int) : Prop := ∃ s1 : Int, laws_szFuseS.f l1 1000000 = some s1 ∧ (s1 < 0 ∨ (0 ≤ s1 ∧ ∃ (L1 : List S44) (M1 : List S44) (t1 : Int) (q1 : List Int) (q2 : Int) (k1 : Int) (M1k : List (S44)) (m1 : Int) (q1k : List Int), Ok_FnExactFastestWay k a0 l1 a2 L1 M1 t1 q1 q2 k1 M1k m1 q1k))
def Pure_FnExactFastestWay : Prop := ∀ (a0 : Int) (l1 : List S46) (a2 : Int), I64 a0 → l1.length ≤ maxLen → (∀ x ∈ l1, Pr46 x) → I64 a2 → ∃ k, Law_FnExactFastestWay k a0 l1 a2
set_option maxHeartbeats 8000000 in
set_option maxRecDepth 100000 in
theorem law_FnExactFastestWay (k : Nat) (a0 : Int) (A1 : Option Addr) (c1 : Nat) (l1 : List S46) (a2 : Int) (w : World) (hr1 : Kd.C k46 w A1 l1.length l1) (hc1 : l1.length ≤ c1) (h : Law_FnExactFastestWay k a0 l1 a2) :
  Calls Try.prog 7 #[.int .i64 a0, .slice A1 l1.length c1, .int .i64 a2] w fun e w' => e = .returned (.bool true) ∧ Below w.heap.size w w' := by
 have HR1 := Aside0.mk hr1
 have HC1 := Aside0.mk hc1
 clear hr1 hc1
 have HB := Aside0.mk (Below.refl w.heap.size w)
 obtain ⟨s1, hs_, h⟩ := h
 have HS1 := Aside0.mk hs_
 clear hs_
 rcases h with h | ⟨h', h⟩
 ·have f_ : decide (s1 < 0) = true := decide_eq_true h
  clear h
  go_enter Try.func7, Try.ntmps7
  go_wp2_with (first | ((with_reducible refine gate_callee (f := 8) rfl ?_); (try (refine gate_guard (by rfl) ?_; dsimp only)); refine goesL_ (some 20) rfl rfl Try.func8 (by kernel_rfl) rfl #[.slice A1 l1.length c1, .int .i64 1000000] rfl (by (try simp only [List.map_toArray, List.map_cons, List.map_nil]); first | done | rfl | (simp only [List.length_drop, List.length_take]; rfl)) ?_; (with_reducible refine (laws_szFuseS.calls _ _ l1 1000000 s1 _ (Kd.C_below HR1.out (by repeat (first | (with_reducible first | exact HB.out | apply below_alloc | apply pw_below_drewN | apply below_drew1) | exact HB.out))) HC1.out HS1.out).mono ?_); rintro e w' ⟨rfl, ⟨nd, rfl⟩⟩; refine ⟨_, rfl, ?_⟩))
  go_ret
  exact ⟨rfl, (by repeat (first | (with_reducible first | exact HB.out | apply below_alloc | apply pw_below_drewN | apply below_drew1) | exact HB.out))⟩
 have fs1 : decide (s1 < 0) = false := decide_eq_false (by omega)
 clear h'
 obtain ⟨L1, M1, t1, q1, q2, k1, M1k, m1, q1k, h⟩ := h
 have HF := Aside0.mk h
 clear h
 have f1q2 : (q2 != q2) = false := by simp
 have f2q2 : (q2 == q2) = true := by simp
 have fnk1 : decide (k1 < 0) = false := decide_eq_false (by have := HF.out.mk10; omega)
 have fnm1 : decide (m1 < 0) = false := decide_eq_false (by have := HF.out.mg0; omega)
 have f1m1 : (m1 != m1) = false := by simp
 have f2m1 : (m1 == m1) = true := by simp
 go_enter Try.func7, Try.ntmps7
 go_wp2_with (first | ((with_reducible refine gate_callee (f := 8) rfl ?_); (try (refine gate_guard (by rfl) ?_; dsimp only)); refine goesL_ (some 20) rfl rfl Try.func8 (by kernel_rfl) rfl #[.slice A1 l1.length c1, .int .i64 1000000] rfl (by (try simp only [List.map_toArray, List.map_cons, List.map_nil]); first | done | rfl | (simp only [List.length_drop, List.length_take]; rfl)) ?_; (with_reducible refine (laws_szFuseS.calls _ _ l1 1000000 s1 _ (Kd.C_below HR1.out (by repeat (first | (with_reducible first | exact HB.out | apply below_alloc | apply pw_below_drewN | apply below_drew1) | exact HB.out))) HC1.out HS1.out).mono ?_); rintro e w' ⟨rfl, ⟨nd, rfl⟩⟩; refine ⟨_, rfl, ?_⟩) | ((with_reducible refine gate_callee (f := 10) rfl ?_); (try (refine gate_guard (by rfl) ?_; dsimp only)); refine goesL_ (some 26) rfl rfl Try.func10 (by kernel_rfl) rfl #[.slice A1 l1.length c1, .bool false] rfl (by (try simp only [List.map_toArray, List.map_cons, List.map_nil]); first | done | rfl | (simp only [List.length_drop, List.length_take]; rfl)) ?_; (with_reducible refine (full_toFuseS.calls k _ _ l1 false L1 _ (Kd.C_below HR1.out (by repeat (first | (with_reducible first | exact HB.out | apply below_alloc | apply pw_below_drewN | apply below_drew1) | exact HB.out))) HC1.out HF.out.fu1).mono ?_); rintro e w1 ⟨v0, rfl, ho, hb⟩; refine ⟨_, rfl, ?_⟩; obtain ⟨a_1, b_1, hv, hle, ho0⟩ := ho HF.out.ne1; rw [← HF.out.ln1] at hv; subst hv; clear ho hle; obtain ⟨lo1, hi1, hx_, ha_, hz_, _⟩ := Ob_mk (base := w.heap.size) ho0 hb (below_le (by repeat (first | (with_reducible first | exact HB.out | apply below_alloc | apply pw_below_drewN | apply below_drew1) | exact HB.out))) (below_le (by repeat (first | (with_reducible first | exact HB.out | apply below_alloc | apply pw_below_drewN | apply below_drew1) | exact HB.out))); have X1 := Aside0.mk hx_; have OX1 := Aside0.mk (And.intro ha_ hz_); clear hx_ ha_ hz_ ho0; have nb_ := Aside0.mk (below_step (by repeat (first | (with_reducible first | exact HB.out | apply below_alloc | apply pw_below_drewN | apply below_drew1) | exact HB.out)) hb); clear HB; have HB := nb_; clear nb_ hb) | ((with_reducible refine gate_callee (f := 23) rfl ?_); (try (refine gate_guard (by rfl) ?_; dsimp only)); refine goesL_ (some 28) rfl rfl Try.func23 (by kernel_rfl) rfl #[.int .i64 a0, .slice a_1 M1.length b_1, .int .i64 a2] rfl (by (try simp only [List.map_toArray, List.map_cons, List.map_nil]); first | done | rfl | (simp only [List.length_drop, List.length_take]; rfl)) ?_; (with_reducible refine (spec_FastestWay.calls k a0 _ _ M1 a2 q1 q2 _ (fullC (by (with_reducible repeat (first | apply Ob_alloc | apply Ob_drewN | apply Ob_drew)); exact X1.out) HF.out.tk1).1 (fullC X1.out HF.out.tk1).2.1 HF.out.sp).mono ?_); rintro e w1 ⟨v0_, rfl, ho0, hb⟩; refine ⟨_, rfl, ?_⟩; obtain ⟨lo2, hi2, hx_, ha_, hz_, _⟩ := Ob_mk (base := w.heap.size) ho0 hb (below_le (by repeat (first | (with_reducible first | exact HB.out | apply below_alloc | apply pw_below_drewN | apply below_drew1) | exact HB.out))) (Ob_hi (by (with_reducible repeat (first | apply Ob_alloc | apply Ob_drewN | apply Ob_drew)); exact X1.out)); have X2 := Aside0.mk hx_; have OX2 := Aside0.mk (And.intro ha_ hz_); clear hx_ ha_ hz_ ho0; have n0_ := Aside0.mk (Ob_below (by (with_reducible repeat (first | apply Ob_alloc | apply Ob_drewN | apply Ob_drew)); exact X1.out) hb); have nb_ := Aside0.mk (below_step (by repeat (first | (with_reducible first | exact HB.out | apply below_alloc | apply pw_below_drewN | apply below_drew1) | exact HB.out)) hb); clear X1; clear HB; have X1 := n0_; clear n0_; have HB := nb_; clear nb_ hb; obtain ⟨a_2, b_2, e_⟩ := Ob_slice X2.out; subst e_) | ((with_reducible refine gate_callee (f := 10) rfl ?_); (try (refine gate_guard (by rfl) ?_; dsimp only)); refine goesL_ (some 32) rfl rfl Try.func10 (by kernel_rfl) rfl #[.slice A1 l1.length c1, .bool false] rfl (by (try simp only [List.map_toArray, List.map_cons, List.map_nil]); first | done | rfl | (simp only [List.length_drop, List.length_take]; rfl)) ?_; (with_reducible refine (full_toFuseS.calls k _ _ l1 false L1 _ (Kd.C_below HR1.out (by repeat (first | (with_reducible first | exact HB.out | apply below_alloc | apply pw_below_drewN | apply below_drew1) | exact HB.out))) HC1.out HF.out.fu1).mono ?_); rintro e w1 ⟨v0, rfl, ho, hb⟩; refine ⟨_, rfl, ?_⟩; obtain ⟨a_3, b_3, hv, hle, ho0⟩ := ho HF.out.ne1; rw [← HF.out.ln1] at hv; subst hv; clear ho hle; obtain ⟨lo3, hi3, hx_, ha_, hz_, _⟩ := Ob_mk (base := w.heap.size) ho0 hb (below_le (by repeat (first | (with_reducible first | exact HB.out | apply below_alloc | apply pw_below_drewN | apply below_drew1) | exact HB.out))) (Ob_hi (by (with_reducible repeat (first | apply Ob_alloc | apply Ob_drewN | apply Ob_drew)); exact X2.out)); have X3 := Aside0.mk hx_; have OX3 := Aside0.mk (And.intro ha_ hz_); clear hx_ ha_ hz_ ho0; have n0_ := Aside0.mk (Ob_below (by (with_reducible repeat (first | apply Ob_alloc | apply Ob_drewN | apply Ob_drew)); exact X1.out) hb); have n1_ := Aside0.mk (Ob_below (by (with_reducible repeat (first | apply Ob_alloc | apply Ob_drewN | apply Ob_drew)); exact X2.out) hb); have nb_ := Aside0.mk (below_step (by repeat (first | (with_reducible first | exact HB.out | apply below_alloc | apply pw_below_drewN | apply below_drew1) | exact HB.out)) hb); clear X1; clear X2; clear HB; have X1 := n0_; clear n0_; have X2 := n1_; clear n1_; have HB := nb_; clear nb_ hb) | ((with_reducible refine gate_callee (f := 24) rfl ?_); (try (refine gate_guard (by rfl) ?_; dsimp only)); refine goesL_ (some 37) rfl rfl Try.func24 (by kernel_rfl) rfl #[.int .i64 a0, .slice a_3 M1.length b_3, .int .i64 a2] rfl (by (try simp only [List.map_toArray, List.map_cons, List.map_nil]); first | done | rfl | (simp only [List.length_drop, List.length_take]; rfl)) ?_; (with_reducible refine (impl_FastestWay.calls k a0 _ _ M1 a2 q1 q2 _ (fullC (by (with_reducible repeat (first | apply Ob_alloc | apply Ob_drewN | apply Ob_drew)); exact X3.out) HF.out.tk1).1 (fullC X3.out HF.out.tk1).2.1 HF.out.im).mono ?_); rintro e w1 ⟨v0_, rfl, ho0, hb⟩; refine ⟨_, rfl, ?_⟩; obtain ⟨lo4, hi4, hx_, ha_, hz_, _⟩ := Ob_mk (base := w.heap.size) ho0 hb (below_le (by repeat (first | (with_reducible first | exact HB.out | apply below_alloc | apply pw_below_drewN | apply below_drew1) | exact HB.out))) (Ob_hi (by (with_reducible repeat (first | apply Ob_alloc | apply Ob_drewN | apply Ob_drew)); exact X3.out)); have X4 := Aside0.mk hx_; have OX4 := Aside0.mk (And.intro ha_ hz_); clear hx_ ha_ hz_ ho0; have n0_ := Aside0.mk (Ob_below (by (with_reducible repeat (first | apply Ob_alloc | apply Ob_drewN | apply Ob_drew)); exact X1.out) hb); have n1_ := Aside0.mk (Ob_below (by (with_reducible repeat (first | apply Ob_alloc | apply Ob_drewN | apply Ob_drew)); exact X2.out) hb); have n2_ := Aside0.mk (Ob_below (by (with_reducible repeat (first | apply Ob_alloc | apply Ob_drewN | apply Ob_drew)); exact X3.out) hb); have nb_ := Aside0.mk (below_step (by repeat (first | (with_reducible first | exact HB.out | apply below_alloc | apply pw_below_drewN | apply below_drew1) | exact HB.out)) hb); clear X1; clear X2; clear X3; clear HB; have X1 := n0_; clear n0_; have X2 := n1_; clear n1_; have X3 := n2_; clear n2_; have HB := nb_; clear nb_ hb; obtain ⟨a_4, b_4, e_⟩ := Ob_slice X4.out; subst e_) | ((with_reducible refine gate_callee (f := 15) rfl ?_); (try (refine gate_guard (by rfl) ?_; dsimp only)); refine goesL_ (some 42) rfl rfl Try.func15 (by kernel_rfl) rfl #[.slice a_4 q1.length b_4, .slice a_2 q1.length b_2] rfl (by (try simp only [List.map_toArray, List.map_cons, List.map_nil]); first | done | rfl | (simp only [List.length_drop, List.length_take]; rfl)) ?_; (with_reducible refine (laws_eqInt64S.calls k _ _ q1 _ _ q1 true _ (Ob_C (by (with_reducible repeat (first | apply Ob_alloc | apply Ob_drewN | apply Ob_drew)); exact X4.out)).2.2 (Ob_C X4.out).2.1 (Ob_C (by (with_reducible repeat (first | apply Ob_alloc | apply Ob_drewN | apply Ob_drew)); exact X2.out)).2.2 (Ob_C X2.out).2.1 HF.out.er).mono ?_); rintro e w' ⟨rfl, ⟨nd, rfl⟩⟩; refine ⟨_, rfl, ?_⟩) | ((with_reducible refine gate_callee (f := 10) rfl ?_); (try (refine gate_guard (by rfl) ?_; dsimp only)); refine goesL_ (some 51) rfl rfl Try.func10 (by kernel_rfl) rfl #[.slice A1 l1.length c1, .bool false] rfl (by (try simp only [List.map_toArray, List.map_cons, List.map_nil]); first | done | rfl | (simp only [List.length_drop, List.length_take]; rfl)) ?_; (with_reducible refine (full_toFuseS.calls k _ _ l1 false L1 _ (Kd.C_below HR1.out (by repeat (first | (with_reducible first | exact HB.out | apply below_alloc | apply pw_below_drewN | apply below_drew1) | exact HB.out))) HC1.out HF.out.fu1).mono ?_); rintro e w1 ⟨v0, rfl, ho, hb⟩; refine ⟨_, rfl, ?_⟩; obtain ⟨a_5, b_5, hv, hle, ho0⟩ := ho HF.out.ne1; rw [← HF.out.ln1] at hv; subst hv; clear ho hle; obtain ⟨lo5, hi5, hx_, ha_, hz_, _⟩ := Ob_mk (base := w.heap.size) ho0 hb (below_le (by repeat (first | (with_reducible first | exact HB.out | apply below_alloc | apply pw_below_drewN | apply below_drew1) | exact HB.out))) (Ob_hi (by (with_reducible repeat (first | apply Ob_alloc | apply Ob_drewN | apply Ob_drew)); exact X4.out)); have X5 := Aside0.mk hx_; have OX5 := Aside0.mk (And.intro ha_ hz_); clear hx_ ha_ hz_ ho0; have n0_ := Aside0.mk (Ob_below (by (with_reducible repeat (first | apply Ob_alloc | apply Ob_drewN | apply Ob_drew)); exact X1.out) hb); have n1_ := Aside0.mk (Ob_below (by (with_reducible repeat (first | apply Ob_alloc | apply Ob_drewN | apply Ob_drew)); exact X2.out) hb); have n2_ := Aside0.mk (Ob_below (by (with_reducible repeat (first | apply Ob_alloc | apply Ob_drewN | apply Ob_drew)); exact X3.out) hb); have n3_ := Aside0.mk (Ob_below (by (with_reducible repeat (first | apply Ob_alloc | apply Ob_drewN | apply Ob_drew)); exact X4.out) hb); have nb_ := Aside0.mk (below_step (by repeat (first | (with_reducible first | exact HB.out | apply below_alloc | apply pw_below_drewN | apply below_drew1) | exact HB.out)) hb); clear X1; clear X2; clear X3; clear X4; clear HB; have X1 := n0_; clear n0_; have X2 := n1_; clear n1_; have X3 := n2_; clear n2_; have X4 := n3_; clear n3_; have HB := nb_; clear nb_ hb) | ((with_reducible refine gate_callee (f := 12) rfl ?_); (try (refine gate_guard (by rfl) ?_; dsimp only)); refine goesL_ (some 52) rfl rfl Try.func12 (by kernel_rfl) rfl #[.slice a_3 M1.length b_3, .slice a_5 M1.length b_5] rfl (by (try simp only [List.map_toArray, List.map_cons, List.map_nil]); first | done | rfl | (simp only [List.length_drop, List.length_take]; rfl)) ?_; (with_reducible refine (same_intactFuseS k M1.length _ _ _ _ L1 t1 _ (fullC (by (with_reducible repeat (first | apply Ob_alloc | apply Ob_drewN | apply Ob_drew)); exact X3.out) HF.out.tk1).2.2.2 (fullC X3.out HF.out.tk1).2.2.1 (fullC (by (with_reducible repeat (first | apply Ob_alloc | apply Ob_drewN | apply Ob_drew)); exact X5.out) HF.out.tk1).2.2.2 (fullC X5.out HF.out.tk1).2.2.1 HF.out.rm1 HF.out.jn1 HF.out.eq1).mono ?_); rintro e w1 ⟨rfl, hb⟩; refine ⟨_, rfl, ?_⟩; have n0_ := Aside0.mk (Ob_below (by (with_reducible repeat (first | apply Ob_alloc | apply Ob_drewN | apply Ob_drew)); exact X1.out) hb); have n1_ := Aside0.mk (Ob_below (by (with_reducible repeat (first | apply Ob_alloc | apply Ob_drewN | apply Ob_drew)); exact X2.out) hb); have n2_ := Aside0.mk (Ob_below (by (with_reducible repeat (first | apply Ob_alloc | apply Ob_drewN | apply Ob_drew)); exact X3.out) hb); have n3_ := Aside0.mk (Ob_below (by (with_reducible repeat (first | apply Ob_alloc | apply Ob_drewN | apply Ob_drew)); exact X4.out) hb); have n4_ := Aside0.mk (Ob_below (by (with_reducible repeat (first | apply Ob_alloc | apply Ob_drewN | apply Ob_drew)); exact X5.out) hb); have nb_ := Aside0.mk (below_step (by repeat (first | (with_reducible first | exact HB.out | apply below_alloc | apply pw_below_drewN | apply below_drew1) | exact HB.out)) hb); clear X1; clear X2; clear X3; clear X4; clear X5; clear HB; have X1 := n0_; clear n0_; have X2 := n1_; clear n1_; have X3 := n2_; clear n2_; have X4 := n3_; clear n3_; have X5 := n4_; clear n4_; have HB := nb_; clear nb_ hb) | ((with_reducible refine gate_callee (f := 16) rfl ?_); (try (refine gate_guard (by rfl) ?_; dsimp only)); refine goesL_ (some 56) rfl rfl Try.func16 (by kernel_rfl) rfl #[.slice a_3 M1.length b_3, .int .i64 101] rfl (by (try simp only [List.map_toArray, List.map_cons, List.map_nil]); first | done | rfl | (simp only [List.length_drop, List.length_take]; rfl)) ?_; (with_reducible refine (laws_markFuseS.calls k _ _ M1 101 k1 M1k w _ (by repeat (first | (with_reducible first | exact HB.out | apply below_alloc | apply pw_below_drewN | apply below_drew1) | exact HB.out)) (Ob_R (lo := lo3) (hi := hi3) (fullT (by (with_reducible repeat (first | apply Ob_alloc | apply Ob_drewN | apply Ob_drew)); exact X3.out) HF.out.tk1)) HF.out.mk1).mono ?_); rintro e w1 ⟨rfl, hr_, hB_, hk_⟩; refine ⟨_, rfl, ?_⟩; have n0_ := Aside0.mk (Ob_kept (by (with_reducible repeat (first | apply Ob_alloc | apply Ob_drewN | apply Ob_drew)); exact X1.out) hk_ (by have := OX1.out; have := OX2.out; have := OX3.out; have := OX4.out; have := OX5.out; omega)); have n1_ := Aside0.mk (Ob_kept (by (with_reducible repeat (first | apply Ob_alloc | apply Ob_drewN | apply Ob_drew)); exact X2.out) hk_ (by have := OX1.out; have := OX2.out; have := OX3.out; have := OX4.out; have := OX5.out; omega)); have n2_ := Aside0.mk (Ob_kept (by (with_reducible repeat (first | apply Ob_alloc | apply Ob_drewN | apply Ob_drew)); exact X4.out) hk_ (by have := OX1.out; have := OX2.out; have := OX3.out; have := OX4.out; have := OX5.out; omega)); have n3_ := Aside0.mk (Ob_kept (by (with_reducible repeat (first | apply Ob_alloc | apply Ob_drewN | apply Ob_drew)); exact X5.out) hk_ (by have := OX1.out; have := OX2.out; have := OX3.out; have := OX4.out; have := OX5.out; omega)); clear X1; clear X2; clear X3; clear X4; clear X5; clear HB; have X1 := n0_; clear n0_; have X2 := n1_; clear n1_; have X4 := n2_; clear n2_; have X5 := n3_; clear n3_; have HB := Aside0.mk hB_; clear hB_ hk_; clear hr_) | ((with_reducible refine gate_callee (f := 15) rfl ?_); (try (refine gate_guard (by rfl) ?_; dsimp only)); refine goesL_ (some 62) rfl rfl Try.func15 (by kernel_rfl) rfl #[.slice a_4 q1.length b_4, .slice a_2 q1.length b_2] rfl (by (try simp only [List.map_toArray, List.map_cons, List.map_nil]); first | done | rfl | (simp only [List.length_drop, List.length_take]; rfl)) ?_; (with_reducible refine (laws_eqInt64S.calls k _ _ q1 _ _ q1 true _ (Ob_C (by (with_reducible repeat (first | apply Ob_alloc | apply Ob_drewN | apply Ob_drew)); exact X4.out)).2.2 (Ob_C X4.out).2.1 (Ob_C (by (with_reducible repeat (first | apply Ob_alloc | apply Ob_drewN | apply Ob_drew)); exact X2.out)).2.2 (Ob_C X2.out).2.1 HF.out.er).mono ?_); rintro e w' ⟨rfl, ⟨nd, rfl⟩⟩; refine ⟨_, rfl, ?_⟩) | ((with_reducible refine gate_callee (f := 17) rfl ?_); (try (refine gate_guard (by rfl) ?_; dsimp only)); refine goesL_ (some 72) rfl rfl Try.func17 (by kernel_rfl) rfl #[.slice a_4 q1.length b_4, .int .i64 101] rfl (by (try simp only [List.map_toArray, List.map_cons, List.map_nil]); first | done | rfl | (simp only [List.length_drop, List.length_take]; rfl)) ?_; (with_reducible refine (laws_markInt64S.calls k _ _ q1 101 m1 q1k w _ (by repeat (first | (with_reducible first | exact HB.out | apply below_alloc | apply pw_below_drewN | apply below_drew1) | exact HB.out)) (Ob_R (lo := lo4) (hi := hi4) (by (with_reducible repeat (first | apply Ob_alloc | apply Ob_drewN | apply Ob_drew)); exact X4.out)) HF.out.mg).mono ?_); rintro e w1 ⟨rfl, hr_, hB_, hk_⟩; refine ⟨_, rfl, ?_⟩; have n0_ := Aside0.mk (Ob_kept (by (with_reducible repeat (first | apply Ob_alloc | apply Ob_drewN | apply Ob_drew)); exact X1.out) hk_ (by have := OX1.out; have := OX2.out; have := OX3.out; have := OX4.out; have := OX5.out; omega)); have n1_ := Aside0.mk (Ob_kept (by (with_reducible repeat (first | apply Ob_alloc | apply Ob_drewN | apply Ob_drew)); exact X2.out) hk_ (by have := OX1.out; have := OX2.out; have := OX3.out; have := OX4.out; have := OX5.out; omega)); have n2_ := Aside0.mk (Ob_kept (by (with_reducible repeat (first | apply Ob_alloc | apply Ob_drewN | apply Ob_drew)); exact X5.out) hk_ (by have := OX1.out; have := OX2.out; have := OX3.out; have := OX4.out; have := OX5.out; omega)); have ng_ := Aside0.mk (show Ob _ _ _ w.heap.size _ _ _ _ from ⟨Kd.R_mono (Kd.R_bound hr_) (fun _ hz => ⟨hz.2.1, hz.2.2.1⟩), Nat.le_refl _, Nat.le_refl _⟩); clear X1; clear X2; clear X4; clear X5; clear HB; have X1 := n0_; clear n0_; have X2 := n1_; clear n1_; have X5 := n2_; clear n2_; have HB := Aside0.mk hB_; clear hB_ hk_; have X4 := ng_; clear ng_ hr_; skip) | ((with_reducible refine gate_callee (f := 18) rfl ?_); (try (refine gate_guard (by rfl) ?_; dsimp only)); refine goesL_ (some 75) rfl rfl Try.func18 (by kernel_rfl) rfl #[.slice a_4 q1.length b_4, .int .i64 101] rfl (by (try simp only [List.map_toArray, List.map_cons, List.map_nil]); first | done | rfl | (simp only [List.length_drop, List.length_take]; rfl)) ?_; (with_reducible refine (calls_len HF.out.hl (laws_heldInt64S.calls k _ _ q1k 101 m1 _ (Ob_C (by (with_reducible repeat (first | apply Ob_alloc | apply Ob_drewN | apply Ob_drew)); exact X4.out)).2.2 (Ob_C X4.out).2.1 HF.out.hd)).mono ?_); rintro e w' ⟨rfl, ⟨nd, rfl⟩⟩; refine ⟨_, rfl, ?_⟩) | ((with_reducible refine gate_callee (f := 10) rfl ?_); (try (refine gate_guard (by rfl) ?_; dsimp only)); refine goesL_ (some 84) rfl rfl Try.func10 (by kernel_rfl) rfl #[.slice A1 l1.length c1, .bool true] rfl (by (try simp only [List.map_toArray, List.map_cons, List.map_nil]); first | done | rfl | (simp only [List.length_drop, List.length_take]; rfl)) ?_; (with_reducible refine (laws_toFuseS.calls k _ _ l1 true M1 _ (Kd.C_below HR1.out (by repeat (first | (with_reducible first | exact HB.out | apply below_alloc | apply pw_below_drewN | apply below_drew1) | exact HB.out))) HC1.out HF.out.to1).mono ?_); rintro e w1 ⟨v0_, rfl, ho0, hb⟩; refine ⟨_, rfl, ?_⟩; obtain ⟨lo6, hi6, hx_, ha_, hz_, _⟩ := Ob_mk (base := w.heap.size) ho0 hb (below_le (by repeat (first | (with_reducible first | exact HB.out | apply below_alloc | apply pw_below_drewN | apply below_drew1) | exact HB.out))) (Ob_hi (by (with_reducible repeat (first | apply Ob_alloc | apply Ob_drewN | apply Ob_drew)); exact X5.out)); have X6 := Aside0.mk hx_; have OX6 := Aside0.mk (And.intro ha_ hz_); clear hx_ ha_ hz_ ho0; have n0_ := Aside0.mk (Ob_below (by (with_reducible repeat (first | apply Ob_alloc | apply Ob_drewN | apply Ob_drew)); exact X1.out) hb); have n1_ := Aside0.mk (Ob_below (by (with_reducible repeat (first | apply Ob_alloc | apply Ob_drewN | apply Ob_drew)); exact X2.out) hb); have n2_ := Aside0.mk (Ob_below (by (with_reducible repeat (first | apply Ob_alloc | apply Ob_drewN | apply Ob_drew)); exact X5.out) hb); have n3_ := Aside0.mk (Ob_below (by (with_reducible repeat (first | apply Ob_alloc | apply Ob_drewN | apply Ob_drew)); exact X4.out) hb); have nb_ := Aside0.mk (below_step (by repeat (first | (with_reducible first | exact HB.out | apply below_alloc | apply pw_below_drewN | apply below_drew1) | exact HB.out)) hb); clear X1; clear X2; clear X5; clear X4; clear HB; have X1 := n0_; clear n0_; have X2 := n1_; clear n1_; have X5 := n2_; clear n2_; have X4 := n3_; clear n3_; have HB := nb_; clear nb_ hb; obtain ⟨a_6, b_6, e_⟩ := Ob_slice X6.out; subst e_) | ((with_reducible refine gate_callee (f := 24) rfl ?_); (try (refine gate_guard (by rfl) ?_; dsimp only)); refine goesL_ (some 86) rfl rfl Try.func24 (by kernel_rfl) rfl #[.int .i64 a0, .slice a_6 M1.length b_6, .int .i64 a2] rfl (by (try simp only [List.map_toArray, List.map_cons, List.map_nil]); first | done | rfl | (simp only [List.length_drop, List.length_take]; rfl)) ?_; (with_reducible refine (impl_FastestWay.calls k a0 _ _ M1 a2 q1 q2 _ (Ob_C (by (with_reducible repeat (first | apply Ob_alloc | apply Ob_drewN | apply Ob_drew)); exact X6.out)).2.2 (Ob_C X6.out).2.1 HF.out.im).mono ?_); rintro e w1 ⟨v0_, rfl, ho0, hb⟩; refine ⟨_, rfl, ?_⟩; obtain ⟨lo7, hi7, hx_, ha_, hz_, _⟩ := Ob_mk (base := w.heap.size) ho0 hb (below_le (by repeat (first | (with_reducible first | exact HB.out | apply below_alloc | apply pw_below_drewN | apply below_drew1) | exact HB.out))) (Ob_hi (by (with_reducible repeat (first | apply Ob_alloc | apply Ob_drewN | apply Ob_drew)); exact X6.out)); have X7 := Aside0.mk hx_; have OX7 := Aside0.mk (And.intro ha_ hz_); clear hx_ ha_ hz_ ho0; have n0_ := Aside0.mk (Ob_below (by (with_reducible repeat (first | apply Ob_alloc | apply Ob_drewN | apply Ob_drew)); exact X1.out) hb); have n1_ := Aside0.mk (Ob_below (by (with_reducible repeat (first | apply Ob_alloc | apply Ob_drewN | apply Ob_drew)); exact X2.out) hb); have n2_ := Aside0.mk (Ob_below (by (with_reducible repeat (first | apply Ob_alloc | apply Ob_drewN | apply Ob_drew)); exact X5.out) hb); have n3_ := Aside0.mk (Ob_below (by (with_reducible repeat (first | apply Ob_alloc | apply Ob_drewN | apply Ob_drew)); exact X4.out) hb); have n4_ := Aside0.mk (Ob_below (by (with_reducible repeat (first | apply Ob_alloc | apply Ob_drewN | apply Ob_drew)); exact X6.out) hb); have nb_ := Aside0.mk (below_step (by repeat (first | (with_reducible first | exact HB.out | apply below_alloc | apply pw_below_drewN | apply below_drew1) | exact HB.out)) hb); clear X1; clear X2; clear X5; clear X4; clear X6; clear HB; have X1 := n0_; clear n0_; have X2 := n1_; clear n1_; have X5 := n2_; clear n2_; have X4 := n3_; clear n3_; have X6 := n4_; clear n4_; have HB := nb_; clear nb_ hb; obtain ⟨a_7, b_7, e_⟩ := Ob_slice X7.out; subst e_) | ((with_reducible refine gate_callee (f := 15) rfl ?_); (try (refine gate_guard (by rfl) ?_; dsimp only)); refine goesL_ (some 91) rfl rfl Try.func15 (by kernel_rfl) rfl #[.slice a_7 q1.length b_7, .slice a_2 q1.length b_2] rfl (by (try simp only [List.map_toArray, List.map_cons, List.map_nil]); first | done | rfl | (simp only [List.length_drop, List.length_take]; rfl)) ?_; (with_reducible refine (laws_eqInt64S.calls k _ _ q1 _ _ q1 true _ (Ob_C (by (with_reducible repeat (first | apply Ob_alloc | apply Ob_drewN | apply Ob_drew)); exact X7.out)).2.2 (Ob_C X7.out).2.1 (Ob_C (by (with_reducible repeat (first | apply Ob_alloc | apply Ob_drewN | apply Ob_drew)); exact X2.out)).2.2 (Ob_C X2.out).2.1 HF.out.er).mono ?_); rintro e w' ⟨rfl, ⟨nd, rfl⟩⟩; refine ⟨_, rfl, ?_⟩) | ((with_reducible refine gate_callee (f := 18) rfl ?_); (try (refine gate_guard (by rfl) ?_; dsimp only)); refine goesL_ (some 100) rfl rfl Try.func18 (by kernel_rfl) rfl #[.slice a_4 q1.length b_4, .int .i64 101] rfl (by (try simp only [List.map_toArray, List.map_cons, List.map_nil]); first | done | rfl | (simp only [List.length_drop, List.length_take]; rfl)) ?_; (with_reducible refine (calls_len HF.out.hl (laws_heldInt64S.calls k _ _ q1k 101 m1 _ (Ob_C (by (with_reducible repeat (first | apply Ob_alloc | apply Ob_drewN | apply Ob_drew)); exact X4.out)).2.2 (Ob_C X4.out).2.1 HF.out.hd)).mono ?_); rintro e w' ⟨rfl, ⟨nd, rfl⟩⟩; refine ⟨_, rfl, ?_⟩))
 go_ret
 exact ⟨rfl, (by repeat (first | (with_reducible first | exact HB.out | apply below_alloc | apply pw_below_drewN | apply below_drew1) | exact HB.out))⟩
end Go.Proofs.Ytipgcjonidlloaa.F
namespace Go.Proofs.Ytipgcjonidlloaa.F
open Go.RowKit Go.Proofs.YtipgcjonidlloaaW.PrintWords Go.Proofs.YtipgcjonidlloaaW.PrintLast Go.Proofs.YtipgcjonidlloaaW.PrintMore
set_option linter.unusedVariables false
set_option linter.unusedSimpArgs false
def Evt (P : Nat → Prop) : Prop := ∃ K, ∀ k, K ≤ k → P k
theorem Evt.and {P Q : Nat → Prop} (h : Evt P) (h' : Evt Q) : Evt (fun k => P k ∧ Q k) := by
 obtain ⟨K, h⟩ := h
 obtain ⟨K', h'⟩ := h'
 exact ⟨K + K', fun k hk => ⟨h k (by omega), h' k (by omega)⟩⟩
theorem Evt.mono {P Q : Nat → Prop} (h : Evt P) (hq : ∀ k, P k → Q k) : Evt Q := by
 obtain ⟨K, h⟩ := h
 exact ⟨K, fun k hk => hq k (h k hk)⟩
theorem Evt.ex {P : Nat → Prop} (h : Evt P) : ∃ k, P k := by
 obtain ⟨K, h⟩ := h
 exact ⟨K, h K (Nat.le_refl _)⟩
theorem Evt.succ {P : Nat → Prop} (h : Evt (fun k => P (k + 1))) : Evt P := by
 obtain ⟨K, h⟩ := h
 refine ⟨K + 1, fun k hk => ?_⟩
 obtain ⟨m, rfl⟩ : ∃ m, k = m + 1 := ⟨k - 1, by omega⟩
 exact h m (by omega)
theorem w64 {n : Int} (h : -9223372036854775808 ≤ n ∧ n ≤ 9223372036854775807) : wrap64 n = n := by unfold wrap64; omega
theorem room_some (n : Nat) : ∃ t : Int, laws_roomBehind.f (n : Int) = some t ∧ 0 ≤ t ∧ t ≤ n + 1 ∧ (n = 0 → 1 ≤ t) := by
 unfold laws_roomBehind.f
 have h6 : Int.tmod (n : Int) 6 = (n : Int) % 6 := Int.tmod_eq_emod_of_nonneg (by omega)
 have h3 : Int.tmod (n : Int) 3 = (n : Int) % 3 := Int.tmod_eq_emod_of_nonneg (by omega)
 rw [h6, h3]
 by_cases a : (n : Int) % 6 = 5
 ·rw [if_pos a]
  exact ⟨0, rfl, by omega, by omega, by omega⟩
 ·rw [if_neg a]
  by_cases b : (n : Int) % 3 = 0
  ·rw [if_pos b]
   exact ⟨1, rfl, by omega, by omega, by omega⟩
  ·rw [if_neg b]
   exact ⟨n, rfl, by omega, by omega, by omega⟩
theorem getD_at {α : Type} (xs : List α) (z : α) (i : Nat) (h : i < xs.length) : xs.getD ((i : Int)).toNat z = xs[i] := by
 rw [Int.toNat_natCast, List.getD_eq_getElem?_getD, List.getElem?_eq_getElem h]; rfl
theorem take_set_ge {α : Type} (xs : List α) (n i : Nat) (v : α) (h : n ≤ i) : (xs.set i v).take n = xs.take n := by
 apply List.ext_getElem?
 intro j
 simp only [List.getElem?_take, List.getElem?_set]
 by_cases hj : j < n
 ·rw [if_pos hj, if_pos hj, if_neg (by omega)]
 ·rw [if_neg hj, if_neg hj]
theorem take_set_snoc {α : Type} (xs : List α) (i : Nat) (v : α) (h : i < xs.length) : (xs.set i v).take (i + 1) = xs.take i ++ [v] := by
 rw [List.take_succ_eq_append_getElem (by simpa using h), take_set_ge _ _ _ _ (Nat.le_refl _), List.getElem_set_self]
def allF (p : Nat → Bool) : Nat → Nat → Bool
 | _, 0 => true
 | i, d + 1 => p i && allF p (i + 1) d
theorem allF_true {p : Nat → Bool} : ∀ (d i : Nat), allF p i d = true ↔ ∀ j, i ≤ j → j < i + d → p j = true
 | 0, i => by simp [allF]; intro j h1 h2; omega
 | d + 1, i => by
  unfold allF
  rw [Bool.and_eq_true, allF_true d (i + 1)]
  constructor
  ·rintro ⟨h1, h2⟩ j h3 h4
   rcases Nat.eq_or_lt_of_le h3 with e | e
   ·exact e ▸ h1
   ·exact h2 j e (by omega)
  ·exact fun h => ⟨h i (Nat.le_refl _) (by omega), fun j h1 h2 => h j (by omega) (by omega)⟩
theorem all_loopF {f : Nat → Nat → Option Bool} {p : Nat → Bool} {e : Bool} (a n : Nat) (hs : ∀ k i, a ≤ i → i < n → f (k + 1) i = if p i = true then f k (i + 1) else some false) (he : ∀ k, f (k + 1) n = some e) :
  ∀ d k i, a ≤ i → n - i = d → i ≤ n → d < k → f k i = some (allF p i d && e) := by
 intro d
 induction d with
 | zero =>
  intro k i ha hd hi hk
  obtain ⟨k, rfl⟩ : ∃ m, k = m + 1 := ⟨k - 1, by omega⟩
  have : i = n := by omega
  subst this
  rw [he]
  rfl
 | succ d ih =>
  intro k i ha hd hi hk
  obtain ⟨k, rfl⟩ : ∃ m, k = m + 1 := ⟨k - 1, by omega⟩
  rw [hs k i ha (by omega)]
  unfold allF
  by_cases hp : p i = true
  ·rw [if_pos hp, ih k (i + 1) (by omega) (by omega) (by omega) (by omega), hp, Bool.true_and]
  ·rw [if_neg hp]
   replace hp := Bool.eq_false_iff.mpr hp
   rw [hp, Bool.false_and, Bool.false_and]
theorem all_loop {f : Nat → Nat → Option Bool} {p : Nat → Bool} {e : Bool} (n : Nat) (hs : ∀ k i, i < n → f (k + 1) i = if p i = true then f k (i + 1) else some false) (he : ∀ k, f (k + 1) n = some e) :
  ∀ d k i, n - i = d → i ≤ n → d < k → f k i = some (allF p i d && e) := fun d k i => all_loopF 0 n (fun k i _ h => hs k i h) he d k i (Nat.zero_le _)
def inB (n lo hi : Int) : Bool := decide (lo ≤ n ∧ n ≤ hi)
theorem inB_true {n lo hi : Int} : inB n lo hi = true ↔ lo ≤ n ∧ n ≤ hi := by unfold inB; exact decide_eq_true_iff
theorem set_set {α : Type} (xs : List α) (i : Nat) (a b : α) : (xs.set i a).set i b = xs.set i b := by simp
theorem getD_set {α : Type} (xs : List α) (i : Nat) (v z : α) (h : i < xs.length) : (xs.set i v).getD i z = v := by
 rw [List.getD_eq_getElem?_getD, List.getElem?_set_self h]; rfl
theorem set_take_app {α : Type} (xs ys : List α) (i : Nat) (v : α) (hi : i < xs.length) : ((xs.set i v).take (i + 1)) ++ ys = xs.take i ++ (v :: ys) := by
 rw [take_set_snoc _ _ _ hi, List.append_assoc, List.singleton_append]
theorem getD_app {α : Type} (xs ys : List α) (z : α) (i : Nat) (h : xs.length = i) : (xs ++ ys).getD i z = ys.getD 0 z := by
 rw [List.getD_eq_getElem?_getD, List.getD_eq_getElem?_getD, List.getElem?_append_right (by omega), h, Nat.sub_self]
end Go.Proofs.Ytipgcjonidlloaa.F
namespace Go.Proofs.Ytipgcjonidlloaa.F
open Go.RowKit Go.Proofs.YtipgcjonidlloaaW.PrintWords Go.Proofs.YtipgcjonidlloaaW.PrintLast Go.Proofs.YtipgcjonidlloaaW.PrintMore
set_option linter.unusedVariables false
set_option linter.unusedSimpArgs false
def conv_FuseS (x : S46) : S44 := ⟨x.f0, x.f1, x.f2, x.f3⟩
theorem full_FuseS_l1 (d : Nat) : ∀ (k : Nat) (x0 : List S46) (x5 : List S44) (i : Nat), x5.length - i = d → x0.length ≤ i → i ≤ x5.length → x5.length ≤ 4000000 → d < k →
  full_toFuseS.l1 k x0 x5 (i : Int) = some (x5.take i ++ List.replicate d (⟨(-7000000000000000101), (-7000000000000000101), (-7000000000000000101), (-7000000000000000101)⟩ : S44)) := by
 induction d with
 | zero =>
  intro k x0 x5 i hd h1 h2 h3 hk
  obtain ⟨k, rfl⟩ : ∃ m, k = m + 1 := ⟨k - 1, by omega⟩
  simp only [full_toFuseS.l1]
  rw [if_neg (by omega), if_pos (by omega), if_pos (by omega), List.take_of_length_le (by omega)]
  simp
 | succ d ih =>
  intro k x0 x5 i hd h1 h2 h3 hk
  obtain ⟨k, rfl⟩ : ∃ m, k = m + 1 := ⟨k - 1, by omega⟩
  have hr := ih k x0 (x5.set i (⟨(-7000000000000000101), (-7000000000000000101), (-7000000000000000101), (-7000000000000000101)⟩ : S44)) (i + 1) (by rw [List.length_set]; omega) (by omega) (by rw [List.length_set]; omega) (by rw [List.length_set]; omega) (by omega)
  rw [take_set_snoc _ _ _ (by omega), List.append_assoc, List.singleton_append, ← List.replicate_succ] at hr
  rw [← hr]
  simp only [full_toFuseS.l1, laws_fillerFuse.f, Option.bind_some]
  rw [if_pos (by omega)]
  rw [if_pos (by omega), w64 (by omega)]
  rfl
theorem full_FuseS_l0 (d : Nat) : ∀ (k : Nat) (x0 : List S46) (x5 : List S44) (i : Nat), x0.length - i = d → i ≤ x0.length → x0.length ≤ x5.length → x5.length ≤ 4000000 → x5.take i = (x0.take i).map conv_FuseS → d + x5.length + 1 < k →
  full_toFuseS.l0 k x0 x5 (i : Int) = some (x0.map conv_FuseS ++ List.replicate (x5.length - x0.length) (⟨(-7000000000000000101), (-7000000000000000101), (-7000000000000000101), (-7000000000000000101)⟩ : S44)) := by
 induction d with
 | zero =>
  intro k x0 x5 i hd h1 h2 h3 h4 hk
  obtain ⟨k, rfl⟩ : ∃ m, k = m + 1 := ⟨k - 1, by omega⟩
  simp only [full_toFuseS.l0]
  rw [if_neg (by omega), full_FuseS_l1 (x5.length - x0.length) k x0 x5 x0.length rfl (Nat.le_refl _) h2 h3 (by omega)]
  have e : i = x0.length := by omega
  subst e
  rw [h4, List.take_length]
 | succ d ih =>
  intro k x0 x5 i hd h1 h2 h3 h4 hk
  obtain ⟨k, rfl⟩ : ∃ m, k = m + 1 := ⟨k - 1, by omega⟩
  have hi : i < x0.length := by omega
  have h5 : (x5.set i (conv_FuseS x0[i])).take (i + 1) = (x0.take (i + 1)).map conv_FuseS := by
   rw [take_set_snoc _ _ _ (by omega), h4, List.take_succ_eq_append_getElem hi, List.map_append]; rfl
  have hr := ih k x0 (x5.set i (conv_FuseS x0[i])) (i + 1) (by omega) (by omega) (by rw [List.length_set]; omega) (by rw [List.length_set]; omega) h5 (by rw [List.length_set]; omega)
  rw [List.length_set] at hr
  rw [← hr]
  simp only [full_toFuseS.l0, laws_toFuse.f, Option.bind_some]
  rw [if_pos (by omega), if_pos (by omega)]
  rw [if_pos (by omega), w64 (by omega), rd_T46, getD_at _ _ _ hi]
  rfl
theorem to_FuseS_l1 (d : Nat) : ∀ (k : Nat) (x0 : List S46) (x5 : List S44) (i : Nat), x5.length - i = d → x0.length ≤ i → i ≤ x5.length → x5.length ≤ 4000000 → d < k →
  laws_toFuseS.l1 k x0 x5 (i : Int) = some (x5.take x0.length) := by
 induction d with
 | zero =>
  intro k x0 x5 i hd h1 h2 h3 hk
  obtain ⟨k, rfl⟩ : ∃ m, k = m + 1 := ⟨k - 1, by omega⟩
  simp only [laws_toFuseS.l1]; rw [if_neg (by omega), if_pos (by omega), if_pos (by omega), Int.toNat_natCast]
 | succ d ih =>
  intro k x0 x5 i hd h1 h2 h3 hk
  obtain ⟨k, rfl⟩ : ∃ m, k = m + 1 := ⟨k - 1, by omega⟩
  have hr := ih k x0 (x5.set i (⟨(-7000000000000000101), (-7000000000000000101), (-7000000000000000101), (-7000000000000000101)⟩ : S44)) (i + 1) (by rw [List.length_set]; omega) (by omega) (by rw [List.length_set]; omega) (by rw [List.length_set]; omega) (by omega)
  rw [take_set_ge _ _ _ _ h1] at hr
  rw [← hr]
  simp only [laws_toFuseS.l1, laws_fillerFuse.f, Option.bind_some]
  rw [if_pos (by omega)]
  rw [if_pos (by omega), w64 (by omega)]
  rfl
theorem to_FuseS_l0 (d : Nat) : ∀ (k : Nat) (x0 : List S46) (x5 : List S44) (i : Nat), x0.length - i = d → i ≤ x0.length → x0.length ≤ x5.length → x5.length ≤ 4000000 → x5.take i = (x0.take i).map conv_FuseS → d + x5.length + 1 < k →
  laws_toFuseS.l0 k x0 x5 (i : Int) = some (x0.map conv_FuseS) := by
 induction d with
 | zero =>
  intro k x0 x5 i hd h1 h2 h3 h4 hk
  obtain ⟨k, rfl⟩ : ∃ m, k = m + 1 := ⟨k - 1, by omega⟩
  simp only [laws_toFuseS.l0]
  rw [if_neg (by omega), to_FuseS_l1 (x5.length - x0.length) k x0 x5 x0.length rfl (Nat.le_refl _) h2 h3 (by omega)]
  have e : i = x0.length := by omega
  subst e
  rw [h4, List.take_length]
 | succ d ih =>
  intro k x0 x5 i hd h1 h2 h3 h4 hk
  obtain ⟨k, rfl⟩ : ∃ m, k = m + 1 := ⟨k - 1, by omega⟩
  have hi : i < x0.length := by omega
  have h5 : (x5.set i (conv_FuseS x0[i])).take (i + 1) = (x0.take (i + 1)).map conv_FuseS := by
   rw [take_set_snoc _ _ _ (by omega), h4, List.take_succ_eq_append_getElem hi, List.map_append]; rfl
  have hr := ih k x0 (x5.set i (conv_FuseS x0[i])) (i + 1) (by omega) (by omega) (by rw [List.length_set]; omega) (by rw [List.length_set]; omega) h5 (by rw [List.length_set]; omega)
  rw [← hr]
  simp only [laws_toFuseS.l0, laws_toFuse.f, Option.bind_some]
  rw [if_pos (by omega), if_pos (by omega)]
  rw [if_pos (by omega), w64 (by omega), rd_T46, getD_at _ _ _ hi]
  rfl
theorem to_FuseS (l : List S46) (hl : l.length ≤ 1000000) : ∃ (L : List S44) (t : Int), L ≠ [] ∧ (l.map conv_FuseS = L.take l.length ∧ l.length ≤ L.length) ∧ (l.map conv_FuseS).length = l.length ∧ L.length ≤ 2000001 ∧
  laws_roomBehind.f ((l.map conv_FuseS).length : Int) = some t ∧ wrap64 (((l.map conv_FuseS).length : Int) + t) = (L.length : Int) ∧
  Evt (fun k => full_toFuseS.f k l false = some L) ∧ Evt (fun k => laws_toFuseS.f k l true = some (l.map conv_FuseS)) := by
 obtain ⟨t, ht, h0, h1, h2⟩ := room_some l.length
 have hw : wrap64 ((l.length : Int) + t) = (l.length : Int) + t := w64 (by omega)
 have hn : ((l.length : Int) + t).toNat = l.length + t.toNat := by omega
 have hm : (l.map conv_FuseS).length = l.length := List.length_map _
 have hlen : (l.map conv_FuseS ++ List.replicate (l.length + t.toNat - l.length) (⟨(-7000000000000000101), (-7000000000000000101), (-7000000000000000101), (-7000000000000000101)⟩ : S44)).length = l.length + t.toNat := by rw [List.length_append, List.length_replicate, hm]; omega
 refine ⟨l.map conv_FuseS ++ List.replicate (l.length + t.toNat - l.length) (⟨(-7000000000000000101), (-7000000000000000101), (-7000000000000000101), (-7000000000000000101)⟩ : S44), t, ?_, ⟨?_, by omega⟩, hm, by omega, by rw [hm]; exact ht, by rw [hm, hw, hlen]; omega, ?_, ?_⟩
 ·intro e
  rw [e] at hlen
  simp at hlen
  have := h2 (by omega)
  omega
 ·rw [← hm, List.take_left]
 ·refine Evt.succ ⟨l.length + (l.length + t.toNat) + 2, fun k hk => ?_⟩
  show full_toFuseS.f (k + 1) l false = _
  unfold full_toFuseS.f
  rw [if_neg (by decide)]
  simp only [full_toFuseS.j0]
  rw [if_neg (by decide), ht]
  simp only [Option.bind_some]
  rw [hw, if_pos (by omega), hn, if_pos (by omega)]
  have z := full_FuseS_l0 l.length k l (List.replicate (l.length + t.toNat) z44) 0 (by omega) (by omega) (by rw [List.length_replicate]; omega) (by rw [List.length_replicate]; omega) (by simp) (by rw [List.length_replicate]; omega)
  rw [List.length_replicate] at z
  exact z
 ·refine Evt.succ ⟨l.length + (l.length + t.toNat) + 2, fun k hk => ?_⟩
  show laws_toFuseS.f (k + 1) l true = _
  unfold laws_toFuseS.f
  rw [if_pos rfl]
  simp only [laws_toFuseS.j0]
  by_cases e : l.length = 0
  ·have e2 : l = [] := List.length_eq_zero_iff.mp e
   subst e2
   rfl
  ·have e3 : ((l.length : Int) == 0) = false := by rw [beq_eq_false_iff_ne]; omega
   rw [e3, if_neg (by decide), ht]
   simp only [Option.bind_some]
   rw [hw, if_pos (by omega), hn, if_pos (by omega)]
   exact to_FuseS_l0 l.length k l (List.replicate (l.length + t.toNat) z44) 0 (by omega) (by omega) (by rw [List.length_replicate]; omega) (by rw [List.length_replicate]; omega) (by simp) (by rw [List.length_replicate]; omega)
theorem eq_FuseS_l0 (d : Nat) : ∀ (k : Nat) (xs : List S44) (i : Nat), xs.length - i = d → i ≤ xs.length → xs.length ≤ 4000000 → d < k → laws_eqFuseS.l0 k xs xs (i : Int) = some true := by
 induction d with
 | zero =>
  intro k xs i hd h1 h2 hk
  obtain ⟨k, rfl⟩ : ∃ m, k = m + 1 := ⟨k - 1, by omega⟩
  simp only [laws_eqFuseS.l0]; rw [if_neg (by omega)]
 | succ d ih =>
  intro k xs i hd h1 h2 hk
  obtain ⟨k, rfl⟩ : ∃ m, k = m + 1 := ⟨k - 1, by omega⟩
  have hr := ih k xs (i + 1) (by omega) (by omega) h2 (by omega)
  simp only [laws_eqFuseS.l0, laws_eqFuse.f, if_true, Option.bind_some]
  rw [if_pos (by omega), if_pos (by omega), if_pos (by omega), w64 (by omega)]
  exact hr
theorem eq_FuseS (xs : List S44) (h : xs.length ≤ 4000000) : Evt (fun k => laws_eqFuseS.f k xs xs = some true) := by
 refine ⟨xs.length + 1, fun k hk => ?_⟩
 show laws_eqFuseS.f k xs xs = _
 unfold laws_eqFuseS.f
 rw [if_pos rfl]
 exact eq_FuseS_l0 xs.length k xs 0 (by omega) (by omega) h (by omega)
theorem sz_FuseS (l : List S46) (a : Int) (h0 : 0 ≤ a) (h1 : a ≤ 1000000) (hl : l.length ≤ maxLen) :
  (l.length ≤ a ∧ laws_szFuseS.f l a = some (a - l.length)) ∨ laws_szFuseS.f l a = some (-1) := by
 unfold maxLen at hl
 unfold laws_szFuseS.f
 rw [w64 (by omega)]
 by_cases h : a - (l.length : Int) < 0
 ·rw [if_pos h]
  exact .inr rfl
 ·rw [if_neg h]
  exact .inl ⟨by omega, rfl⟩
def PrI44 (x : S44) : Prop := I64 x.f0 ∧ I64 x.f1 ∧ I64 x.f2 ∧ I64 x.f3
theorem prc_FuseS {l : List S46} (h : ∀ x ∈ l, Pr46 x) : ∀ x ∈ l.map conv_FuseS, PrI44 x := by
 intro x hx
 obtain ⟨y, hy, rfl⟩ := List.mem_map.1 hx
 exact h y hy
def seq_FuseS : Nat → Int → List S44
 | 0, _ => []
 | d + 1, c => (⟨c, c + 1, c + 2, c + 3⟩ : S44) :: seq_FuseS d (c + 4)
theorem mark_FuseS_l0 (d : Nat) : ∀ (k : Nat) (xs : List S44) (c : Int) (i : Nat), xs.length - i = d → i ≤ xs.length → xs.length ≤ 4000000 → 0 ≤ c → c ≤ 1000000000 - 4 * (xs.length - i : Nat) → d < k →
  laws_markFuseS.l0 k xs c (i : Int) = some (c + 4 * d, xs.take i ++ seq_FuseS d c) := by
 induction d with
 | zero =>
  intro k xs c i hd h1 h2 h3 h4 hk
  obtain ⟨k, rfl⟩ : ∃ m, k = m + 1 := ⟨k - 1, by omega⟩
  simp only [laws_markFuseS.l0, seq_FuseS]
  rw [if_neg (by omega), List.take_of_length_le (by omega), List.append_nil]
  congr 2; omega
 | succ d ih =>
  intro k xs c i hd h1 h2 h3 h4 hk
  obtain ⟨k, rfl⟩ : ∃ m, k = m + 1 := ⟨k - 1, by omega⟩
  have hr := ih k (xs.set i (⟨c, c + 1, c + 2, c + 3⟩ : S44)) (c + 4) (i + 1) (by rw [List.length_set]; omega) (by rw [List.length_set]; omega) (by rw [List.length_set]; omega) (by omega) (by rw [List.length_set]; omega) (by omega)
  rw [set_take_app _ _ _ _ (by omega)] at hr
  have e : c + 4 * ((d + 1 : Nat) : Int) = c + 4 + 4 * (d : Int) := by omega
  rw [e]
  show _ = some (c + 4 + 4 * (d : Int), xs.take i ++ (⟨c, c + 1, c + 2, c + 3⟩ : S44) :: seq_FuseS d (c + 4))
  rw [← hr]
  simp only [laws_markFuseS.l0, Option.bind_some]
  rw [if_pos (by omega), if_pos (by omega)]
  have w1 : wrap64 (c + 1) = c + 1 := by rw [w64 (by omega)]
  have w2 : wrap64 (c + 1 + 1) = c + 2 := by rw [w64 (by omega)]; omega
  have w3 : wrap64 (c + 2 + 1) = c + 3 := by rw [w64 (by omega)]; omega
  have w4 : wrap64 (c + 3 + 1) = c + 4 := by rw [w64 (by omega)]; omega
  rw [w1, w2, w3, w4, w64 (n := (i : Int) + 1) (by omega)]
  simp only [Int.toNat_natCast]
  have rs : ∀ v : S44, rd_T44 (xs.set i v) (i : Int) = v := fun v => by unfold rd_T44; rw [Int.toNat_natCast, getD_set _ _ _ _ (by omega)]
  simp only [set_set, rs]
  rfl
theorem mark_FuseS (xs : List S44) (c : Int) (hx : xs.length ≤ 4000000) (h0 : 0 ≤ c) (h1 : c ≤ 900000000) : Evt (fun k => laws_markFuseS.f k xs c = some (c + 4 * (xs.length : Int), seq_FuseS xs.length c)) := by
 refine ⟨xs.length + 1, fun k hk => ?_⟩
 show laws_markFuseS.f k xs c = _
 unfold laws_markFuseS.f
 exact mark_FuseS_l0 xs.length k xs c 0 (by omega) (by omega) hx h0 (by omega) (by omega)
end Go.Proofs.Ytipgcjonidlloaa.F
namespace Go.Proofs.Ytipgcjonidlloaa.F
open Go.RowKit Go.Proofs.YtipgcjonidlloaaW.PrintWords Go.Proofs.YtipgcjonidlloaaW.PrintLast Go.Proofs.YtipgcjonidlloaaW.PrintMore
set_option linter.unusedVariables false
set_option linter.unusedSimpArgs false
theorem eq_Int64S_l0 (d : Nat) : ∀ (k : Nat) (xs : List Int) (i : Nat), xs.length - i = d → i ≤ xs.length → xs.length ≤ 4000000 → d < k → laws_eqInt64S.l0 k xs xs (i : Int) = some true := by
 induction d with
 | zero =>
  intro k xs i hd h1 h2 hk
  obtain ⟨k, rfl⟩ : ∃ m, k = m + 1 := ⟨k - 1, by omega⟩
  simp only [laws_eqInt64S.l0]; rw [if_neg (by omega)]
 | succ d ih =>
  intro k xs i hd h1 h2 hk
  obtain ⟨k, rfl⟩ : ∃ m, k = m + 1 := ⟨k - 1, by omega⟩
  have hr := ih k xs (i + 1) (by omega) (by omega) h2 (by omega)
  simp only [laws_eqInt64S.l0, if_true]
  rw [if_pos (by omega), if_pos (by omega), if_pos (by omega), w64 (by omega)]
  exact hr
theorem eq_Int64S (xs : List Int) (h : xs.length ≤ 4000000) : Evt (fun k => laws_eqInt64S.f k xs xs = some true) := by
 refine ⟨xs.length + 1, fun k hk => ?_⟩
 show laws_eqInt64S.f k xs xs = _
 unfold laws_eqInt64S.f
 rw [if_pos rfl]
 exact eq_Int64S_l0 xs.length k xs 0 (by omega) (by omega) h (by omega)
def seq_Int64S : Nat → Int → List Int
 | 0, _ => []
 | d + 1, c => c :: seq_Int64S d (c + 1)
theorem seq_Int64S_len : ∀ (d : Nat) (c : Int), (seq_Int64S d c).length = d
 | 0, _ => rfl
 | d + 1, c => by unfold seq_Int64S; rw [List.length_cons, seq_Int64S_len d]
theorem mark_Int64S_l0 (d : Nat) : ∀ (k : Nat) (xs : List Int) (c : Int) (i : Nat), xs.length - i = d → i ≤ xs.length → xs.length ≤ 4000000 → 0 ≤ c → c ≤ 1000000000 - 1 * (xs.length - i : Nat) → d < k →
  laws_markInt64S.l0 k xs c (i : Int) = some (c + 1 * d, xs.take i ++ seq_Int64S d c) := by
 induction d with
 | zero =>
  intro k xs c i hd h1 h2 h3 h4 hk
  obtain ⟨k, rfl⟩ : ∃ m, k = m + 1 := ⟨k - 1, by omega⟩
  simp only [laws_markInt64S.l0, seq_Int64S]
  rw [if_neg (by omega), List.take_of_length_le (by omega), List.append_nil]
  congr 2; omega
 | succ d ih =>
  intro k xs c i hd h1 h2 h3 h4 hk
  obtain ⟨k, rfl⟩ : ∃ m, k = m + 1 := ⟨k - 1, by omega⟩
  have hr := ih k (xs.set i c) (c + 1) (i + 1) (by rw [List.length_set]; omega) (by rw [List.length_set]; omega) (by rw [List.length_set]; omega) (by omega) (by rw [List.length_set]; omega) (by omega)
  rw [set_take_app _ _ _ _ (by omega)] at hr
  have e : c + 1 * ((d + 1 : Nat) : Int) = c + 1 + 1 * (d : Int) := by omega
  rw [e]
  show _ = some (c + 1 + 1 * (d : Int), xs.take i ++ c :: seq_Int64S d (c + 1))
  rw [← hr]
  simp only [laws_markInt64S.l0, Option.bind_some]
  rw [if_pos (by omega), if_pos (by omega)]
  have w1 : wrap64 (c + 1) = c + 1 := by rw [w64 (by omega)]
  rw [w1, w64 (n := (i : Int) + 1) (by omega)]
  rw [Int.toNat_natCast]
  rfl
theorem mark_Int64S (xs : List Int) (c : Int) (hx : xs.length ≤ 4000000) (h0 : 0 ≤ c) (h1 : c ≤ 900000000) : Evt (fun k => laws_markInt64S.f k xs c = some (c + 1 * (xs.length : Int), seq_Int64S xs.length c)) := by
 refine ⟨xs.length + 1, fun k hk => ?_⟩
 show laws_markInt64S.f k xs c = _
 unfold laws_markInt64S.f
 exact mark_Int64S_l0 xs.length k xs c 0 (by omega) (by omega) hx h0 (by omega) (by omega)
theorem held_Int64S_l0 (d : Nat) : ∀ (k : Nat) (pre : List Int) (c : Int) (i : Nat), pre.length = i → pre.length + d ≤ 4000000 → 0 ≤ c → c ≤ 1000000000 - 1 * d → d < k →
  laws_heldInt64S.l0 k (pre ++ seq_Int64S d c) c (i : Int) = some (c + 1 * d) := by
 induction d with
 | zero =>
  intro k pre c i hd h1 h2 h3 hk
  obtain ⟨k, rfl⟩ : ∃ m, k = m + 1 := ⟨k - 1, by omega⟩
  simp only [laws_heldInt64S.l0, seq_Int64S, List.append_nil]
  rw [if_neg (by omega)]
  congr 1; omega
 | succ d ih =>
  intro k pre c i hd h1 h2 h3 hk
  obtain ⟨k, rfl⟩ : ∃ m, k = m + 1 := ⟨k - 1, by omega⟩
  have hr := ih k (pre ++ [c]) (c + 1) (i + 1) (by rw [List.length_append, List.length_singleton]; omega) (by rw [List.length_append, List.length_singleton]; omega) (by omega) (by omega) (by omega)
  rw [List.append_assoc, List.singleton_append] at hr
  have e : c + 1 * ((d + 1 : Nat) : Int) = c + 1 + 1 * (d : Int) := by omega
  have hlen : (pre ++ c :: seq_Int64S d (c + 1)).length = pre.length + (d + 1) := by rw [List.length_append, List.length_cons, seq_Int64S_len]
  have hrd : rd (pre ++ c :: seq_Int64S d (c + 1)) (i : Int) = c := by
   unfold rd
   rw [Int.toNat_natCast, getD_app _ _ _ _ hd]
   rfl
  rw [e, ← hr]
  show laws_heldInt64S.l0 (k + 1) (pre ++ c :: seq_Int64S d (c + 1)) c (i : Int) = _
  simp only [laws_heldInt64S.l0, hrd]
  rw [if_pos (by omega), if_pos (by omega)]
  have w1 : wrap64 (c + 1) = c + 1 := by rw [w64 (by omega)]
  rw [w1, w64 (n := (i : Int) + 1) (by omega)]
  simp only [if_true]
  rfl
theorem held_Int64S (n : Nat) (c : Int) (hx : n ≤ 4000000) (h0 : 0 ≤ c) (h1 : c ≤ 900000000) : Evt (fun k => laws_heldInt64S.f k (seq_Int64S n c) c = some (c + 1 * (n : Int))) := by
 refine ⟨n + 1, fun k hk => ?_⟩
 show laws_heldInt64S.f k (seq_Int64S n c) c = _
 unfold laws_heldInt64S.f
 exact held_Int64S_l0 n k [] c 0 rfl (by simp; omega) h0 (by omega) (by omega)
end Go.Proofs.Ytipgcjonidlloaa.F
namespace Go.Proofs.Ytipgcjonidlloaa.F
open Go.RowKit Go.Proofs.YtipgcjonidlloaaW.PrintWords Go.Proofs.YtipgcjonidlloaaW.PrintLast Go.Proofs.YtipgcjonidlloaaW.PrintMore
set_option linter.unusedVariables false
set_option linter.unusedSimpArgs false
theorem In_eq (n lo hi : Int) : spec_l01In.f n lo hi = some (inB n lo hi) := by
 unfold spec_l01In.f inB
 by_cases h : n ≥ lo
 ·rw [if_pos h]; congr 1; simp; omega
 ·rw [if_neg h]; congr 1; simp; omega
theorem Wi_eq (n lo hi : Int) : impl_within.f n lo hi = some (inB n lo hi) := by
 unfold impl_within.f inB
 by_cases h : lo ≤ n
 ·rw [if_pos h]; congr 1; simp; omega
 ·rw [if_neg h]; congr 1; simp; omega
end Go.Proofs.Ytipgcjonidlloaa.F
namespace Go.Proofs.Ytipgcjonidlloaa.F
open Go.RowKit Go.Proofs.YtipgcjonidlloaaW.PrintWords Go.Proofs.YtipgcjonidlloaaW.PrintLast Go.Proofs.YtipgcjonidlloaaW.PrintMore
set_option linter.unusedVariables false
set_option linter.unusedSimpArgs false
def fu_at (xs : List S44) (i : Nat) : S44 := xs.getD i z44
def fuseAt (n : Int) (xs : List S44) (i : Nat) : Bool := inB (fu_at xs i).f0 0 (wrap64 (n - 1)) && (inB (fu_at xs i).f1 (wrap64 ((fu_at xs i).f0 + 1)) (wrap64 (n - 1)) && (inB (fu_at xs i).f2 0 100000 && inB (fu_at xs i).f3 (fu_at xs i).f2 100000))
def areFuses (n : Int) (xs : List S44) : Bool := allF (fuseAt n xs) 0 xs.length && (inB n 1 10 && decide ((xs.length : Int) ≤ 20))
theorem rd_fuse (xs : List S44) (i : Nat) : rd_T44 xs (i : Int) = fu_at xs i := by unfold rd_T44 fu_at; rw [Int.toNat_natCast]
theorem spec_fuses (n : Int) (xs : List S44) (hx : xs.length ≤ 4000000) (k : Nat) (hk : xs.length < k) : spec_AreFuses.f k n xs = some (areFuses n xs) := by
 refine all_loop (f := fun k i => spec_AreFuses.l0 k n xs (i : Int)) xs.length (fun k i hi => ?_) (fun k => ?_) xs.length k 0 (by omega) (by omega) (by omega)
 ·show spec_AreFuses.l0 (k + 1) n xs i = _
  simp only [spec_AreFuses.l0, In_eq, Option.bind_some]
  rw [if_pos (by omega), if_pos (by omega), w64 (n := (i : Int) + 1) (by omega), rd_fuse]
  unfold fuseAt
  cases inB (fu_at xs i).f0 0 (wrap64 (n - 1)) <;> cases inB (fu_at xs i).f1 (wrap64 ((fu_at xs i).f0 + 1)) (wrap64 (n - 1)) <;> cases inB (fu_at xs i).f2 0 100000 <;> cases inB (fu_at xs i).f3 (fu_at xs i).f2 100000 <;> rfl
 ·show spec_AreFuses.l0 (k + 1) n xs _ = _
  simp only [spec_AreFuses.l0, In_eq, Option.bind_some]
  rw [if_neg (by omega)]
  cases inB n 1 10 <;> rfl
theorem impl_fuses (n : Int) (xs : List S44) (hx : xs.length ≤ 4000000) (k : Nat) (hk : xs.length + 1 < k) : impl_AreFuses.f k n xs = some (areFuses n xs) := by
 obtain ⟨k, rfl⟩ : ∃ m, k = m + 1 := ⟨k - 1, by omega⟩
 unfold impl_AreFuses.f areFuses
 simp only [impl_AreFuses.j0, Wi_eq, Option.bind_some]
 cases h1 : inB n 1 10 with
 | false => rw [if_neg (by decide), if_pos trivial, Bool.false_and, Bool.and_false]
 | true =>
  rw [if_pos rfl, Bool.true_and]
  by_cases h2 : (xs.length : Int) > 20
  ·rw [if_pos (decide_eq_true h2), decide_eq_false (by omega : ¬ ((xs.length : Int) ≤ 20)), Bool.and_false]
  ·rw [if_neg (by simpa using h2), decide_eq_true (by omega : ((xs.length : Int) ≤ 20))]
   refine all_loop (f := fun k i => impl_AreFuses.l0 k n xs (xs.length : Int) (i : Int)) xs.length (fun k i hi => ?_) (fun k => ?_) xs.length k 0 (by omega) (by omega) (by omega)
   ·show impl_AreFuses.l0 (k + 1) n xs (xs.length : Int) i = _
    simp only [impl_AreFuses.l0, Wi_eq, Option.bind_some]
    rw [if_pos (by omega), if_pos (by omega), if_pos (by omega), w64 (n := (i : Int) + 1) (by omega), rd_fuse]
    unfold fuseAt
    cases inB (fu_at xs i).f0 0 (wrap64 (n - 1)) <;> cases inB (fu_at xs i).f1 (wrap64 ((fu_at xs i).f0 + 1)) (wrap64 (n - 1)) <;> cases inB (fu_at xs i).f2 0 100000 <;> cases inB (fu_at xs i).f3 (fu_at xs i).f2 100000 <;> rfl
   ·show impl_AreFuses.l0 (k + 1) n xs (xs.length : Int) _ = _
    simp only [impl_AreFuses.l0]
    rw [if_neg (by omega)]
end Go.Proofs.Ytipgcjonidlloaa.F
namespace Go.Proofs.Ytipgcjonidlloaa.F
open Go.RowKit Go.Proofs.YtipgcjonidlloaaW.PrintWords Go.Proofs.YtipgcjonidlloaaW.PrintLast Go.Proofs.YtipgcjonidlloaaW.PrintMore
set_option linter.unusedVariables false
set_option linter.unusedSimpArgs false
theorem areFuses_true {n : Int} {xs : List S44} (h : areFuses n xs = true) : ∃ m : Nat, n = (m : Int) ∧ 1 ≤ m ∧ m ≤ 10 ∧ xs.length ≤ 20 ∧ ∀ i, i < xs.length → 0 ≤ (fu_at xs i).f0 ∧ (fu_at xs i).f0 < (fu_at xs i).f1 ∧ (fu_at xs i).f1 < (m : Int) ∧ 0 ≤ (fu_at xs i).f2 ∧ (fu_at xs i).f2 ≤ (fu_at xs i).f3 ∧ (fu_at xs i).f3 ≤ 100000 := by
 unfold areFuses at h
 rw [Bool.and_eq_true, Bool.and_eq_true, allF_true, inB_true, decide_eq_true_iff] at h
 obtain ⟨h1, h2, h3⟩ := h
 refine ⟨n.toNat, by omega, by omega, by omega, by omega, fun i hi => ?_⟩
 have := h1 i (by omega) (by omega)
 unfold fuseAt at this
 rw [Bool.and_eq_true, Bool.and_eq_true, Bool.and_eq_true, inB_true, inB_true, inB_true, inB_true, w64 (by omega)] at this
 obtain ⟨a, b, c, d⟩ := this
 rw [w64 (by omega)] at b
 omega
end Go.Proofs.Ytipgcjonidlloaa.F
namespace Go.Proofs.Ytipgcjonidlloaa.F
open Go.RowKit Go.Proofs.YtipgcjonidlloaaW.PrintWords Go.Proofs.YtipgcjonidlloaaW.PrintLast Go.Proofs.YtipgcjonidlloaaW.PrintMore
set_option linter.unusedVariables false
set_option linter.unusedSimpArgs false
def StepE (xs : List S44) (E E' : List Int) (v i : Nat) : Prop :=
 (E' = E ∧ ((fu_at xs i).f1 = (v : Int) → rd E (fu_at xs i).f0 < 0 ∨ (0 ≤ rd E (v : Int) ∧ rd E (v : Int) ≤ wrap64 (rd E (fu_at xs i).f0 + (fu_at xs i).f2)))) ∨
 (E' = E.set v (wrap64 (rd E (fu_at xs i).f0 + (fu_at xs i).f2)) ∧ (fu_at xs i).f1 = (v : Int) ∧ 0 ≤ rd E (fu_at xs i).f0 ∧ (rd E (v : Int) < 0 ∨ wrap64 (rd E (fu_at xs i).f0 + (fu_at xs i).f2) < rd E (v : Int)))
theorem tstepq {m : Nat} {xs : List S44} (hx : xs.length ≤ 20) (E L : List Int) (hE : E.length = m) (hL : L.length = m) (v i : Nat) (h0 : 0 < v) (hv : v < m) (hi : i < xs.length) (hf : 0 ≤ (fu_at xs i).f0 ∧ (fu_at xs i).f0 < (m : Int)) :
  ∃ E' L' b, 2 ≤ b ∧ b ≤ 3 ∧ E'.length = m ∧ L'.length = m ∧ StepE xs E E' v i ∧ (∀ k, spec_l10Times.l1 (k + b) (m : Int) xs E L (v : Int) (i : Int) = spec_l10Times.l1 k (m : Int) xs E' L' (v : Int) ((i + 1 : Nat) : Int)) ∧ (∀ k, impl_litTimes.l1 (k + b) (m : Int) xs E L (v : Int) xs (xs.length : Int) (i : Int) = impl_litTimes.l1 k (m : Int) xs E' L' (v : Int) xs (xs.length : Int) ((i + 1 : Nat) : Int)) := by
 have g1 : (i : Int) < (xs.length : Int) := by omega
 have g2 : 0 ≤ (i : Int) := by omega
 have hw : wrap64 ((i : Int) + 1) = ((i + 1 : Nat) : Int) := w64 (by omega)
 have v0 : 0 ≤ (v : Int) := by omega
 have vE : (v : Int) < (E.length : Int) := by omega
 have vL : (v : Int) < (L.length : Int) := by omega
 have fE : (fu_at xs i).f0 < (E.length : Int) := by omega
 have fL : (fu_at xs i).f0 < (L.length : Int) := by omega
 have f0 := hf.1
 have et : ((v : Int)).toNat = v := Int.toNat_natCast v
 have lE : ∀ y, (E.set v y).length = m := fun y => by rw [List.length_set]; exact hE
 have lL : ∀ y, (L.set v y).length = m := fun y => by rw [List.length_set]; exact hL
 by_cases c1 : (fu_at xs i).f1 = (v : Int)
 ·by_cases c2 : rd E (fu_at xs i).f0 < 0
  ·refine ⟨E, L, 2, by omega, by omega, hE, hL, .inl ⟨rfl, fun _ => .inl c2⟩, fun k => ?_, fun k => ?_⟩
   ·simp only [spec_l10Times.l1, spec_l10Times.j2, rd_fuse, if_pos g1, if_pos g2, if_pos c1, if_pos f0, if_pos fE, decide_eq_true c2, if_true, hw]
   ·simp only [impl_litTimes.l1, impl_litTimes.j2, rd_fuse, if_pos g1, if_pos g2, if_pos c1, if_pos f0, if_pos fE, decide_eq_true c2, if_true, hw]
  ·-- the early time
   by_cases c3 : rd E (v : Int) < 0 ∨ wrap64 (rd E (fu_at xs i).f0 + (fu_at xs i).f2) < rd E (v : Int)
   ·by_cases c4 : rd L (v : Int) < 0 ∨ wrap64 (rd L (fu_at xs i).f0 + (fu_at xs i).f3) < rd L (v : Int)
    ·refine ⟨E.set v (wrap64 (rd E (fu_at xs i).f0 + (fu_at xs i).f2)), L.set v (wrap64 (rd L (fu_at xs i).f0 + (fu_at xs i).f3)), 3, by omega, by omega, lE _, lL _, (.inr ⟨rfl, c1, by omega, c3⟩), fun k => ?_, fun k => ?_⟩
     ·rcases Classical.em (rd E (v : Int) < 0) with d3 | d3 <;> rcases Classical.em (rd L (v : Int) < 0) with d4 | d4 <;>
       simp only [d3, d4, false_or, true_or] at c3 c4 <;>
       simp only [spec_l10Times.l1, spec_l10Times.j2, spec_l10Times.j3, rd_fuse, if_pos g1, if_pos g2, if_pos c1, if_pos f0, if_pos fE, if_pos fL, if_pos vE, if_pos vL, if_pos v0, decide_eq_false c2, d3, d4, c3, c4, decide_true, if_true, if_false, Bool.false_eq_true, hw, et, Option.bind_some]
     ·rcases Classical.em (rd E (v : Int) < 0) with d3 | d3 <;> rcases Classical.em (rd L (v : Int) < 0) with d4 | d4 <;>
       simp only [d3, d4, false_or, true_or] at c3 c4 <;>
       simp only [impl_litTimes.l1, impl_litTimes.j2, impl_litTimes.j3, rd_fuse, if_pos g1, if_pos g2, if_pos c1, if_pos f0, if_pos fE, if_pos fL, if_pos vE, if_pos vL, if_pos v0, decide_eq_false c2, d3, d4, c3, c4, decide_true, if_true, if_false, Bool.false_eq_true, hw, et, Option.bind_some]
    ·rw [not_or] at c4
     refine ⟨E.set v (wrap64 (rd E (fu_at xs i).f0 + (fu_at xs i).f2)), L, 3, by omega, by omega, lE _, hL, (.inr ⟨rfl, c1, by omega, c3⟩), fun k => ?_, fun k => ?_⟩
     ·rcases Classical.em (rd E (v : Int) < 0) with d3 | d3 <;>
       simp only [d3, false_or, true_or] at c3 <;>
       simp only [spec_l10Times.l1, spec_l10Times.j2, spec_l10Times.j3, rd_fuse, if_pos g1, if_pos g2, if_pos c1, if_pos f0, if_pos fE, if_pos fL, if_pos vE, if_pos vL, if_pos v0, decide_eq_false c2, d3, c3, c4.1, c4.2, decide_true, if_true, if_false, Bool.false_eq_true, hw, et, Option.bind_some]
     ·rcases Classical.em (rd E (v : Int) < 0) with d3 | d3 <;>
       simp only [d3, false_or, true_or] at c3 <;>
       simp only [impl_litTimes.l1, impl_litTimes.j2, impl_litTimes.j3, rd_fuse, if_pos g1, if_pos g2, if_pos c1, if_pos f0, if_pos fE, if_pos fL, if_pos vE, if_pos vL, if_pos v0, decide_eq_false c2, d3, c3, c4.1, c4.2, decide_true, if_true, if_false, Bool.false_eq_true, hw, et, Option.bind_some]
   ·rw [not_or] at c3
    by_cases c4 : rd L (v : Int) < 0 ∨ wrap64 (rd L (fu_at xs i).f0 + (fu_at xs i).f3) < rd L (v : Int)
    ·refine ⟨E, L.set v (wrap64 (rd L (fu_at xs i).f0 + (fu_at xs i).f3)), 3, by omega, by omega, hE, lL _, (.inl ⟨rfl, fun _ => .inr (by omega)⟩), fun k => ?_, fun k => ?_⟩
     ·rcases Classical.em (rd L (v : Int) < 0) with d4 | d4 <;>
       simp only [d4, false_or, true_or] at c4 <;>
       simp only [spec_l10Times.l1, spec_l10Times.j2, spec_l10Times.j3, rd_fuse, if_pos g1, if_pos g2, if_pos c1, if_pos f0, if_pos fE, if_pos fL, if_pos vE, if_pos vL, if_pos v0, decide_eq_false c2, c3.1, c3.2, d4, c4, decide_true, decide_false, if_true, if_false, Bool.false_eq_true, hw, et, Option.bind_some]
     ·rcases Classical.em (rd L (v : Int) < 0) with d4 | d4 <;>
       simp only [d4, false_or, true_or] at c4 <;>
       simp only [impl_litTimes.l1, impl_litTimes.j2, impl_litTimes.j3, rd_fuse, if_pos g1, if_pos g2, if_pos c1, if_pos f0, if_pos fE, if_pos fL, if_pos vE, if_pos vL, if_pos v0, decide_eq_false c2, c3.1, c3.2, d4, c4, decide_true, decide_false, if_true, if_false, Bool.false_eq_true, hw, et, Option.bind_some]
    ·rw [not_or] at c4
     refine ⟨E, L, 3, by omega, by omega, hE, hL, (.inl ⟨rfl, fun _ => .inr (by omega)⟩), fun k => ?_, fun k => ?_⟩
     ·simp only [spec_l10Times.l1, spec_l10Times.j2, spec_l10Times.j3, rd_fuse, if_pos g1, if_pos g2, if_pos c1, if_pos f0, if_pos fE, if_pos fL, if_pos vE, if_pos vL, if_pos v0, decide_eq_false c2, c3.1, c3.2, c4.1, c4.2, decide_true, decide_false, if_true, if_false, Bool.false_eq_true, hw, et, Option.bind_some]
     ·simp only [impl_litTimes.l1, impl_litTimes.j2, impl_litTimes.j3, rd_fuse, if_pos g1, if_pos g2, if_pos c1, if_pos f0, if_pos fE, if_pos fL, if_pos vE, if_pos vL, if_pos v0, decide_eq_false c2, c3.1, c3.2, c4.1, c4.2, decide_true, decide_false, if_true, if_false, Bool.false_eq_true, hw, et, Option.bind_some]
 ·refine ⟨E, L, 2, by omega, by omega, hE, hL, .inl ⟨rfl, fun h => absurd h c1⟩, fun k => ?_, fun k => ?_⟩
  ·simp only [spec_l10Times.l1, spec_l10Times.j2, rd_fuse, if_pos g1, if_pos g2, if_neg c1, if_true, hw]
  ·simp only [impl_litTimes.l1, impl_litTimes.j2, rd_fuse, if_pos g1, if_pos g2, if_neg c1, if_true, hw]
theorem rd_set_eq (E : List Int) (v : Nat) (x : Int) (h : v < E.length) : rd (E.set v x) (v : Int) = x := by
 unfold rd
 rw [Int.toNat_natCast, getD_set _ _ _ _ h]
theorem rd_set_ne (E : List Int) (v : Nat) (x u : Int) (h0 : 0 ≤ u) (h : u ≠ (v : Int)) : rd (E.set v x) u = rd E u := by
 unfold rd
 rw [List.getD_eq_getElem?_getD, List.getD_eq_getElem?_getD, List.getElem?_set_ne (by omega)]
def GoodE (xs : List S44) (E : List Int) (u : Int) (n : Nat) : Prop :=
 rd E u ≤ 100000 * u ∧ (∀ j, j < n → (fu_at xs j).f1 = u → 0 ≤ rd E (fu_at xs j).f0 → 0 ≤ rd E u ∧ rd E u ≤ rd E (fu_at xs j).f0 + (fu_at xs j).f2) ∧
  (0 ≤ rd E u → ∃ j, j < n ∧ (fu_at xs j).f1 = u ∧ 0 ≤ rd E (fu_at xs j).f0 ∧ rd E u = rd E (fu_at xs j).f0 + (fu_at xs j).f2)
def FOk (m : Nat) (xs : List S44) : Prop := ∀ i, i < xs.length → 0 ≤ (fu_at xs i).f0 ∧ (fu_at xs i).f0 < (fu_at xs i).f1 ∧ (fu_at xs i).f1 < (m : Int) ∧ 0 ≤ (fu_at xs i).f2 ∧ (fu_at xs i).f2 ≤ 100000
def PE (m : Nat) (xs : List S44) (v : Nat) (E : List Int) : Prop := E.length = m ∧ rd E 0 = 0 ∧ ∀ u : Int, 0 < u → u < (v : Int) → GoodE xs E u xs.length
def QE (m : Nat) (xs : List S44) (v i : Nat) (E : List Int) : Prop := PE m xs v E ∧ GoodE xs E (v : Int) i
theorem good_set {m : Nat} {xs : List S44} (hf : FOk m xs) {E : List Int} {v : Nat} (x : Int) {u : Int} (h0 : 0 ≤ u) (hu : u < (v : Int)) {n : Nat} (hn : n ≤ xs.length) (h : GoodE xs E u n) : GoodE xs (E.set v x) u n := by
 obtain ⟨a, b, c⟩ := h
 have e : ∀ w : Int, 0 ≤ w → w < (v : Int) → rd (E.set v x) w = rd E w := fun w h1 h2 => rd_set_ne E v x w h1 (by omega)
 refine ⟨by rw [e u h0 hu]; exact a, fun j hj h1 h2 => ?_, fun h1 => ?_⟩
 ·have g := hf j (by omega)
  rw [e _ g.1 (by omega)] at h2 ⊢
  rw [e u h0 hu]
  exact b j hj h1 h2
 ·rw [e u h0 hu] at h1 ⊢
  obtain ⟨j, j1, j2, j3, j4⟩ := c h1
  have g := hf j (by omega)
  exact ⟨j, j1, j2, by rw [e _ g.1 (by omega)]; exact j3, by rw [e _ g.1 (by omega)]; exact j4⟩
theorem pe_set {m : Nat} {xs : List S44} (hf : FOk m xs) {E : List Int} {v : Nat} (hv0 : 0 < v) (x : Int) (h : PE m xs v E) : PE m xs v (E.set v x) := by
 obtain ⟨a, b, c⟩ := h
 refine ⟨by rw [List.length_set]; exact a, by rw [rd_set_ne E v x 0 (by omega) (by omega)]; exact b, fun u h1 h2 => good_set hf x (by omega) h2 (Nat.le_refl _) (c u h1 h2)⟩
theorem qe_start {m : Nat} {xs : List S44} (hf : FOk m xs) {E : List Int} {v : Nat} (hv0 : 0 < v) (hv : v < m) (h : PE m xs v E) : QE m xs v 0 (E.set v (-1)) := by
 have e := rd_set_eq E v (-1) (by rw [h.1]; exact hv)
 refine ⟨pe_set hf hv0 _ h, ⟨by rw [e]; omega, fun j hj => absurd hj (by omega), fun h1 => ?_⟩⟩
 rw [e] at h1; omega
theorem qe_end {m : Nat} {xs : List S44} {E : List Int} {v : Nat} (h : QE m xs v xs.length E) : PE m xs (v + 1) E := by
 obtain ⟨⟨a, b, c⟩, d⟩ := h
 refine ⟨a, b, fun u h1 h2 => ?_⟩
 by_cases e : u = (v : Int)
 ·rw [e]; exact d
 ·exact c u h1 (by omega)
theorem qe_step {m : Nat} {xs : List S44} (hf : FOk m xs) (hm : m ≤ 10) {E E' : List Int} {v i : Nat} (hv0 : 0 < v) (hv : v < m) (hi : i < xs.length) (h : QE m xs v i E) (st : StepE xs E E' v i) : QE m xs v (i + 1) E' := by
 have g := hf i hi
 rcases st with ⟨rfl, st⟩ | ⟨rfl, s1, s2, s3⟩
 ·obtain ⟨p, a, b, c⟩ := h
  refine ⟨p, a, fun j hj h1 h2 => ?_, fun h1 => ?_⟩
  ·by_cases e : j = i
   ·subst e
    rcases st h1 with s | s
    ·omega
    ·have hb : rd E' (fu_at xs j).f0 ≤ 1000000 := by
      rcases Int.lt_or_le 0 (fu_at xs j).f0 with z | z
      ·have := (p.2.2 (fu_at xs j).f0 z (by omega)).1
       omega
      ·have z0 : (fu_at xs j).f0 = 0 := by omega
       have := p.2.1
       rw [z0]; omega
     rw [w64 (by omega)] at s
     exact s
   ·exact b j (by omega) h1 h2
  ·obtain ⟨j, j1, j2⟩ := c h1
   exact ⟨j, by omega, j2⟩
 ·obtain ⟨p, a, b, c⟩ := h
  have hb : rd E (fu_at xs i).f0 ≤ 100000 * (fu_at xs i).f0 := by
   rcases Int.lt_or_le 0 (fu_at xs i).f0 with z | z
   ·exact (p.2.2 (fu_at xs i).f0 z (by omega)).1
   ·have z0 : (fu_at xs i).f0 = 0 := by omega
    have := p.2.1
    rw [z0]; omega
  have hw : wrap64 (rd E (fu_at xs i).f0 + (fu_at xs i).f2) = rd E (fu_at xs i).f0 + (fu_at xs i).f2 := w64 (by omega)
  rw [hw] at s3 ⊢
  have e := rd_set_eq E v (rd E (fu_at xs i).f0 + (fu_at xs i).f2) (by rw [p.1]; exact hv)
  have ne : ∀ w : Int, 0 ≤ w → w < (v : Int) → rd (E.set v (rd E (fu_at xs i).f0 + (fu_at xs i).f2)) w = rd E w := fun w h1 h2 => rd_set_ne E v _ w h1 (by omega)
  refine ⟨pe_set hf hv0 _ p, by rw [e]; omega, fun j hj h1 h2 => ?_, fun _ => ⟨i, by omega, s1, ?_, ?_⟩⟩
  ·have gj := hf j (by omega)
   rw [ne _ gj.1 (by omega)] at h2 ⊢
   rw [e]
   by_cases ej : j = i
   ·subst ej; omega
   ·have := b j (by omega) h1 h2
    omega
  ·rw [ne _ g.1 (by omega)]; exact s2
  ·rw [e, ne _ g.1 (by omega)]
theorem timesq_in {m : Nat} {xs : List S44} (hx : xs.length ≤ 20) (hm : m ≤ 10) (hf : FOk m xs) (v : Nat) (h0 : 0 < v) (hv : v < m)
  (hnext : ∀ E L : List Int, E.length = m → L.length = m → PE m xs (v + 1) E → ∃ E' L' : List Int, E'.length = m ∧ L'.length = m ∧ PE m xs m E' ∧ Evt (fun k => spec_l10Times.l0 k (m : Int) xs E L ((v + 1 : Nat) : Int) = some (E', L')) ∧ Evt (fun k => impl_litTimes.l0 k (m : Int) xs E L ((v + 1 : Nat) : Int) = some (E', L'))) :
  ∀ (d i : Nat) (E L : List Int), xs.length - i = d → i ≤ xs.length → E.length = m → L.length = m → QE m xs v i E → ∃ E' L' : List Int, E'.length = m ∧ L'.length = m ∧ PE m xs m E' ∧ Evt (fun k => spec_l10Times.l1 k (m : Int) xs E L (v : Int) (i : Int) = some (E', L')) ∧ Evt (fun k => impl_litTimes.l1 k (m : Int) xs E L (v : Int) xs (xs.length : Int) (i : Int) = some (E', L')) := by
 intro d
 induction d with
 | zero =>
  intro i E L hd hi hE hL hq
  have e : i = xs.length := by omega
  subst e
  obtain ⟨E', L', e1, e2, e3, ⟨K, hs⟩, ⟨K', ht⟩⟩ := hnext E L hE hL (qe_end hq)
  refine ⟨E', L', e1, e2, e3, ⟨K + 1, fun k hk => ?_⟩, ⟨K' + 1, fun k hk => ?_⟩⟩
  ·obtain ⟨k, rfl⟩ : ∃ m, k = m + 1 := ⟨k - 1, by omega⟩
   show spec_l10Times.l1 (k + 1) (m : Int) xs E L (v : Int) (xs.length : Int) = _
   simp only [spec_l10Times.l1]
   rw [if_neg (by omega), w64 (by omega)]
   exact hs k (by omega)
  ·obtain ⟨k, rfl⟩ : ∃ m, k = m + 1 := ⟨k - 1, by omega⟩
   show impl_litTimes.l1 (k + 1) (m : Int) xs E L (v : Int) xs (xs.length : Int) (xs.length : Int) = _
   simp only [impl_litTimes.l1]
   rw [if_neg (by omega), w64 (by omega)]
   exact ht k (by omega)
 | succ d ih =>
  intro i E L hd hi hE hL hq
  have g := hf i (by omega)
  obtain ⟨E1, L1, b, b2, b3, l1, l2, l3, f1, f2⟩ := tstepq hx E L hE hL v i h0 hv (by omega) ⟨g.1, by omega⟩
  obtain ⟨E', L', e1, e2, e3, ⟨K, hs⟩, ⟨K', ht⟩⟩ := ih (i + 1) E1 L1 (by omega) (by omega) l1 l2 (qe_step hf hm h0 hv (by omega) hq l3)
  refine ⟨E', L', e1, e2, e3, ⟨K + b, fun k hk => ?_⟩, ⟨K' + b, fun k hk => ?_⟩⟩
  ·obtain ⟨k, rfl⟩ : ∃ m, k = m + b := ⟨k - b, by omega⟩
   exact (f1 k).trans (hs k (by omega))
  ·obtain ⟨k, rfl⟩ : ∃ m, k = m + b := ⟨k - b, by omega⟩
   exact (f2 k).trans (ht k (by omega))
theorem timesq_out {m : Nat} {xs : List S44} (hx : xs.length ≤ 20) (hm : m ≤ 10) (hf : FOk m xs) :
  ∀ (d v : Nat) (E L : List Int), m - v = d → 0 < v → v ≤ m → E.length = m → L.length = m → PE m xs v E → ∃ E' L' : List Int, E'.length = m ∧ L'.length = m ∧ PE m xs m E' ∧ Evt (fun k => spec_l10Times.l0 k (m : Int) xs E L (v : Int) = some (E', L')) ∧ Evt (fun k => impl_litTimes.l0 k (m : Int) xs E L (v : Int) = some (E', L')) := by
 intro d
 induction d with
 | zero =>
  intro v E L hd hv hvm hE hL hp
  have e : v = m := by omega
  subst e
  refine ⟨E, L, hE, hL, hp, ⟨1, fun k hk => ?_⟩, ⟨1, fun k hk => ?_⟩⟩
  ·obtain ⟨k, rfl⟩ : ∃ m, k = m + 1 := ⟨k - 1, by omega⟩
   show spec_l10Times.l0 (k + 1) (v : Int) xs E L (v : Int) = _
   simp only [spec_l10Times.l0]
   rw [if_neg (by omega)]
  ·obtain ⟨k, rfl⟩ : ∃ m, k = m + 1 := ⟨k - 1, by omega⟩
   show impl_litTimes.l0 (k + 1) (v : Int) xs E L (v : Int) = _
   simp only [impl_litTimes.l0]
   rw [if_neg (by omega)]
 | succ d ih =>
  intro v E L hd hv hvm hE hL hp
  obtain ⟨E', L', e1, e2, e3, ⟨K, hs⟩, ⟨K', ht⟩⟩ := timesq_in hx hm hf v hv (by omega) (fun E L a b c => ih (v + 1) E L (by omega) (by omega) (by omega) a b c) xs.length 0 (E.set v (-1)) (L.set v (-1)) (by omega) (by omega) (by rw [List.length_set]; exact hE) (by rw [List.length_set]; exact hL) (qe_start hf hv (by omega) hp)
  refine ⟨E', L', e1, e2, e3, ⟨K + 1, fun k hk => ?_⟩, ⟨K' + 1, fun k hk => ?_⟩⟩
  ·obtain ⟨k, rfl⟩ : ∃ m, k = m + 1 := ⟨k - 1, by omega⟩
   show spec_l10Times.l0 (k + 1) (m : Int) xs E L (v : Int) = _
   simp only [spec_l10Times.l0]
   rw [if_pos (by omega), if_pos (by omega), if_pos (by omega), if_pos (by omega), Int.toNat_natCast]
   exact hs k (by omega)
  ·obtain ⟨k, rfl⟩ : ∃ m, k = m + 1 := ⟨k - 1, by omega⟩
   show impl_litTimes.l0 (k + 1) (m : Int) xs E L (v : Int) = _
   simp only [impl_litTimes.l0]
   rw [if_pos (by omega), if_pos (by omega), if_pos (by omega), if_pos (by omega), Int.toNat_natCast]
   exact ht k (by omega)
theorem timesq_is {n : Int} {xs : List S44} (h : areFuses n xs = true) : ∃ (m : Nat) (E L : List Int), n = (m : Int) ∧ 1 ≤ m ∧ m ≤ 10 ∧ xs.length ≤ 20 ∧ FOk m xs ∧ E.length = m ∧ L.length = m ∧ PE m xs m E ∧ Evt (fun k => spec_l10Times.f k n xs = some (E, L)) ∧ Evt (fun k => impl_litTimes.f k n xs = some (E, L)) := by
 obtain ⟨m, rfl, h1, h2, h3, h4⟩ := areFuses_true h
 have hf : FOk m xs := fun i hi => by have := h4 i hi; omega
 obtain ⟨E, L, e1, e2, e3, ⟨K, hs⟩, ⟨K', ht⟩⟩ := timesq_out h3 h2 hf (m - 1) 1 (List.replicate m 0) (List.replicate m 0) (by omega) (by omega) (by omega) (by simp) (by simp) ⟨by simp, by cases m <;> rfl, fun u h1 h2 => absurd h2 (by omega)⟩
 refine ⟨m, E, L, rfl, h1, h2, h3, hf, e1, e2, e3, ⟨K, fun k hk => ?_⟩, ⟨K', fun k hk => ?_⟩⟩
 ·show spec_l10Times.f k (m : Int) xs = _
  unfold spec_l10Times.f
  rw [if_pos (by omega), if_pos (by omega), Int.toNat_natCast]
  exact hs k hk
 ·show impl_litTimes.f k (m : Int) xs = _
  unfold impl_litTimes.f
  rw [if_pos (by omega), if_pos (by omega), Int.toNat_natCast]
  exact ht k hk
end Go.Proofs.Ytipgcjonidlloaa.F
namespace Go.Proofs.Ytipgcjonidlloaa.F
open Go.RowKit Go.Proofs.YtipgcjonidlloaaW.PrintWords Go.Proofs.YtipgcjonidlloaaW.PrintLast Go.Proofs.YtipgcjonidlloaaW.PrintMore
set_option linter.unusedVariables false
set_option linter.unusedSimpArgs false
def cdo (E : List Int) (m : Nat) (a : Int) : Int := if inB a 0 ((m : Int) - 1) = true then (if rd E a < 0 then 4 else 0) else 2
theorem spec_code {m : Nat} {xs : List S44} (h : areFuses (m : Int) xs = true) (h1 : 1 ≤ m) (h2 : m ≤ 10) (hx : xs.length ≤ 20) {E L : List Int} (hE : E.length = m) {K : Nat} (hs : ∀ k, K ≤ k → spec_l10Times.f k (m : Int) xs = some (E, L)) (a : Int) (k : Nat) (hk : K + 30 ≤ k) : spec_l10Code.f k (m : Int) xs a = some (cdo E m a) := by
 have hw : wrap64 ((m : Int) - 1) = (m : Int) - 1 := w64 (by omega)
 unfold spec_l10Code.f cdo
 rw [spec_fuses _ xs (by omega) k (by omega), h]
 simp only [Option.bind_some, In_eq, hw, if_true]
 cases g : inB a 0 ((m : Int) - 1) with
 | false => rfl
 | true =>
  rw [inB_true] at g
  simp only [if_true]
  rw [hs k (by omega)]
  simp only [Option.bind_some]
  rw [if_pos (by omega), if_pos (by omega)]
  by_cases c : rd E a < 0
  ·rw [if_pos c, if_pos c]
  ·rw [if_neg c, if_neg c]
theorem impl_code1 {m : Nat} {xs : List S44} (h : areFuses (m : Int) xs = true) (h1 : 1 ≤ m) (h2 : m ≤ 10) (hx : xs.length ≤ 20) {E L : List Int} (hE : E.length = m) {K : Nat} (ht : ∀ k, K ≤ k → impl_litTimes.f k (m : Int) xs = some (E, L)) (a : Int) (k : Nat) (hk : K + 30 ≤ k) : impl_nodeAsked.f k (m : Int) xs [a] = some (cdo E m a) := by
 have hw : wrap64 ((m : Int) - 1) = (m : Int) - 1 := w64 (by omega)
 have w1 : wrap64 (0 + 1) = 1 := w64 (by omega)
 have r0 : rd [a] 0 = a := rfl
 obtain ⟨k, rfl⟩ : ∃ m, k = m + 6 := ⟨k - 6, by omega⟩
 unfold impl_nodeAsked.f cdo
 rw [impl_fuses _ xs (by omega) (k + 6) (by omega), h]
 have l1 : ([a] : List Int).length = 1 := rfl
 simp only [Option.bind_some, if_true, impl_nodeAsked.l0, Wi_eq, hw, l1, w1, r0]
 rw [if_pos (by omega), if_pos (by omega), if_pos (by omega)]
 cases g : inB a 0 ((m : Int) - 1) with
 | false => rfl
 | true =>
  rw [inB_true] at g
  simp only [if_true]
  rw [if_neg (by omega), ht (k + 4) (by omega)]
  simp only [Option.bind_some, impl_nodeAsked.l1, r0, w1, l1]
  rw [if_pos (by omega), if_pos (by omega), if_pos (by omega), if_pos (by omega), if_pos (by omega)]
  by_cases c : rd E a < 0
  ·rw [if_pos c, if_pos c]
  ·rw [if_neg c, if_neg c, if_neg (by omega)]
theorem cdo_in {E : List Int} {m : Nat} {a : Int} (h : cdo E m a = 0) : 0 ≤ a ∧ a < (m : Int) := by
 unfold cdo at h
 by_cases g : inB a 0 ((m : Int) - 1) = true
 ·rw [inB_true] at g; omega
 ·rw [if_neg g] at h; omega
end Go.Proofs.Ytipgcjonidlloaa.F
namespace Go.Proofs.Ytipgcjonidlloaa.F
open Go.RowKit Go.Proofs.YtipgcjonidlloaaW.PrintWords Go.Proofs.YtipgcjonidlloaaW.PrintLast Go.Proofs.YtipgcjonidlloaaW.PrintMore
set_option linter.unusedVariables false
set_option linter.unusedSimpArgs false
def GoodD (m : Nat) (xs : List S44) (t : Int) (D : List Int) (u : Int) (n : Nat) : Prop :=
 rd D u ≤ 100000 * ((m : Int) - u) ∧ (∀ j, j < n → (fu_at xs j).f0 = u → 0 ≤ rd D (fu_at xs j).f1 → 0 ≤ rd D u ∧ rd D u ≤ (fu_at xs j).f2 + rd D (fu_at xs j).f1) ∧
  (0 ≤ rd D u → ∃ j, j < n ∧ (fu_at xs j).f0 = u ∧ 0 ≤ rd D (fu_at xs j).f1 ∧ rd D u = (fu_at xs j).f2 + rd D (fu_at xs j).f1)
def PD (m : Nat) (xs : List S44) (t : Int) (v : Int) (D : List Int) : Prop := D.length = m ∧ (v < t → rd D t = 0) ∧ ∀ u : Int, v < u → u < (m : Int) → u ≠ t → GoodD m xs t D u xs.length
theorem goodD_set {m : Nat} {xs : List S44} (hf : FOk m xs) {t : Int} {D : List Int} {v : Nat} (x : Int) {u : Int} (hu : (v : Int) < u) {n : Nat} (hn : n ≤ xs.length) (h : GoodD m xs t D u n) : GoodD m xs t (D.set v x) u n := by
 obtain ⟨a, b, c⟩ := h
 have e : ∀ w : Int, (v : Int) < w → rd (D.set v x) w = rd D w := fun w h1 => rd_set_ne D v x w (by omega) (by omega)
 refine ⟨by rw [e u hu]; exact a, fun j hj h1 h2 => ?_, fun h1 => ?_⟩
 ·have g := hf j (by omega)
  rw [e _ (by omega)] at h2
  rw [e u hu, e (fu_at xs j).f1 (by omega)]
  exact b j hj h1 h2
 ·rw [e u hu] at h1 ⊢
  obtain ⟨j, j1, j2, j3, j4⟩ := c h1
  have g := hf j (by omega)
  exact ⟨j, j1, j2, by rw [e _ (by omega)]; exact j3, by rw [e _ (by omega)]; exact j4⟩
theorem pd_set {m : Nat} {xs : List S44} (hf : FOk m xs) {t : Int} {D : List Int} {v : Nat} (x : Int) (h : PD m xs t (v : Int) D) : PD m xs t (v : Int) (D.set v x) := by
 obtain ⟨a, b, c⟩ := h
 exact ⟨by rw [List.length_set]; exact a, fun h1 => by rw [rd_set_ne D v x t (by omega) (by omega)]; exact b h1, fun u h1 h2 h3 => goodD_set hf x h1 (Nat.le_refl _) (c u h1 h2 h3)⟩
theorem pd_bound {m : Nat} {xs : List S44} {t : Int} {D : List Int} {v : Int} (h : PD m xs t v D) {u : Int} (h1 : v < u) (h2 : u < (m : Int)) : rd D u ≤ 100000 * ((m : Int) - u) := by
 by_cases e : u = t
 ·rw [e, h.2.1 (by omega)]; omega
 ·exact (h.2.2 u h1 h2 e).1
theorem table_in {m : Nat} (hm : m ≤ 10) {xs : List S44} (hx : xs.length ≤ 20) (hf : FOk m xs) (t : Int) (v : Nat) (hv : v < m) (hvt : (v : Int) ≠ t) : ∀ (d i : Nat) (D : List Int), xs.length - i = d → i ≤ xs.length → PD m xs t (v : Int) D → GoodD m xs t D (v : Int) i →
  ∃ (D' : List Int) (c : Nat), PD m xs t ((v : Int) - 1) D' ∧ ∀ k, impl_FastestWay.l1 (k + c) xs t D (v : Int) xs (xs.length : Int) (i : Int) = impl_FastestWay.l0 k xs t D' ((v : Int) - 1) := by
 intro d
 induction d with
 | zero =>
  intro i D hd hi hp hg
  have e : i = xs.length := by omega
  subst e
  refine ⟨D, 1, ⟨hp.1, fun h => ?_, fun u h1 h2 h3 => ?_⟩, fun k => ?_⟩
  ·exact hp.2.1 (by omega)
  ·by_cases e : u = (v : Int)
   ·rw [e]; exact hg
   ·exact hp.2.2 u (by omega) h2 h3
  ·simp only [impl_FastestWay.l1]
   rw [if_neg (by omega), w64 (by omega)]
 | succ d ih =>
  intro i D hd hi hp hg
  have g := hf i (by omega)
  have hl := hp.1
  have hw : ∀ _ : Unit, wrap64 ((i : Int) + 1) = ((i + 1 : Nat) : Int) := fun _ => w64 (by omega)
  have g1 : (i : Int) < (xs.length : Int) := by omega
  have g2 : 0 ≤ (i : Int) := by omega
  by_cases c1 : (fu_at xs i).f0 = (v : Int)
  ·have hb := pd_bound hp (u := (fu_at xs i).f1) (by omega) g.2.2.1
   by_cases c2 : rd D (fu_at xs i).f1 ≥ 0
   ·have hs : ∀ _ : Unit, wrap64 ((fu_at xs i).f2 + rd D (fu_at xs i).f1) = (fu_at xs i).f2 + rd D (fu_at xs i).f1 := fun _ => w64 (by omega)
    by_cases c3 : rd D (v : Int) < 0 ∨ (fu_at xs i).f2 + rd D (fu_at xs i).f1 < rd D (v : Int)
    ·-- a better one
     have e := rd_set_eq D v ((fu_at xs i).f2 + rd D (fu_at xs i).f1) (by omega)
     have ne : ∀ w : Int, (v : Int) < w → rd (D.set v ((fu_at xs i).f2 + rd D (fu_at xs i).f1)) w = rd D w := fun w h1 => rd_set_ne D v _ w (by omega) (by omega)
     obtain ⟨D', c, p1, p2⟩ := ih (i + 1) (D.set v ((fu_at xs i).f2 + rd D (fu_at xs i).f1)) (by omega) (by omega) (pd_set hf _ hp) (by
      refine ⟨by rw [e]; omega, fun j hj h1 h2 => ?_, fun _ => ⟨i, by omega, c1, by rw [ne _ (by omega)]; exact c2, by rw [e, ne _ (by omega)]⟩⟩
      have gj := hf j (by omega)
      rw [ne (fu_at xs j).f1 (by omega)] at h2 ⊢
      rw [e]
      by_cases ej : j = i
      ·subst ej; omega
      ·have := hg.2.1 j (by omega) h1 h2
       omega)
     refine ⟨D', c + 2, p1, fun k => ?_⟩
     rw [← p2 k, show k + (c + 2) = (k + c) + 2 by omega]
     have a1 : 0 ≤ (fu_at xs i).f1 := by omega
     have a2 : (fu_at xs i).f1 < (D.length : Int) := by omega
     have a3 : 0 ≤ (v : Int) := by omega
     have a4 : (v : Int) < (D.length : Int) := by omega
     rcases Classical.em (rd D (v : Int) < 0) with d3 | d3
     ·simp only [impl_FastestWay.l1, impl_FastestWay.j2, rd_fuse, if_pos g1, if_pos g2, if_pos c1, if_pos a1, if_pos a2, if_pos a3, if_pos a4, decide_eq_true c2, d3, hs (), if_true, hw (), Int.toNat_natCast]
     ·simp only [d3, false_or] at c3
      simp only [impl_FastestWay.l1, impl_FastestWay.j2, rd_fuse, if_pos g1, if_pos g2, if_pos c1, if_pos a1, if_pos a2, if_pos a3, if_pos a4, decide_eq_true c2, d3, c3, hs (), if_true, if_false, hw (), Int.toNat_natCast]
    ·rw [not_or] at c3
     obtain ⟨D', c, p1, p2⟩ := ih (i + 1) D (by omega) (by omega) hp (by
      obtain ⟨a, b, c⟩ := hg
      refine ⟨a, fun j hj h1 h2 => ?_, fun h1 => ?_⟩
      ·by_cases ej : j = i
       ·subst ej; omega
       ·exact b j (by omega) h1 h2
      ·obtain ⟨j, j1, j2⟩ := c h1
       exact ⟨j, by omega, j2⟩)
     refine ⟨D', c + 2, p1, fun k => ?_⟩
     rw [← p2 k, show k + (c + 2) = (k + c) + 2 by omega]
     have a1 : 0 ≤ (fu_at xs i).f1 := by omega
     have a2 : (fu_at xs i).f1 < (D.length : Int) := by omega
     have a3 : 0 ≤ (v : Int) := by omega
     have a4 : (v : Int) < (D.length : Int) := by omega
     simp only [impl_FastestWay.l1, impl_FastestWay.j2, rd_fuse, if_pos g1, if_pos g2, if_pos c1, if_pos a1, if_pos a2, if_pos a3, if_pos a4, decide_eq_true c2, c3.1, c3.2, hs (), if_true, if_false, hw ()]
   ·obtain ⟨D', c, p1, p2⟩ := ih (i + 1) D (by omega) (by omega) hp (by
     obtain ⟨a, b, c⟩ := hg
     refine ⟨a, fun j hj h1 h2 => ?_, fun h1 => ?_⟩
     ·by_cases ej : j = i
      ·subst ej; exact absurd h2 c2
      ·exact b j (by omega) h1 h2
     ·obtain ⟨j, j1, j2⟩ := c h1
      exact ⟨j, by omega, j2⟩)
    refine ⟨D', c + 2, p1, fun k => ?_⟩
    rw [← p2 k, show k + (c + 2) = (k + c) + 2 by omega]
    have a1 : 0 ≤ (fu_at xs i).f1 := by omega
    have a2 : (fu_at xs i).f1 < (D.length : Int) := by omega
    simp only [impl_FastestWay.l1, impl_FastestWay.j2, rd_fuse, if_pos g1, if_pos g2, if_pos c1, if_pos a1, if_pos a2, decide_eq_false c2, Bool.false_eq_true, if_false, hw ()]
  ·obtain ⟨D', c, p1, p2⟩ := ih (i + 1) D (by omega) (by omega) hp (by
    obtain ⟨a, b, c⟩ := hg
    refine ⟨a, fun j hj h1 h2 => ?_, fun h1 => ?_⟩
    ·by_cases ej : j = i
     ·subst ej; exact absurd h1 c1
     ·exact b j (by omega) h1 h2
    ·obtain ⟨j, j1, j2⟩ := c h1
     exact ⟨j, by omega, j2⟩)
   refine ⟨D', c + 2, p1, fun k => ?_⟩
   rw [← p2 k, show k + (c + 2) = (k + c) + 2 by omega]
   simp only [impl_FastestWay.l1, impl_FastestWay.j2, rd_fuse, if_pos g1, if_pos g2, if_neg c1, Bool.false_eq_true, if_false, hw ()]
theorem table_out {m : Nat} (hm : m ≤ 10) {xs : List S44} (hx : xs.length ≤ 20) (hf : FOk m xs) (t : Int) : ∀ (n : Nat) (D : List Int), n ≤ m → PD m xs t ((n : Int) - 1) D →
  ∃ (D' : List Int) (c : Nat), PD m xs t (-1) D' ∧ ∀ k, impl_FastestWay.l0 (k + c) xs t D ((n : Int) - 1) = impl_FastestWay.l2 k xs t D' ([] : List Int) 0 := by
 intro n
 induction n with
 | zero =>
  intro D hn hp
  refine ⟨D, 1, hp, fun k => ?_⟩
  simp only [impl_FastestWay.l0]
  rw [if_neg (by omega)]
 | succ v ih =>
  intro D hn hp
  have ev : ((v + 1 : Nat) : Int) - 1 = (v : Int) := by omega
  rw [ev] at hp ⊢
  have hl := hp.1
  by_cases c : (v : Int) = t
  ·-- the target
   obtain ⟨D', k0, p1, p2⟩ := ih ((D.set v (-1)).set v 0) (by omega) (by
    have q := pd_set hf 0 (pd_set hf (-1) hp)
    refine ⟨q.1, fun h => ?_, fun u h1 h2 h3 => q.2.2 u (by omega) h2 h3⟩
    rw [← c]
    exact rd_set_eq _ v 0 (by rw [List.length_set]; omega))
   refine ⟨D', k0 + 1, p1, fun k => ?_⟩
   rw [← p2 k, show k + (k0 + 1) = (k + k0) + 1 by omega]
   simp only [impl_FastestWay.l0, Option.bind_some, Int.toNat_natCast]
   rw [if_pos (by omega), if_pos (by omega), if_pos (by omega), if_pos c, w64 (by omega)]
  ·obtain ⟨D1, k1, q1, q2⟩ := table_in hm hx hf t v (by omega) c xs.length 0 (D.set v (-1)) (by omega) (by omega) (pd_set hf _ hp) (by
    have e := rd_set_eq D v (-1) (by omega)
    exact ⟨by rw [e]; omega, fun j hj => absurd hj (by omega), fun h => by rw [e] at h; omega⟩)
   obtain ⟨D', k0, p1, p2⟩ := ih D1 (by omega) q1
   refine ⟨D', k0 + k1 + 1, p1, fun k => ?_⟩
   rw [← p2 k, ← q2 (k + k0), show k + (k0 + k1 + 1) = (k + k0 + k1) + 1 by omega]
   simp only [impl_FastestWay.l0, Option.bind_some, Int.toNat_natCast]
   rw [if_pos (by omega), if_pos (by omega), if_pos (by omega), if_neg c]
   rfl
theorem behind {m : Nat} {xs : List S44} (hf : FOk m xs) {t : Int} {D : List Int} (h : PD m xs t (-1) D) : ∀ (d : Nat) (u : Int), (m : Int) - u ≤ (d : Int) → t < u → 0 ≤ u → u < (m : Int) → rd D u < 0
 | 0, u, hd, _, _, hu => absurd hu (by omega)
 | d + 1, u, hd, ht, h0, hu => by
  rcases Int.lt_or_le (rd D u) 0 with z | z
  ·exact z
  ·obtain ⟨j, j1, j2, j3, j4⟩ := (h.2.2 u (by omega) hu (by omega)).2.2 z
   have g := hf j (by omega)
   have := behind hf h d (fu_at xs j).f1 (by omega) (by omega) (by omega) g.2.2.1
   omega
theorem way_none {m : Nat} (hm : m ≤ 10) {xs : List S44} (hx : xs.length ≤ 20) (hf : FOk m xs) {t : Int} (ht : 0 ≤ t ∧ t < (m : Int)) {D : List Int} (h : PD m xs t (-1) D) : ∀ (d : Nat) (u T : Int), (m : Int) - u ≤ (d : Int) → 0 ≤ u → u < (m : Int) → 0 ≤ T → T ≤ 100000000 → (rd D u < 0 ∨ T < rd D u) → Evt (fun k => spec_l10Way.f k xs u t T = some ([], false))
 | 0, u, T, hd, h0, hu, _, _, _ => absurd hu (by omega)
 | d + 1, u, T, hd, h0, hu, hT0, hT1, hD => by
  have hut : u ≠ t := fun e => by
   have := h.2.1 (by omega)
   rw [e] at hD; omega
  have loop : ∀ (n i : Nat), xs.length - i = n → i ≤ xs.length → Evt (fun k => spec_l10Way.l0 k xs u t T (i : Int) = some ([], false)) := by
   intro n
   induction n with
   | zero =>
    intro i hn hi
    refine ⟨1, fun k hk => ?_⟩
    show spec_l10Way.l0 k xs u t T (i : Int) = _
    obtain ⟨k, rfl⟩ : ∃ m, k = m + 1 := ⟨k - 1, by omega⟩
    simp only [spec_l10Way.l0]
    rw [if_neg (by omega)]
   | succ n ih =>
    intro i hn hi
    have g := hf i (by omega)
    have hw : ∀ _ : Unit, wrap64 ((i : Int) + 1) = ((i + 1 : Nat) : Int) := fun _ => w64 (by omega)
    have g1 : (i : Int) < (xs.length : Int) := by omega
    have g2 : 0 ≤ (i : Int) := by omega
    obtain ⟨K, hK⟩ := ih (i + 1) (by omega) (by omega)
    by_cases c1 : (fu_at xs i).f0 = u
    ·by_cases c2 : (fu_at xs i).f1 > t
     ·refine ⟨K + 2, fun k hk => ?_⟩
      show spec_l10Way.l0 k xs u t T (i : Int) = _
      obtain ⟨k, rfl⟩ : ∃ m, k = m + 2 := ⟨k - 2, by omega⟩
      simp only [spec_l10Way.l0, spec_l10Way.j1, rd_fuse, if_pos g1, if_pos g2, if_pos c1, if_pos c2, if_true, hw ()]
      exact hK k (by omega)
     ·by_cases c3 : (fu_at xs i).f2 > T
      ·refine ⟨K + 2, fun k hk => ?_⟩
       show spec_l10Way.l0 k xs u t T (i : Int) = _
       obtain ⟨k, rfl⟩ : ∃ m, k = m + 2 := ⟨k - 2, by omega⟩
       simp only [spec_l10Way.l0, spec_l10Way.j1, rd_fuse, if_pos g1, if_pos g2, if_pos c1, if_neg c2, decide_eq_true c3, if_true, hw ()]
       exact hK k (by omega)
      ·have gd := h.2.2 u (by omega) hu hut
       obtain ⟨K', hK'⟩ := way_none hm hx hf ht h d (fu_at xs i).f1 (T - (fu_at xs i).f2) (by omega) (by omega) (by omega) (by omega) (by omega) (by
        rcases Int.lt_or_le (rd D (fu_at xs i).f1) 0 with z | z
        ·exact .inl z
        ·have := gd.2.1 i (by omega) c1 z
         omega)
       refine ⟨K + K' + 2, fun k hk => ?_⟩
       show spec_l10Way.l0 k xs u t T (i : Int) = _
       obtain ⟨k, rfl⟩ : ∃ m, k = m + 2 := ⟨k - 2, by omega⟩
       have hs : wrap64 (T - (fu_at xs i).f2) = T - (fu_at xs i).f2 := w64 (by omega)
       simp only [spec_l10Way.l0, spec_l10Way.j1, rd_fuse, if_pos g1, if_pos g2, if_pos c1, if_neg c2, decide_eq_false c3, Bool.false_eq_true, if_false, hw (), hs]
       rw [show spec_l10Way.f k xs (fu_at xs i).f1 t (T - (fu_at xs i).f2) = _ from hK' k (by omega)]
       simp only [Option.bind_some, Bool.false_eq_true, if_false]
       exact hK k (by omega)
    ·refine ⟨K + 2, fun k hk => ?_⟩
     show spec_l10Way.l0 k xs u t T (i : Int) = _
     obtain ⟨k, rfl⟩ : ∃ m, k = m + 2 := ⟨k - 2, by omega⟩
     simp only [spec_l10Way.l0, spec_l10Way.j1, rd_fuse, if_pos g1, if_pos g2, if_neg c1, if_true, hw ()]
     exact hK k (by omega)
  obtain ⟨K, hK⟩ := loop xs.length 0 (by omega) (by omega)
  refine ⟨K + 1, fun k hk => ?_⟩
  show spec_l10Way.f k xs u t T = _
  obtain ⟨k, rfl⟩ : ∃ m, k = m + 1 := ⟨k - 1, by omega⟩
  simp only [spec_l10Way.f]
  rw [if_neg hut]
  exact hK k (by omega)
theorem way_some {m : Nat} (hm : m ≤ 10) {xs : List S44} (hx : xs.length ≤ 20) (hf : FOk m xs) {t : Int} (ht : 0 ≤ t ∧ t < (m : Int)) {D : List Int} (h : PD m xs t (-1) D) : ∀ (d : Nat) (u : Int), (m : Int) - u ≤ (d : Int) → d ≤ 100 → 0 ≤ u → u < (m : Int) → 0 ≤ rd D u →
  ∃ p : List Int, p.length ≤ d ∧ Evt (fun k => spec_l10Way.f k xs u t (rd D u) = some (p, true)) ∧ Evt (fun k => ∀ X : List Int, X.length + d ≤ 1000 → impl_FastestWay.l2 k xs t D X u = some (X ++ p, 0))
 | 0, u, hd, hd1, h0, hu, _ => absurd hu (by omega)
 | d + 1, u, hd, hd1, h0, hu, hD => by
  have hl := h.1
  by_cases hut : u = t
  ·have e0 : rd D u = 0 := by rw [hut]; exact h.2.1 (by omega)
   refine ⟨[], by simp, ⟨1, fun k hk => ?_⟩, ⟨1, fun k hk => ?_⟩⟩
   ·show spec_l10Way.f k xs u t (rd D u) = _
    obtain ⟨k, rfl⟩ : ∃ m, k = m + 1 := ⟨k - 1, by omega⟩
    simp only [spec_l10Way.f]
    rw [if_pos hut, e0]
    rfl
   ·intro X hX
    obtain ⟨k, rfl⟩ : ∃ m, k = m + 1 := ⟨k - 1, by omega⟩
    simp only [impl_FastestWay.l2]
    rw [if_pos hut, List.append_nil]
  ·have gd := h.2.2 u (by omega) hu hut
   have hbd := pd_bound h (u := u) (by omega) hu
   have loop : ∀ (n i : Nat), xs.length - i = n → i ≤ xs.length → (∃ j, i ≤ j ∧ j < xs.length ∧ (fu_at xs j).f0 = u ∧ 0 ≤ rd D (fu_at xs j).f1 ∧ rd D u = (fu_at xs j).f2 + rd D (fu_at xs j).f1) →
     ∃ p : List Int, p.length ≤ d + 1 ∧ Evt (fun k => spec_l10Way.l0 k xs u t (rd D u) (i : Int) = some (p, true)) ∧ Evt (fun k => ∀ X : List Int, X.length + (d + 1) ≤ 1000 → impl_FastestWay.l3 k xs t D X u xs (xs.length : Int) (i : Int) = some (X ++ p, 0)) := by
    intro n
    induction n with
    | zero =>
     intro i hn hi ⟨j, j1, j2, _⟩
     exact absurd j2 (by omega)
    | succ n ih =>
     intro i hn hi hj
     have g := hf i (by omega)
     have hw : ∀ _ : Unit, wrap64 ((i : Int) + 1) = ((i + 1 : Nat) : Int) := fun _ => w64 (by omega)
     have g1 : (i : Int) < (xs.length : Int) := by omega
     have g2 : 0 ≤ (i : Int) := by omega
     have a1 : 0 ≤ (fu_at xs i).f1 := by omega
     have a2 : (fu_at xs i).f1 < (D.length : Int) := by omega
     have a4 : u < (D.length : Int) := by omega
     by_cases hit : (fu_at xs i).f0 = u ∧ 0 ≤ rd D (fu_at xs i).f1 ∧ rd D u = (fu_at xs i).f2 + rd D (fu_at xs i).f1
     ·obtain ⟨c1, c2, c3⟩ := hit
      have c4 : ¬ (fu_at xs i).f1 > t := fun z => by
       have := behind hf h m (fu_at xs i).f1 (by omega) z (by omega) g.2.2.1
       omega
      have c5 : ¬ (fu_at xs i).f2 > rd D u := by omega
      obtain ⟨p, p0, ⟨K, hK⟩, ⟨K', hK'⟩⟩ := way_some hm hx hf ht h d (fu_at xs i).f1 (by omega) (by omega) (by omega) g.2.2.1 c2
      refine ⟨(i : Int) :: p, by rw [List.length_cons]; omega, ⟨K + 2, fun k hk => ?_⟩, ⟨K' + 1, fun k hk => ?_⟩⟩
      ·show spec_l10Way.l0 k xs u t (rd D u) (i : Int) = _
       obtain ⟨k, rfl⟩ : ∃ m, k = m + 2 := ⟨k - 2, by omega⟩
       have hs : wrap64 (rd D u - (fu_at xs i).f2) = rd D (fu_at xs i).f1 := by rw [w64 (by omega)]; omega
       simp only [spec_l10Way.l0, spec_l10Way.j1, rd_fuse, if_pos g1, if_pos g2, if_pos c1, if_neg c4, decide_eq_false c5, Bool.false_eq_true, if_false, hs]
       rw [show spec_l10Way.f k xs (fu_at xs i).f1 t (rd D (fu_at xs i).f1) = _ from hK k (by omega)]
       simp only [Option.bind_some, if_true]
       rw [if_pos (by show ([(i : Int)] : List Int).length + _ < _; simp only [List.length_cons, List.length_nil]; omega)]
       rfl
      ·intro X hX
       obtain ⟨k, rfl⟩ : ∃ m, k = m + 1 := ⟨k - 1, by omega⟩
       have hs : wrap64 ((fu_at xs i).f2 + rd D (fu_at xs i).f1) = rd D u := by rw [w64 (by omega)]; omega
       have e := hK' k (by omega) (X ++ [(i : Int)]) (by rw [List.length_append, List.length_singleton]; omega)
       simp only [impl_FastestWay.l3, rd_fuse, if_pos g1, if_pos g2, if_pos c1, if_pos a1, if_pos a2, if_pos (show rd D (fu_at xs i).f1 ≥ 0 from c2), if_pos h0, if_pos a4, hs, if_true]
       rw [if_pos (by omega), e, List.append_assoc]
       rfl
     ·obtain ⟨p, p0, ⟨K, hK⟩, ⟨K', hK'⟩⟩ := ih (i + 1) (by omega) (by omega) (by
       obtain ⟨j, j1, j2, j3, j4, j5⟩ := hj
       refine ⟨j, ?_, j2, j3, j4, j5⟩
       rcases Nat.eq_or_lt_of_le j1 with e | e
       ·subst e; exact absurd ⟨j3, j4, j5⟩ hit
       ·exact e)
      by_cases c1 : (fu_at xs i).f0 = u
      ·refine ⟨p, p0, ?_, ?_⟩
       ·by_cases c2 : (fu_at xs i).f1 > t
        ·refine ⟨K + 2, fun k hk => ?_⟩
         show spec_l10Way.l0 k xs u t (rd D u) (i : Int) = _
         obtain ⟨k, rfl⟩ : ∃ m, k = m + 2 := ⟨k - 2, by omega⟩
         simp only [spec_l10Way.l0, spec_l10Way.j1, rd_fuse, if_pos g1, if_pos g2, if_pos c1, if_pos c2, if_true, hw ()]
         exact hK k (by omega)
        ·by_cases c3 : (fu_at xs i).f2 > rd D u
         ·refine ⟨K + 2, fun k hk => ?_⟩
          show spec_l10Way.l0 k xs u t (rd D u) (i : Int) = _
          obtain ⟨k, rfl⟩ : ∃ m, k = m + 2 := ⟨k - 2, by omega⟩
          simp only [spec_l10Way.l0, spec_l10Way.j1, rd_fuse, if_pos g1, if_pos g2, if_pos c1, if_neg c2, decide_eq_true c3, if_true, hw ()]
          exact hK k (by omega)
         ·obtain ⟨K2, hK2⟩ := way_none hm hx hf ht h m (fu_at xs i).f1 (rd D u - (fu_at xs i).f2) (by omega) (by omega) g.2.2.1 (by omega) (by omega) (by
           rcases Int.lt_or_le (rd D (fu_at xs i).f1) 0 with z | z
           ·exact .inl z
           ·have := gd.2.1 i (by omega) c1 z
            have : ¬ rd D u = (fu_at xs i).f2 + rd D (fu_at xs i).f1 := fun e => hit ⟨c1, z, e⟩
            omega)
          refine ⟨K + K2 + 2, fun k hk => ?_⟩
          show spec_l10Way.l0 k xs u t (rd D u) (i : Int) = _
          obtain ⟨k, rfl⟩ : ∃ m, k = m + 2 := ⟨k - 2, by omega⟩
          have hs : wrap64 (rd D u - (fu_at xs i).f2) = rd D u - (fu_at xs i).f2 := w64 (by omega)
          simp only [spec_l10Way.l0, spec_l10Way.j1, rd_fuse, if_pos g1, if_pos g2, if_pos c1, if_neg c2, decide_eq_false c3, Bool.false_eq_true, if_false, hw (), hs]
          rw [show spec_l10Way.f k xs (fu_at xs i).f1 t (rd D u - (fu_at xs i).f2) = _ from hK2 k (by omega)]
          simp only [Option.bind_some, Bool.false_eq_true, if_false]
          exact hK k (by omega)
       ·refine ⟨K' + 1, fun k hk => ?_⟩
        intro X hX
        obtain ⟨k, rfl⟩ : ∃ m, k = m + 1 := ⟨k - 1, by omega⟩
        by_cases c2 : rd D (fu_at xs i).f1 ≥ 0
        ·have hb1 := pd_bound h (u := (fu_at xs i).f1) (by omega) g.2.2.1
         have hs : wrap64 ((fu_at xs i).f2 + rd D (fu_at xs i).f1) = (fu_at xs i).f2 + rd D (fu_at xs i).f1 := w64 (by omega)
         have c3 : ¬ (fu_at xs i).f2 + rd D (fu_at xs i).f1 = rd D u := fun e => hit ⟨c1, c2, e.symm⟩
         simp only [impl_FastestWay.l3, rd_fuse, if_pos g1, if_pos g2, if_pos c1, if_pos a1, if_pos a2, if_pos c2, if_pos h0, if_pos a4, hs, if_neg c3, hw ()]
         exact hK' k (by omega) X hX
        ·simp only [impl_FastestWay.l3, rd_fuse, if_pos g1, if_pos g2, if_pos c1, if_pos a1, if_pos a2, if_neg c2, hw ()]
         exact hK' k (by omega) X hX
      ·refine ⟨p, p0, ⟨K + 2, fun k hk => ?_⟩, ⟨K' + 1, fun k hk => ?_⟩⟩
       ·show spec_l10Way.l0 k xs u t (rd D u) (i : Int) = _
        obtain ⟨k, rfl⟩ : ∃ m, k = m + 2 := ⟨k - 2, by omega⟩
        simp only [spec_l10Way.l0, spec_l10Way.j1, rd_fuse, if_pos g1, if_pos g2, if_neg c1, if_true, hw ()]
        exact hK k (by omega)
       ·intro X hX
        obtain ⟨k, rfl⟩ : ∃ m, k = m + 1 := ⟨k - 1, by omega⟩
        simp only [impl_FastestWay.l3, rd_fuse, if_pos g1, if_pos g2, if_neg c1, hw ()]
        exact hK' k (by omega) X hX
   obtain ⟨j, j1, j2⟩ := gd.2.2 hD
   obtain ⟨p, p0, ⟨K, hK⟩, ⟨K', hK'⟩⟩ := loop xs.length 0 (by omega) (by omega) ⟨j, by omega, j1, j2⟩
   refine ⟨p, p0, ⟨K + 1, fun k hk => ?_⟩, ⟨K' + 1, fun k hk => ?_⟩⟩
   ·show spec_l10Way.f k xs u t (rd D u) = _
    obtain ⟨k, rfl⟩ : ∃ m, k = m + 1 := ⟨k - 1, by omega⟩
    simp only [spec_l10Way.f]
    rw [if_neg hut]
    exact hK k (by omega)
   ·intro X hX
    obtain ⟨k, rfl⟩ : ∃ m, k = m + 1 := ⟨k - 1, by omega⟩
    simp only [impl_FastestWay.l2]
    rw [if_neg hut]
    exact hK' k (by omega) X hX
theorem table_le {m : Nat} {xs : List S44} (hf : FOk m xs) {t : Int} {D E : List Int} (h : PD m xs t (-1) D) (hE : PE m xs m E) : ∀ (d : Nat) (v : Int), v ≤ (d : Int) → 0 ≤ v → v ≤ t → v < (m : Int) → 0 ≤ rd E v → 0 ≤ rd D v → 0 ≤ rd D 0 ∧ rd D 0 ≤ rd E v + rd D v
 | 0, v, hd, h0, _, _, _, hD => by
  have e : v = 0 := by omega
  have := hE.2.1
  subst e
  omega
 | d + 1, v, hd, h0, hvt, hvm, hEv, hD => by
  by_cases e : v = 0
  ·have := hE.2.1
   subst e
   omega
  ·obtain ⟨j, j1, j2, j3, j4⟩ := (hE.2.2 v (by omega) (by omega)).2.2 hEv
   have g := hf j (by omega)
   have := (h.2.2 (fu_at xs j).f0 (by omega) (by omega) (by omega)).2.1 j j1 rfl (by rw [j2]; exact hD)
   rw [j2] at this
   have := table_le hf h hE d (fu_at xs j).f0 (by omega) g.1 (by omega) (by omega) j3 this.1
   omega
theorem times_le {m : Nat} {xs : List S44} (hf : FOk m xs) {t : Int} {D E : List Int} (h : PD m xs t (-1) D) (hE : PE m xs m E) : ∀ (d : Nat) (v : Int), (m : Int) - v ≤ (d : Int) → 0 ≤ v → v < (m : Int) → 0 ≤ rd E v → 0 ≤ rd D v → 0 ≤ t → rd E t ≤ rd E v + rd D v
 | 0, v, hd, h0, hv, _, _, _ => absurd hv (by omega)
 | d + 1, v, hd, h0, hvm, hEv, hD, ht => by
  by_cases e : v = t
  ·rw [e]
   have := h.2.1 (by omega)
   omega
  ·obtain ⟨j, j1, j2, j3, j4⟩ := (h.2.2 v (by omega) hvm e).2.2 hD
   have g := hf j (by omega)
   have := (hE.2.2 (fu_at xs j).f1 (by omega) (by omega)).2.1 j j1 rfl (by rw [j2]; exact hEv)
   rw [j2] at this
   have := times_le hf h hE d (fu_at xs j).f1 (by omega) (by omega) (by omega) this.1 j3 ht
   omega
theorem main_FnExactFastestWay (a0 : Int) (M0 : List S44) (a2 : Int) (_ : I64 a0) (hM : M0.length ≤ 1000000) (hP : ∀ x ∈ M0, PrI44 x) (_ : I64 a2) :
  ∃ q1 q2, q1.length ≤ 3000000 ∧ Evt (fun k => spec_FastestWay.f k a0 M0 a2 = some (q1, q2)) ∧ Evt (fun k => impl_FastestWay.f k a0 M0 a2 = some (q1, q2)) := by
 cases h : areFuses a0 M0 with
 | false =>
  refine ⟨[], 1, by simp, ⟨M0.length + 4, fun k hk => ?_⟩, ⟨M0.length + 4, fun k hk => ?_⟩⟩
  ·show spec_FastestWay.f k a0 M0 a2 = _
   unfold spec_FastestWay.f spec_l10Code.f
   rw [spec_fuses a0 M0 (by omega) k (by omega), h]; rfl
  ·show impl_FastestWay.f k a0 M0 a2 = _
   unfold impl_FastestWay.f impl_nodeAsked.f
   rw [impl_fuses a0 M0 (by omega) k (by omega), h]; rfl
 | true =>
  obtain ⟨m, E, L, rfl, m1, m2, hx, hf, hE, hL, pE, ⟨K, hs⟩, ⟨K', ht⟩⟩ := timesq_is h
  by_cases c : cdo E m a2 = 0
  ·have ha := cdo_in c
   have he : 0 ≤ rd E a2 := by
    unfold cdo at c
    rw [if_pos (inB_true.2 (by omega))] at c
    by_cases z : rd E a2 < 0
    ·rw [if_pos z] at c; omega
    ·omega
   obtain ⟨D, c0, pD, hD⟩ := table_out m2 hx hf a2 m (List.replicate m 0) (Nat.le_refl _) ⟨by simp, fun z => absurd z (by omega), fun u h1 h2 => absurd h2 (by omega)⟩
   have d0 := pD.2.1 (by omega)
   have t1 := table_le hf pD pE m a2 (by omega) ha.1 (Int.le_refl _) ha.2 he (by omega)
   have t2 := times_le hf pD pE m 0 (by omega) (by omega) (by omega) (by have := pE.2.1; omega) t1.1 ha.1
   have e0 : rd E a2 = rd D 0 := by have := pE.2.1; omega
   obtain ⟨p, p0, ⟨J, hJ⟩, ⟨J', hJ'⟩⟩ := way_some m2 hx hf ha pD m 0 (by omega) (by omega) (by omega) (by omega) t1.1
   refine ⟨p, 0, by omega, ⟨K + J + 40, fun k hk => ?_⟩, ⟨K' + J' + c0 + 40, fun k hk => ?_⟩⟩
   ·show spec_FastestWay.f k (m : Int) M0 a2 = _
    unfold spec_FastestWay.f
    rw [spec_code h m1 m2 hx hE hs a2 k (by omega), c]
    simp only [Option.bind_some, if_true]
    rw [hs k (by omega)]
    simp only [Option.bind_some]
    rw [if_pos ha.1, if_pos (by omega), e0, show spec_l10Way.f k M0 0 a2 (rd D 0) = _ from hJ k (by omega)]
    rfl
   ·show impl_FastestWay.f k (m : Int) M0 a2 = _
    unfold impl_FastestWay.f
    rw [impl_code1 h m1 m2 hx hE ht a2 k (by omega), c]
    simp only [Option.bind_some, if_true]
    obtain ⟨k, rfl⟩ : ∃ n, k = n + c0 := ⟨k - c0, by omega⟩
    rw [if_pos (by omega), if_pos (by omega), Int.toNat_natCast, w64 (by omega), hD k]
    exact hJ' k (by omega) [] (by simp only [List.length_nil]; omega)
  ·refine ⟨[], cdo E m a2, by simp, ⟨K + 40, fun k hk => ?_⟩, ⟨K' + 40, fun k hk => ?_⟩⟩
   ·show spec_FastestWay.f k (m : Int) M0 a2 = _
    unfold spec_FastestWay.f
    rw [spec_code h m1 m2 hx hE hs a2 k (by omega)]
    simp only [Option.bind_some]
    rw [if_neg c]
   ·show impl_FastestWay.f k (m : Int) M0 a2 = _
    unfold impl_FastestWay.f
    rw [impl_code1 h m1 m2 hx hE ht a2 k (by omega)]
    simp only [Option.bind_some]
    rw [if_neg c]
theorem pure_FnExactFastestWay : Pure_FnExactFastestWay := by
 intro a0 l1 a2 b0 n1 p1 b2
 rcases sz_FuseS l1 (1000000) (by omega) (by omega) n1 with ⟨z1, s1⟩ | s1
 rotate_left
 ·exact ⟨0, ⟨-1, s1, Or.inl (by omega)⟩⟩
 obtain ⟨L1, t1, ne1, tk1, ln1, le1, rm1, jn1, fu1, to1⟩ := to_FuseS l1 (by omega)
 have eq1 := eq_FuseS L1 (by omega)
 obtain ⟨q1, q2, ql, sp, im⟩ := main_FnExactFastestWay a0 (l1.map conv_FuseS) a2 b0 (by rw [ln1]; omega) (prc_FuseS p1) b2
 have er := eq_Int64S q1 (by omega)
 have mk1 := mark_FuseS (l1.map conv_FuseS) (101) (by omega) (by omega) (by omega)
 have mg := mark_Int64S q1 101 (by omega) (by omega) (by omega)
 have hd := held_Int64S q1.length 101 (by omega) (by omega) (by omega)
 obtain ⟨k, hfu1, hto1, heq1, hsp, him, her, hmk1, hmg, hhd⟩ := (fu1.and (to1.and (eq1.and (sp.and (im.and (er.and (mk1.and (mg.and hd)))))))).ex
 exact ⟨k, ⟨1000000 - l1.length, s1, Or.inr ⟨by omega, ⟨L1, _, t1, q1, q2, _, _, _, _, { ne1 := ne1, tk1 := tk1, ln1 := ln1, fu1 := hfu1, rm1 := rm1, jn1 := jn1, eq1 := heq1, sp := hsp, im := him, er := her, mk1 := hmk1, mk10 := (by omega), mg := hmg, mg0 := (by omega), hd := hhd, hl := seq_Int64S_len _ _, to1 := hto1 }⟩⟩⟩⟩
end Go.Proofs.Ytipgcjonidlloaa.F
namespace Go.Proofs.Ytipgcjonidlloaa.fnExactFastestWay
open Go.ChangeShapes Go.WideShapes Go.ChangeAt Go.RowKit Go.Proofs.Ytipgcjonidlloaa.F Go.Proofs.YtipgcjonidlloaaW.PrintWords
open Go.ChangeMaps (open_string shut_string)
set_option linter.unusedVariables false
theorem own : ownKnob Try.prog.godebug = none := by kernel_rfl
theorem laidOut : laidOutB Try.prog = true := by kernel_rfl
set_option maxRecDepth 100000 in
theorem lifted (os : Os) (started : os.Started) (H : Type) (enc : TypeId × Value → H) :
  ReturnsInHanded {} Try.checked os 7 .any (Rows.fnExactFastestWaySpec.pre6 enc Try.prog Try.f7 Rows.fnExactFastestWayRow.domain false) (Rows.fnExactFastestWaySpec.post enc Try.prog Try.f7 false true false false) := by
 refine returnsInHanded_of_change_sized (C := Try.checked) own started (by kernel_rfl) Try.func7
  (ChangeSpec.witness6 (enc := enc) (C := Try.checked) false ⟨#[], #[.int .i64 0, .slice none 0 0, .int .i64 0], []⟩ 8 (by kernel_rfl) (by kernel_rfl) (by kernel_rfl) (by kernel_rfl)) ?_
 intro W base args ds gs before hval0 hW hcnd hsz0 _
 have hval : ∀ (j : Nat) t v, Try.f7.params[j]? = some t → args[j]? = some v → Value.okWide Try.prog W .any base t v := hval0
 have hW' := hW
 obtain ⟨p, q, hA0, hV, rfl, hfz, hnd⟩ := hW
 have hA : DataW.TrodAll enc Try.prog W 0 (fun _ => true) true Try.f7.params.toList args.toList ds p := hA0
 rw [Try.params7] at hA hval
 obtain ⟨v0, vs0, d0, ds0, p0, q0, hargs, rfl, rfl, h0, r0⟩ := trodAll_cons hA
 obtain ⟨v1, vs1, d1, ds1, p1, q1, rfl, rfl, rfl, h1, r1⟩ := trodAll_cons r0
 obtain ⟨v2, vs2, d2, ds2, p2, q2, rfl, rfl, rfl, h2, r2⟩ := trodAll_cons r1
 obtain ⟨rfl, rfl, rfl⟩ := trodAll_nil r2
 obtain rfl : args = #[v0, v1, v2] := by cases args; simp_all
 obtain ⟨rfl, rfl⟩ := trodVars_none hV
 obtain ⟨a0, rfl, rfl, rfl, w0⟩ := open_int Try.underlying2 (hval 0 2 v0 rfl rfl) h0
 have k1 := h1
 have lt1 : ∀ x ∈ p1, x.block < W.heap.size := by obtain ⟨m, hm⟩ := k1; exact DataW.trod_lt m _ _ _ hm
 obtain ⟨A1, n1, c1, rfl⟩ := okWide_slice Try.underlying22 (hval 1 22 v1 rfl rfl)
 obtain ⟨l1, rfl, lc1, lm1, hC1, hP1⟩ : ∃ xs : List S46, n1 = xs.length ∧ xs.length ≤ c1 ∧ c1 ≤ maxLen ∧ Kd.C k46 W A1 xs.length xs ∧ ∀ x ∈ xs, Pr46 x := by
  obtain ⟨fuel, hf⟩ := h1
  obtain ⟨A, c, xs, hcs, h1, h2, h3, h4⟩ := open_rows k46 (Pr := Pr46) Try.underlying22 (by kernel_rfl) (fun f_ c_ y_ hy_ => open_S46 hy_ W) hf
  simp [Value.cells] at hcs
  obtain ⟨rfl, rfl, rfl⟩ := hcs
  exact ⟨xs, rfl, h1, h2, h3, h4⟩
 obtain ⟨a2, rfl, rfl, rfl, w2⟩ := open_int Try.underlying2 (hval 2 2 v2 rfl rfl) h2
 obtain ⟨k, hk⟩ := pure_FnExactFastestWay a0 l1 a2 (I64_of w0) (by omega) hP1 (I64_of w2)
 refine (law_FnExactFastestWay k a0 A1 c1 l1 a2 W hC1 lc1 hk).mono fun e W' ⟨he, bel⟩ => ?_
 subst he
 exact ⟨_, rfl, _, _, _, [], _, [], hW', trodAll_mk1 (shut_bool Try.underlying4 _), (trodAll_cons_mk (shut_int Try.underlying2 w0) (trodAll_cons_mk (Below.trod laidOut (by kernel_rfl) (of_decide_eq_true (by kernel_rfl)) k1 bel lt1) (trodAll_cons_mk (shut_int Try.underlying2 w2) trodAll_mk0))), rfl, bel.frame _, fun h => by cases h⟩
theorem over : Rows.fnExactFastestWayRow.holds Try.pinned (OpenSpec.ofChange Rows.fnExactFastestWaySpec) :=
 OpenClaim.holds_of_wide 7 Try.f7 rfl rfl rfl rfl rfl rfl rfl ⟨rfl, rfl, rfl, rfl, rfl⟩ rfl rfl rfl rfl rfl (by kernel_rfl) Try.func7 (by kernel_rfl)
  (of_decide_eq_true (by kernel_rfl)) (by unfold Func.isWrapper; first | (rw [if_pos (by decide +kernel)]; kernel_rfl) | (rw [if_neg (by decide +kernel)]; exact ⟨rfl, rfl⟩))
  (fun os started H enc _ => lifted os started H enc)
theorem proved : Rows.FnExactFastestWaySaid := over
end Go.Proofs.Ytipgcjonidlloaa.fnExactFastestWay
namespace Go.Proofs.Ytipgcjonidlloaa
theorem fnExactFastestWay_holds : Rows.FnExactFastestWaySaid := fnExactFastestWay.proved
#print axioms fnExactFastestWay_holds
end Go.Proofs.Ytipgcjonidlloaa
