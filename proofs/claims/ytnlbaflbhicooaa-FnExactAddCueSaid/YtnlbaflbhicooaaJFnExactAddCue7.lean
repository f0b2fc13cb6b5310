import Derived.Test.YtnlbaflbhicooaaJFnExactAddCue6
import Derived.Below
import Derived.Deep.Draws
import Derived.Deep.AppendLies
import Derived.Maps.AppendAt
import Derived.OwnWalk
import Derived.Laws.BytesArg
import Derived.Laws.MakeOwn
import Derived.Laws.OwnMore
import Derived.Deep.OwnRows
import Derived.Tactics
import Derived.Lib.ConvBytes
import Derived.Laws.Slices
import Derived.WalkKit
import Derived.KernelRfl
import Derived.RowKit3
import Derived.Deep.LoopGhost
import Derived.Deep.QuietTactic
import Derived.BigQuiet
import Derived.WideLaws
import Derived.Deep.DeepCutAuto
import Derived.Deep.CutBlock
import Derived.Deep.RegionHeld3
import Derived.Laws.Rows
import Derived.Lib.AppendStr
import Derived.ArgAppend
import Derived.Laws.IdiomCopy
import Derived.RowKit
import Derived.OrdersHeld
import Derived.Laws.BitsLemmas
import Derived.Laws.StructEq
import Derived.Test.YtnlbaflbhicooaaProg
import Derived.ChangeSlices
import Derived.OpenShut
import Derived.Laws.Cover1
import Derived.Test.YtnlbaflbhicooaaRows
import Derived.Test.YtnlbaflbhicooaaGcFnExactAddCue
import Derived.ProofKit
import Derived.ShutString
import Derived.ChangeOld
import Derived.SizedLaws
namespace Go.Proofs.Ytnlbaflbhicooaa.F
open Go.RowKit Go.Proofs.YtnlbaflbhicooaaW.PrintWords Go.Proofs.YtnlbaflbhicooaaW.PrintLast Go.Proofs.YtnlbaflbhicooaaW.PrintMore
set_option linter.unusedVariables false
set_option linter.unusedSimpArgs false
theorem open_V40 {H : Type} {enc : TypeId × Value → H} {W : World} {base : Nat} {sp : Nat → Bool} {held : Bool} {fuel : Nat} {cs : List Value} {y : DataW H × List MemPlace} (h : DataW.trod enc Try.prog W base sp held fuel 40 cs = some y) : ∃ (z0 : Int) (z1 : Int) (z2 : ByteArray) (z3 : Int), cs = [.int .i64 z0, .int .i64 z1, .string z2, .int .i64 z3] ∧ I64 z0 ∧ I64 z1 ∧ z2.size ≤ maxLen ∧ I64 z3 := by
 obtain ⟨xs, n, _, rfl, hl, hlen, hf⟩ := DataW.trod_struct Try.underlying40 h; rw [size40] at hl; obtain ⟨v0, e0, _, w0⟩ := DataW.trod_int Try.underlying2 ((hf 0 _ rfl).trans (List.getElem?_eq_getElem Zw)); have g0 : cs[0]? = some (.int .i64 v0) := one_cell (by have z : List.take (Try.prog.cellsOf 2) (List.drop 0 cs) = [.int .i64 v0] := e0; rw [one40] at z; exact z); obtain ⟨v1, e1, _, w1⟩ := DataW.trod_int Try.underlying2 ((hf 1 _ rfl).trans (List.getElem?_eq_getElem Zw)); have g1 : cs[1]? = some (.int .i64 v1) := one_cell (by have z : List.take (Try.prog.cellsOf 2) (List.drop 1 cs) = [.int .i64 v1] := e1; rw [one40] at z; exact z); obtain ⟨v2, e2, _, w2⟩ := DataW.trod_string Try.underlying9 ((hf 2 _ rfl).trans (List.getElem?_eq_getElem Zw)); have g2 : cs[2]? = some (.string v2) := one_cell (by have z : List.take (Try.prog.cellsOf 9) (List.drop 2 cs) = [.string v2] := e2; rw [ones40] at z; exact z); obtain ⟨v3, e3, _, w3⟩ := DataW.trod_int Try.underlying2 ((hf 3 _ rfl).trans (List.getElem?_eq_getElem Zw)); have g3 : cs[3]? = some (.int .i64 v3) := one_cell (by have z : List.take (Try.prog.cellsOf 2) (List.drop 3 cs) = [.int .i64 v3] := e3; rw [one40] at z; exact z)
 have hcs : cs = [.int .i64 v0, .int .i64 v1, .string v2, .int .i64 v3] := by
  apply List.ext_getElem?
  intro i
  match i with
  | 0 => exact g0
  | 1 => exact g1
  | 2 => exact g2
  | 3 => exact g3
  | i + 4 => rw [List.getElem?_eq_none (by omega)]; rfl
 exact ⟨v0, v1, v2, v3, hcs, I64_of w0, I64_of w1, w2, I64_of w3⟩
structure Ok_FnExactAddCue (k : Nat) (l0_0 : List S110) (l0_1 : List S105) (l0_2 : List S40) (a1_0 : Int) (a1_1 : Int) (a1_2 : ByteArray) (a1_3 : Int) (q1 : List (S108)) (q2 : List (S92)) (q3 : List (S43)) (q4 : Int) (L0_0 : List S108) (M0_0 : List S108) (t0_0 : Int) (L0_1 : List S92) (M0_1 : List S92) (t0_1 : Int) (L0_2 : List S43) (M0_2 : List S43) (t0_2 : Int) (k1 : Int) (M0_0k : List (S108)) (M0_1k : List (S92)) (M0_2k : List (S43)) (m1 : Int) (q1k : List (S108)) (q2k : List (S92)) (q3k : List (S43)) : Prop where
 ne0_0 : L0_0 ≠ []
 tk0_0 : M0_0 = L0_0.take l0_0.length ∧ l0_0.length ≤ L0_0.length
 ln0_0 : M0_0.length = l0_0.length
 rm0_0 : laws_roomBehind.f (M0_0.length : Int) = some t0_0
 jn0_0 : wrap64 ((M0_0.length : Int) + t0_0) = (L0_0.length : Int)
 eq0_0 : laws_eqBarS.f k L0_0 L0_0 = some true
 ne0_1 : L0_1 ≠ []
 tk0_1 : M0_1 = L0_1.take l0_1.length ∧ l0_1.length ≤ L0_1.length
 ln0_1 : M0_1.length = l0_1.length
 rm0_1 : laws_roomBehind.f (M0_1.length : Int) = some t0_1
 jn0_1 : wrap64 ((M0_1.length : Int) + t0_1) = (L0_1.length : Int)
 eq0_1 : laws_eqArticleS.f k L0_1 L0_1 = some true
 ne0_2 : L0_2 ≠ []
 tk0_2 : M0_2 = L0_2.take l0_2.length ∧ l0_2.length ≤ L0_2.length
 ln0_2 : M0_2.length = l0_2.length
 rm0_2 : laws_roomBehind.f (M0_2.length : Int) = some t0_2
 jn0_2 : wrap64 ((M0_2.length : Int) + t0_2) = (L0_2.length : Int)
 eq0_2 : laws_eqCueS.f k L0_2 L0_2 = some true
 fu0 : full_toShow.f k l0_0 l0_1 l0_2 false = some (L0_0, L0_1, L0_2)
 to0 : laws_toShow.f k l0_0 l0_1 l0_2 true = some (M0_0, M0_1, M0_2)
 to1 : laws_toCue.f a1_0 a1_1 a1_2 a1_3 = some (a1_0, a1_1, a1_2, a1_3)
 sp : spec_AddCue.f k M0_0 M0_1 M0_2 a1_0 a1_1 a1_2 a1_3 = some (q1, q2, q3, q4)
 im : impl_AddCue.f k M0_0 M0_1 M0_2 a1_0 a1_1 a1_2 a1_3 = some (q1, q2, q3, q4)
 er : laws_eqShow.f k q1 q2 q3 q1 q2 q3 = some true
 mk1 : laws_markShow.f k M0_0 M0_1 M0_2 101 = some (k1, M0_0k, M0_1k, M0_2k)
 mk10 : 0 ≤ k1
 mg : laws_markShow.f k q1 q2 q3 101 = some (m1, q1k, q2k, q3k)
 mg0 : 0 ≤ m1
 hd : laws_heldShow.f k q1k q2k q3k 101 = some m1
 hl0 : q1k.length = q1.length
 hl1 : q2k.length = q2.length
 hl2 : q3k.length = q3.length
def Law_FnExactAddCue (k : Nat) (l0_0 : List S110) (l0_1 : List S105) (l0_2 : List S40) (a1_0 : Int) (a1_1 : Int) (a1_2 : ByteArray) (a1_3 : Int) : Prop := ∃ s1 : Int, laws_szShow.f k l0_0 l0_1 l0_2 1000000 = some s1 ∧ (s1 < 0 ∨ (0 ≤ s1 ∧ ∃ s2 : Int, laws_szCue.f a1_0 a1_1 a1_2 a1_3 s1 = some s2 ∧ (s2 < 0 ∨ (0 ≤ s2 ∧ ∃ (q1 : List (S108)) (q2 : List (S92)) (q3 : List (S43)) (q4 : Int) (L0_0 : List S108) (M0_0 : List S108) (t0_0 : Int) (L0_1 : List S92) (M0_1 : List S92) (t0_1 : Int) (L0_2 : List S43) (M0_2 : List S43) (t0_2 : Int) (k1 : Int) (M0_0k : List (S108)) (M0_1k : List (S92)) (M0_2k : List (S43)) (m1 : Int) (q1k : List (S108)) (q2k : List (S92)) (q3k : List (S43)), Ok_FnExactAddCue k l0_0 l0_1 l0_2 a1_0 a1_1 a1_2 a1_3 q1 q2 q3 q4 L0_0 M0_0 t0_0 L0_1 M0_1 t0_1 L0_2 M0_2 t0_2 k1 M0_0k M0_1k M0_2k m1 q1k q2k q3k))))
def Pure_FnExactAddCue : Prop := ∀ (l0_0 : List S110) (l0_1 : List S105) (l0_2 : List S40) (a1_0 : Int) (a1_1 : Int) (a1_2 : ByteArray) (a1_3 : Int), l0_0.length ≤ maxLen → (∀ x ∈ l0_0, Pr110 x) → l0_1.length ≤ maxLen → (∀ x ∈ l0_1, Pr105 x) → l0_2.length ≤ maxLen → (∀ x ∈ l0_2, Pr40 x) → I64 a1_0 → I64 a1_1 → a1_2.size ≤ maxLen → I64 a1_3 → ∃ k, Law_FnExactAddCue k l0_0 l0_1 l0_2 a1_0 a1_1 a1_2 a1_3
def law_FnExactAddCue8.T : Bool × List (List Nat × List Nat) := (true, [([], []), ([0], [0]), ([], []), ([2, 1], [2]), ([1, 3, 3], [1, 3]), ([4], [4]), ([5], [5]), ([5], [5]), ([], []), ([8, 6, 4, 0, 1, 2, 3, 4, 5, 6, 8], [6, 8]), ([7, 9, 0, 1, 2, 3, 4, 5, 6, 7, 8, 9], [7])])
def law_FnExactAddCue8.B : List Nat := [0, 1, 0, 7, 15, 31, 63, 63, 0, 383, 1023]
theorem law_FnExactAddCue8.tab : rtab .any (opsOf Try.f4 8) = law_FnExactAddCue8.T := by kernel_rfl
theorem law_FnExactAddCue8.bits : waitsOk law_FnExactAddCue8.T.2 law_FnExactAddCue8.B = true := by kernel_rfl
def law_FnExactAddCue10.T : Bool × List (List Nat × List Nat) := (true, [([], []), ([], []), ([1], [1]), ([0, 2, 2], [0, 2]), ([3], [3]), ([4], [4]), ([4], [4]), ([], []), ([7, 5, 3, 0, 1, 2, 3, 4, 5, 7], [5, 7]), ([6, 8, 0, 1, 2, 3, 4, 5, 6, 7, 8], [6])])
def law_FnExactAddCue10.B : List Nat := [0, 0, 2, 7, 15, 31, 31, 0, 191, 511]
theorem law_FnExactAddCue10.tab : rtab .any (opsOf Try.f4 10) = law_FnExactAddCue10.T := by kernel_rfl
theorem law_FnExactAddCue10.bits : waitsOk law_FnExactAddCue10.T.2 law_FnExactAddCue10.B = true := by kernel_rfl
def law_FnExactAddCue.T : Bool × List (List Nat × List Nat) := (true, [([], []), ([], []), ([1], [1]), ([0, 2, 2], [0, 2]), ([3], [3])])
def law_FnExactAddCue.B : List Nat := [0, 0, 2, 7, 15]
theorem law_FnExactAddCue.tab : rtab .any (opsOf Try.f4 13) = law_FnExactAddCue.T := by kernel_rfl
theorem law_FnExactAddCue.bits : waitsOk law_FnExactAddCue.T.2 law_FnExactAddCue.B = true := by kernel_rfl
def law_FnExactAddCue27.T : Bool × List (List Nat × List Nat) := (true, [([], []), ([0], [0]), ([], []), ([2, 1], [2]), ([1, 3, 3], [1, 3]), ([4], [4]), ([5], [5]), ([5], [5]), ([], []), ([8, 6, 4, 0, 1, 2, 3, 4, 5, 6, 8], [6, 8]), ([7, 9, 0, 1, 2, 3, 4, 5, 6, 7, 8, 9], [7])])
def law_FnExactAddCue27.B : List Nat := [0, 1, 0, 7, 15, 31, 63, 63, 0, 383, 1023]
theorem law_FnExactAddCue27.tab : rtab .any (opsOf Try.f4 27) = law_FnExactAddCue27.T := by kernel_rfl
theorem law_FnExactAddCue27.bits : waitsOk law_FnExactAddCue27.T.2 law_FnExactAddCue27.B = true := by kernel_rfl
set_option maxHeartbeats 8000000 in
set_option maxRecDepth 100000 in
theorem law_FnExactAddCue (k : Nat) (A0_0 : Option Addr) (c0_0 : Nat) (l0_0 : List S110) (A0_1 : Option Addr) (c0_1 : Nat) (l0_1 : List S105) (A0_2 : Option Addr) (c0_2 : Nat) (l0_2 : List S40) (a1_0 : Int) (a1_1 : Int) (a1_2 : ByteArray) (a1_3 : Int) (w : World) (hr0_0 : Kd.C k110 w A0_0 l0_0.length l0_0) (hc0_0 : l0_0.length ≤ c0_0) (hr0_1 : Kd.C k105 w A0_1 l0_1.length l0_1) (hc0_1 : l0_1.length ≤ c0_1) (hr0_2 : Kd.C k40 w A0_2 l0_2.length l0_2) (hc0_2 : l0_2.length ≤ c0_2) (h : Law_FnExactAddCue k l0_0 l0_1 l0_2 a1_0 a1_1 a1_2 a1_3) :
  Calls Try.prog 4 #[.agg #[.slice A0_0 l0_0.length c0_0, .slice A0_1 l0_1.length c0_1, .slice A0_2 l0_2.length c0_2], .agg #[.int .i64 a1_0, .int .i64 a1_1, .string a1_2, .int .i64 a1_3]] w fun e w' => e = .returned (.bool true) ∧ Below w.heap.size w w' := by
 have HR0_0 := am_ hr0_0; have HC0_0 := am_ hc0_0; clear hr0_0 hc0_0; have HR0_1 := am_ hr0_1; have HC0_1 := am_ hc0_1; clear hr0_1 hc0_1; have HR0_2 := am_ hr0_2; have HC0_2 := am_ hc0_2; clear hr0_2 hc0_2; have HB := am_ (Below.refl w.heap.size w); obtain ⟨s1, hs_, h⟩ := h; have HS1 := am_ hs_; clear hs_
 rcases h with h | ⟨h', h⟩
 ·have f_ : decide (s1 < 0) = true := decide_eq_true h
  clear h
  go_enter Try.func4, Try.ntmps4
  go_wp2_with (first | ((with_reducible refine gate_dst (N := 2) rfl ?_); refine boxZ 2 #[.slice A0_0 l0_0.length c0_0, .slice A0_1 l0_1.length c0_1, .slice A0_2 l0_2.length c0_2] 26 ?_; intro g_0 hg w1 hbox hb; have nk_ := am_ hbox; have ne_ := am_ (Zc : w.heap.size ≤ g_0); have OB0 := am_ (Zao : w.heap.size ≤ g_0); clear hbox hg; replace HB := (bsZ Zd hb); clear hb; have BK0 := nk_; have GE0 := ne_; clear nk_ ne_; obtain ⟨hcz1_0, hcz1_1, hcz1_2, hfz1_0, hfz1_1, hfz1_2⟩ := cz3 BK0) | ((with_reducible refine gate_dst (N := 3) rfl ?_); refine boxZ 3 #[.int .i64 a1_0, .int .i64 a1_1, .string a1_2, .int .i64 a1_3] 40 ?_; intro g_1 hg w1 hbox hb; have nk_ := am_ hbox; have ne_ := am_ (Zc : w.heap.size ≤ g_1); have OB1 := am_ ((have z0_ := BK0; Zap) : g_0 + 1 ≤ g_1); clear hbox hg; replace HB := (bsZ Zd hb); replace BK0 := (have z0_ := BK0; bkZ hb); clear hb; obtain ⟨hcz2_0, hcz2_1, hcz2_2, hfz2_0, hfz2_1, hfz2_2⟩ := cz3 BK0; have BK1 := nk_; have GE1 := ne_; clear nk_ ne_; obtain ⟨hcz3_0, hcz3_1, hcz3_2, hcz3_3, hfz3_0, hfz3_1, hfz3_2, hfz3_3⟩ := cz4 BK1) | ((with_reducible refine gate_callee (f := 19) rfl ?_); (try (refine gate_guard (by rfl) ?_; dsimp only)); refine goesL_ (some 18) rfl rfl Try.func19 Zj rfl #[.agg #[.slice A0_0 l0_0.length c0_0, .slice A0_1 l0_1.length c0_1, .slice A0_2 l0_2.length c0_2], .int .i64 1000000] rfl Zo ?_; (with_reducible refine (laws_szShow.calls k _ _ l0_0 _ _ l0_1 _ _ l0_2 1000000 s1 _ (Kd.C_below HR0_0.out Zd) HC0_0.out (Kd.C_below HR0_1.out Zd) HC0_1.out (Kd.C_below HR0_2.out Zd) HC0_2.out HS1.out).mono ?_); rintro e w1 ⟨rfl, hb⟩; refine ⟨_, rfl, ?_⟩; replace HB := (bsZ Zd hb); replace BK0 := (have z0_ := BK0; bkZ hb); replace BK1 := (have z0_ := BK1; bkZ hb); clear hb; obtain ⟨hcz4_0, hcz4_1, hcz4_2, hfz4_0, hfz4_1, hfz4_2⟩ := cz3 BK0; obtain ⟨hcz5_0, hcz5_1, hcz5_2, hcz5_3, hfz5_0, hfz5_1, hfz5_2, hfz5_3⟩ := cz4 BK1))
  go_ret
  exact ⟨rfl, Zd⟩
 have fs1 : decide (s1 < 0) = false := decide_eq_false (by omega); clear h'; obtain ⟨s2, hs_, h⟩ := h; have HS2 := am_ hs_; clear hs_
 rcases h with h | ⟨h', h⟩
 ·have f_ : decide (s2 < 0) = true := decide_eq_true h
  clear h
  go_enter Try.func4, Try.ntmps4
  go_wp2_with (first | ((with_reducible refine gate_dst (N := 2) rfl ?_); refine boxZ 2 #[.slice A0_0 l0_0.length c0_0, .slice A0_1 l0_1.length c0_1, .slice A0_2 l0_2.length c0_2] 26 ?_; intro g_0 hg w1 hbox hb; have nk_ := am_ hbox; have ne_ := am_ (Zc : w.heap.size ≤ g_0); have OB0 := am_ (Zao : w.heap.size ≤ g_0); clear hbox hg; replace HB := (bsZ Zd hb); clear hb; have BK0 := nk_; have GE0 := ne_; clear nk_ ne_; obtain ⟨hcz1_0, hcz1_1, hcz1_2, hfz1_0, hfz1_1, hfz1_2⟩ := cz3 BK0) | ((with_reducible refine gate_dst (N := 3) rfl ?_); refine boxZ 3 #[.int .i64 a1_0, .int .i64 a1_1, .string a1_2, .int .i64 a1_3] 40 ?_; intro g_1 hg w1 hbox hb; have nk_ := am_ hbox; have ne_ := am_ (Zc : w.heap.size ≤ g_1); have OB1 := am_ ((have z0_ := BK0; Zap) : g_0 + 1 ≤ g_1); clear hbox hg; replace HB := (bsZ Zd hb); replace BK0 := (have z0_ := BK0; bkZ hb); clear hb; obtain ⟨hcz2_0, hcz2_1, hcz2_2, hfz2_0, hfz2_1, hfz2_2⟩ := cz3 BK0; have BK1 := nk_; have GE1 := ne_; clear nk_ ne_; obtain ⟨hcz3_0, hcz3_1, hcz3_2, hcz3_3, hfz3_0, hfz3_1, hfz3_2, hfz3_3⟩ := cz4 BK1) | ((with_reducible refine gate_callee (f := 19) rfl ?_); (try (refine gate_guard (by rfl) ?_; dsimp only)); refine goesL_ (some 18) rfl rfl Try.func19 Zj rfl #[.agg #[.slice A0_0 l0_0.length c0_0, .slice A0_1 l0_1.length c0_1, .slice A0_2 l0_2.length c0_2], .int .i64 1000000] rfl Zo ?_; (with_reducible refine (laws_szShow.calls k _ _ l0_0 _ _ l0_1 _ _ l0_2 1000000 s1 _ (Kd.C_below HR0_0.out Zd) HC0_0.out (Kd.C_below HR0_1.out Zd) HC0_1.out (Kd.C_below HR0_2.out Zd) HC0_2.out HS1.out).mono ?_); rintro e w1 ⟨rfl, hb⟩; refine ⟨_, rfl, ?_⟩; replace HB := (bsZ Zd hb); replace BK0 := (have z0_ := BK0; bkZ hb); replace BK1 := (have z0_ := BK1; bkZ hb); clear hb; obtain ⟨hcz4_0, hcz4_1, hcz4_2, hfz4_0, hfz4_1, hfz4_2⟩ := cz3 BK0; obtain ⟨hcz5_0, hcz5_1, hcz5_2, hcz5_3, hfz5_0, hfz5_1, hfz5_2, hfz5_3⟩ := cz4 BK1) | ((with_reducible refine gate_callee (f := 27) rfl ?_); (try (refine gate_guard (by rfl) ?_; dsimp only)); refine goesL_ (some 23) rfl rfl Try.func27 Zj rfl #[.agg #[.int .i64 a1_0, .int .i64 a1_1, .string a1_2, .int .i64 a1_3], .int .i64 s1] rfl Zo ?_; (with_reducible refine (laws_szCue.calls a1_0 a1_1 a1_2 a1_3 s1 s2 _ HS2.out).mono ?_); rintro e w1 ⟨rfl, hb⟩; refine ⟨_, rfl, ?_⟩; replace HB := (bsZ Zd hb); replace BK0 := (have z0_ := BK0; bkZ hb); replace BK1 := (have z0_ := BK1; bkZ hb); clear hb; obtain ⟨hcz6_0, hcz6_1, hcz6_2, hfz6_0, hfz6_1, hfz6_2⟩ := cz3 BK0; obtain ⟨hcz7_0, hcz7_1, hcz7_2, hcz7_3, hfz7_0, hfz7_1, hfz7_2, hfz7_3⟩ := cz4 BK1))
  go_ret
  exact ⟨rfl, Zd⟩
 have fs2 : decide (s2 < 0) = false := decide_eq_false (by omega); clear h'; obtain ⟨q1, q2, q3, q4, L0_0, M0_0, t0_0, L0_1, M0_1, t0_1, L0_2, M0_2, t0_2, k1, M0_0k, M0_1k, M0_2k, m1, q1k, q2k, q3k, h⟩ := h; have HF := am_ h; clear h
 have f1q4 : (q4 != q4) = false := by simp
 have f2q4 : (q4 == q4) = true := by simp
 have fnk1 : decide (k1 < 0) = false := decide_eq_false (by have := HF.out.mk10; omega); have fnm1 : decide (m1 < 0) = false := decide_eq_false (by have := HF.out.mg0; omega)
 have f1m1 : (m1 != m1) = false := by simp
 have f2m1 : (m1 == m1) = true := by simp
 go_enter Try.func4, Try.ntmps4
 go_wp2_with (first | ((with_reducible refine gate_dst (N := 2) rfl ?_); refine boxZ 2 #[.slice A0_0 l0_0.length c0_0, .slice A0_1 l0_1.length c0_1, .slice A0_2 l0_2.length c0_2] 26 ?_; intro g_0 hg w1 hbox hb; have nk_ := am_ hbox; have ne_ := am_ (Zc : w.heap.size ≤ g_0); have OB0 := am_ (Zao : w.heap.size ≤ g_0); clear hbox hg; replace HB := (bsZ Zd hb); clear hb; have BK0 := nk_; have GE0 := ne_; clear nk_ ne_; obtain ⟨hcz1_0, hcz1_1, hcz1_2, hfz1_0, hfz1_1, hfz1_2⟩ := cz3 BK0) | ((with_reducible refine gate_dst (N := 3) rfl ?_); refine boxZ 3 #[.int .i64 a1_0, .int .i64 a1_1, .string a1_2, .int .i64 a1_3] 40 ?_; intro g_1 hg w1 hbox hb; have nk_ := am_ hbox; have ne_ := am_ (Zc : w.heap.size ≤ g_1); have OB1 := am_ ((have z0_ := BK0; Zap) : g_0 + 1 ≤ g_1); clear hbox hg; replace HB := (bsZ Zd hb); replace BK0 := (have z0_ := BK0; bkZ hb); clear hb; obtain ⟨hcz2_0, hcz2_1, hcz2_2, hfz2_0, hfz2_1, hfz2_2⟩ := cz3 BK0; have BK1 := nk_; have GE1 := ne_; clear nk_ ne_; obtain ⟨hcz3_0, hcz3_1, hcz3_2, hcz3_3, hfz3_0, hfz3_1, hfz3_2, hfz3_3⟩ := cz4 BK1) | ((with_reducible refine gate_callee (f := 19) rfl ?_); (try (refine gate_guard (by rfl) ?_; dsimp only)); refine goesL_ (some 18) rfl rfl Try.func19 Zj rfl #[.agg #[.slice A0_0 l0_0.length c0_0, .slice A0_1 l0_1.length c0_1, .slice A0_2 l0_2.length c0_2], .int .i64 1000000] rfl Zo ?_; (with_reducible refine (laws_szShow.calls k _ _ l0_0 _ _ l0_1 _ _ l0_2 1000000 s1 _ (Kd.C_below HR0_0.out Zd) HC0_0.out (Kd.C_below HR0_1.out Zd) HC0_1.out (Kd.C_below HR0_2.out Zd) HC0_2.out HS1.out).mono ?_); rintro e w1 ⟨rfl, hb⟩; refine ⟨_, rfl, ?_⟩; replace HB := (bsZ Zd hb); replace BK0 := (have z0_ := BK0; bkZ hb); replace BK1 := (have z0_ := BK1; bkZ hb); clear hb; obtain ⟨hcz4_0, hcz4_1, hcz4_2, hfz4_0, hfz4_1, hfz4_2⟩ := cz3 BK0; obtain ⟨hcz5_0, hcz5_1, hcz5_2, hcz5_3, hfz5_0, hfz5_1, hfz5_2, hfz5_3⟩ := cz4 BK1) | ((with_reducible refine gate_callee (f := 27) rfl ?_); (try (refine gate_guard (by rfl) ?_; dsimp only)); refine goesL_ (some 23) rfl rfl Try.func27 Zj rfl #[.agg #[.int .i64 a1_0, .int .i64 a1_1, .string a1_2, .int .i64 a1_3], .int .i64 s1] rfl Zo ?_; (with_reducible refine (laws_szCue.calls a1_0 a1_1 a1_2 a1_3 s1 s2 _ HS2.out).mono ?_); rintro e w1 ⟨rfl, hb⟩; refine ⟨_, rfl, ?_⟩; replace HB := (bsZ Zd hb); replace BK0 := (have z0_ := BK0; bkZ hb); replace BK1 := (have z0_ := BK1; bkZ hb); clear hb; obtain ⟨hcz6_0, hcz6_1, hcz6_2, hfz6_0, hfz6_1, hfz6_2⟩ := cz3 BK0; obtain ⟨hcz7_0, hcz7_1, hcz7_2, hcz7_3, hfz7_0, hfz7_1, hfz7_2, hfz7_3⟩ := cz4 BK1))
 refine start_w (n := 11) (S := fun w' => w'.cell? ⟨g_0, 0, none⟩ = some (.slice A0_0 l0_0.length c0_0) ∧ w'.cell? ⟨g_0, 1, none⟩ = some (.slice A0_1 l0_1.length c0_1) ∧ w'.cell? ⟨g_0, 2, none⟩ = some (.slice A0_2 l0_2.length c0_2) ∧ w'.cell? ⟨g_1, 0, none⟩ = some (.int .i64 a1_0) ∧ w'.cell? ⟨g_1, 1, none⟩ = some (.int .i64 a1_1) ∧ w'.cell? ⟨g_1, 2, none⟩ = some (.string a1_2) ∧ w'.cell? ⟨g_1, 3, none⟩ = some (.int .i64 a1_3)) (ds := []) (bT 11 0) Zj rfl rfl (fun w1 hb => ?_); replace HB := (bsZ Zd hb); replace BK0 := (have z0_ := BK0; bkZ hb); replace BK1 := (have z0_ := BK1; bkZ hb); clear hb; refine ci3 BK0 ?_; intros; refine ci4 BK1 ?_; intros; refine ⟨⟨(blk_cell BK0.out 0).trans rfl, (blk_cell BK0.out 1).trans rfl, (blk_cell BK0.out 2).trans rfl, (blk_cell BK1.out 0).trans rfl, (blk_cell BK1.out 1).trans rfl, (blk_cell BK1.out 2).trans rfl, (blk_cell BK1.out 3).trans rfl⟩, fun hHeld => ?_⟩; refine with_tabW law_FnExactAddCue8.tab law_FnExactAddCue8.bits (fun HT_ HW_ => ?_); refine takeZ7 HT_ HW_ 0 (some 27) (bT 11 1) hHeld ?_; refine takeZ7 HT_ HW_ 2 (some 29) #[true, false, true, false, false, false, false, false, false, false, false] hHeld ?_; have RG := am_ (Below.refl w1.heap.size w1); refine join_ (σ := Option Addr × Nat × Option Addr × Nat × Option Addr × Nat × Option Addr × Nat × Option Addr × Nat × Option Addr × Nat × Nat × Nat × Nat) 2 (bT 11 9) (fun s_ => [(28, .agg #[.slice s_.1 M0_0.length s_.2.1, .slice s_.2.2.1 M0_1.length s_.2.2.2.1, .slice s_.2.2.2.2.1 M0_2.length s_.2.2.2.2.2.1]), (30, .agg #[.int .i64 a1_0, .int .i64 a1_1, .string a1_2, .int .i64 a1_3]), (31, .tuple #[.agg #[.slice s_.2.2.2.2.2.2.1 q1.length s_.2.2.2.2.2.2.2.1, .slice s_.2.2.2.2.2.2.2.2.1 q2.length s_.2.2.2.2.2.2.2.2.2.1, .slice s_.2.2.2.2.2.2.2.2.2.2.1 q3.length s_.2.2.2.2.2.2.2.2.2.2.2.1], .int .i64 q4]), (26, .tuple #[.agg #[.slice s_.2.2.2.2.2.2.1 q1.length s_.2.2.2.2.2.2.2.1, .slice s_.2.2.2.2.2.2.2.2.1 q2.length s_.2.2.2.2.2.2.2.2.2.1, .slice s_.2.2.2.2.2.2.2.2.2.2.1 q3.length s_.2.2.2.2.2.2.2.2.2.2.2.1], .int .i64 q4]), (32, .agg #[.slice s_.2.2.2.2.2.2.1 q1.length s_.2.2.2.2.2.2.2.1, .slice s_.2.2.2.2.2.2.2.2.1 q2.length s_.2.2.2.2.2.2.2.2.2.1, .slice s_.2.2.2.2.2.2.2.2.2.2.1 q3.length s_.2.2.2.2.2.2.2.2.2.2.2.1]), (33, .int .i64 q4), (6, .pointer (some ⟨s_.2.2.2.2.2.2.2.2.2.2.2.2.1, 0, none⟩))]) (fun s_ w' => Below w1.heap.size w1 w' ∧ Ob k108 108 w' w.heap.size s_.2.2.2.2.2.2.2.2.2.2.2.2.2.1 s_.2.2.2.2.2.2.2.2.2.2.2.2.2.2 (.slice s_.2.2.2.2.2.2.1 q1.length s_.2.2.2.2.2.2.2.1) q1 ∧ Ob k92 92 w' w.heap.size s_.2.2.2.2.2.2.2.2.2.2.2.2.2.1 s_.2.2.2.2.2.2.2.2.2.2.2.2.2.2 (.slice s_.2.2.2.2.2.2.2.2.1 q2.length s_.2.2.2.2.2.2.2.2.2.1) q2 ∧ Ob k43 43 w' w.heap.size s_.2.2.2.2.2.2.2.2.2.2.2.2.2.1 s_.2.2.2.2.2.2.2.2.2.2.2.2.2.2 (.slice s_.2.2.2.2.2.2.2.2.2.2.1 q3.length s_.2.2.2.2.2.2.2.2.2.2.2.1) q3 ∧ w'.heap[s_.2.2.2.2.2.2.2.2.2.2.2.2.1]? = some (.cells #[.slice none 0 0, .slice none 0 0, .slice none 0 0] 32 (0, 0)) ∧ w.heap.size ≤ s_.2.2.2.2.2.2.2.2.2.2.2.2.1 ∧ g_1 + 1 ≤ s_.2.2.2.2.2.2.2.2.2.2.2.2.1 ∧ (g_1 + 1 ≤ s_.2.2.2.2.2.2.2.2.2.2.2.2.2.1 ∧ s_.2.2.2.2.2.2.2.2.2.2.2.2.2.1 ≤ s_.2.2.2.2.2.2.2.2.2.2.2.2.2.2) ∧ (s_.2.2.2.2.2.2.2.2.2.2.2.2.1 < s_.2.2.2.2.2.2.2.2.2.2.2.2.2.1 ∨ s_.2.2.2.2.2.2.2.2.2.2.2.2.2.2 ≤ s_.2.2.2.2.2.2.2.2.2.2.2.2.1)) ?_ ?_
 rotate_left
 ·intro hJ
  refine two_ (i := 1) (j := 8) (Ni := some 28) (Nj := some 6) (bT 11 3) #[true, false, true, false, false, false, false, false, true, false, false] rfl rfl rfl rfl (two_of HT_.out Zj) (by decide) (by decide) (fun K hK => ?_) (fun K hK => ?_)
  ·skip
   refine goes_ Try.func21 Zj rfl #[.agg #[.slice A0_0 l0_0.length c0_0, .slice A0_1 l0_1.length c0_1, .slice A0_2 l0_2.length c0_2], .bool false] (by rfl) rfl rfl Zo ?_
   (with_reducible refine (full_toShow.calls k _ _ l0_0 _ _ l0_1 _ _ l0_2 false L0_0 L0_1 L0_2 _ (Kd.C_below HR0_0.out Zd) HC0_0.out (Kd.C_below HR0_1.out Zd) HC0_1.out (Kd.C_below HR0_2.out Zd) HC0_2.out HF.out.fu0 HF.out.ne0_0 HF.out.ne0_1 HF.out.ne0_2).mono ?_)
   rintro e w1 ⟨a_1, b_1, a_2, b_2, a_3, b_3, he_, ho0, ho1, ho2, hb⟩; rw [← HF.out.ln0_0, ← HF.out.ln0_1, ← HF.out.ln0_2] at he_; subst he_; refine ⟨_, rfl, ?_⟩; have nr_ := (bsZ RG.out hb); obtain ⟨lo1, hi1, hx0_, hx1_, hx2_, ha_, hz_, _⟩ := Ob_mk3 (base := w.heap.size) ho0 ho1 ho2 hb (below_le Zd) (Nat.succ_le_of_lt (blk_lt (have z0_ := BK1; Zg))); have X1 := am_ hx0_; have X2 := am_ hx1_; have X3 := am_ hx2_; have OX1 := am_ (And.intro ha_ hz_); clear hx0_ hx1_ hx2_ ha_ hz_ ho0 ho1 ho2; replace HB := (bsZ Zd hb); replace BK0 := (have z0_ := BK0; bkZ hb); replace BK1 := (have z0_ := BK1; bkZ hb); clear hb; refine ci3 BK0 ?_; intros; refine ci4 BK1 ?_; intros; clear RG; have RG := nr_; clear nr_; clear hHeld; refine hK.out _ _ (have z0_ := BK0; have z1_ := BK1; Zbe) (fun hHeld => ?_); clear hK K; refine normZ 28 ?_; refine two_ (i := 3) (j := 8) (Ni := some 30) (Nj := some 6) (bT 11 4) #[true, true, true, false, false, false, false, false, true, false, false] rfl rfl rfl rfl (two_of HT_.out Zj) (by decide) (by decide) (fun K hK => ?_) (fun K hK => ?_)
   ·skip
    refine goes_ Try.func29 Zj rfl #[.agg #[.int .i64 a1_0, .int .i64 a1_1, .string a1_2, .int .i64 a1_3]] (by rfl) rfl rfl Zo ?_
    (with_reducible refine (laws_toCue.calls a1_0 a1_1 a1_2 a1_3 a1_0 a1_1 a1_2 a1_3 _ HF.out.to1).mono ?_)
    rintro e w1 ⟨rfl, hb⟩; refine ⟨_, rfl, ?_⟩; have nr_ := (bsZ RG.out hb); replace X1 := am_ (Ob_below (have z0_ := X1; Zcm) hb); replace X2 := am_ (Ob_below (have z0_ := X2; Zcm) hb); replace X3 := am_ (Ob_below (have z0_ := X3; Zcm) hb); replace HB := (bsZ Zd hb); replace BK0 := (have z0_ := BK0; bkZ hb); replace BK1 := (have z0_ := BK1; bkZ hb); clear hb; refine ci3 BK0 ?_; intros; refine ci4 BK1 ?_; intros; clear RG; have RG := nr_; clear nr_; clear hHeld; refine hK.out _ _ (have z0_ := BK0; have z1_ := BK1; Zbe) (fun hHeld => ?_); clear hK K; refine normZ 30 ?_; refine two_ (i := 4) (j := 8) (Ni := some 31) (Nj := some 6) (bT 11 5) #[true, true, true, true, false, false, false, false, true, false, false] rfl rfl rfl rfl (two_of HT_.out Zj) (by decide) (by decide) (fun K hK => ?_) (fun K hK => ?_)
    ·skip
     refine goes_ Try.func28 Zj rfl #[.agg #[.slice a_1 M0_0.length b_1, .slice a_2 M0_1.length b_2, .slice a_3 M0_2.length b_3], .agg #[.int .i64 a1_0, .int .i64 a1_1, .string a1_2, .int .i64 a1_3]] (by rfl) rfl rfl Zo ?_
     (with_reducible refine (spec_AddCue.calls k _ _ M0_0 _ _ M0_1 _ _ M0_2 a1_0 a1_1 a1_2 a1_3 q1 q2 q3 q4 _ (fullC (have z0_ := X1; Zcm) HF.out.tk0_0).1 (fullC X1.out HF.out.tk0_0).2.1 (fullC (have z0_ := X2; Zcm) HF.out.tk0_1).1 (fullC X2.out HF.out.tk0_1).2.1 (fullC (have z0_ := X3; Zcm) HF.out.tk0_2).1 (fullC X3.out HF.out.tk0_2).2.1 HF.out.sp).mono ?_)
     rintro e w1 ⟨v0_, v1_, v2_, rfl, ho0, ho1, ho2, hb⟩; refine ⟨_, rfl, ?_⟩; have nr_ := (bsZ RG.out hb); obtain ⟨lo4, hi4, hx0_, hx1_, hx2_, ha_, hz_, _⟩ := Ob_mk3 (base := w.heap.size) ho0 ho1 ho2 hb (below_le Zd) (Ob_hi (have z0_ := X1; Zcm)); have X4 := am_ hx0_; have X5 := am_ hx1_; have X6 := am_ hx2_; have OX4 := am_ (And.intro ha_ hz_); clear hx0_ hx1_ hx2_ ha_ hz_ ho0 ho1 ho2; replace X1 := am_ (Ob_below (have z0_ := X1; Zcm) hb); replace X2 := am_ (Ob_below (have z0_ := X2; Zcm) hb); replace X3 := am_ (Ob_below (have z0_ := X3; Zcm) hb); replace HB := (bsZ Zd hb); replace BK0 := (have z0_ := BK0; bkZ hb); replace BK1 := (have z0_ := BK1; bkZ hb); clear hb; refine ci3 BK0 ?_; intros; refine ci4 BK1 ?_; intros; clear RG; have RG := nr_; clear nr_; obtain ⟨a_4, b_4, e_⟩ := Ob_slice X4.out; subst e_; obtain ⟨a_5, b_5, e_⟩ := Ob_slice X5.out; subst e_; obtain ⟨a_6, b_6, e_⟩ := Ob_slice X6.out; subst e_; clear hHeld; refine hK.out _ _ (have z0_ := BK0; have z1_ := BK1; Zbe) (fun hHeld => ?_); clear hK K; refine normZ 31 ?_; refine pureZ HT_ 5 (some 26) (bT 11 6) ?_; refine pureZ HT_ 6 (some 32) (bT 11 7) ?_; refine pureZ HT_ 7 (some 33) (bT 11 8) ?_; refine one_ (i := 8) (N := some 6) (bT 11 9) rfl rfl (one_of HT_.out Zj) (by decide) (fun K hK => ?_); refine alloc_ #[.slice none 0 0, .slice none 0 0, .slice none 0 0] 32 (by rfl) rfl Zcf ?_; intro g_92 hg w1 hbox hb; have nk_ := am_ hbox; have ne_ := am_ (Zc : w.heap.size ≤ g_92); have OB92 := am_ ((have z0_ := X4; Zcn) : hi4 ≤ g_92); clear hbox hg; have nr_ := (bsZ RG.out hb); replace X1 := am_ (Ob_below (have z0_ := X1; Zcm) hb); replace X2 := am_ (Ob_below (have z0_ := X2; Zcm) hb); replace X3 := am_ (Ob_below (have z0_ := X3; Zcm) hb); replace X4 := am_ (Ob_below (have z0_ := X4; Zcm) hb); replace X5 := am_ (Ob_below (have z0_ := X5; Zcm) hb); replace X6 := am_ (Ob_below (have z0_ := X6; Zcm) hb); replace HB := (bsZ Zd hb); replace BK0 := (have z0_ := BK0; bkZ hb); replace BK1 := (have z0_ := BK1; bkZ hb); clear hb; refine ci3 BK0 ?_; intros; refine ci4 BK1 ?_; intros; have BK92 := nk_; have GE92 := ne_; clear nk_ ne_; clear RG; have RG := nr_; clear nr_; clear hHeld; refine hK.out _ _ (have z0_ := BK0; have z1_ := BK1; Zbe) (fun hHeld => ?_); clear hK K; refine normZ 6 ?_; exact norm_ Zax (hJ (a_1, b_1, a_2, b_2, a_3, b_3, a_4, b_4, a_5, b_5, a_6, b_6, g_92, lo4, hi4) _ ⟨RG.out, X4.out, X5.out, X6.out, BK92.out, GE92.out, Zco, ⟨Zco, Zco⟩, Zco⟩)
    ·skip
     refine alloc_ #[.slice none 0 0, .slice none 0 0, .slice none 0 0] 32 (by rfl) rfl Zcf ?_; intro g_92 hg w1 hbox hb; have nk_ := am_ hbox; have ne_ := am_ (Zc : w.heap.size ≤ g_92); have OB92 := am_ ((have z0_ := X1; Zcn) : hi1 ≤ g_92); clear hbox hg; have nr_ := (bsZ RG.out hb); replace X1 := am_ (Ob_below (have z0_ := X1; Zcm) hb); replace X2 := am_ (Ob_below (have z0_ := X2; Zcm) hb); replace X3 := am_ (Ob_below (have z0_ := X3; Zcm) hb); replace HB := (bsZ Zd hb); replace BK0 := (have z0_ := BK0; bkZ hb); replace BK1 := (have z0_ := BK1; bkZ hb); clear hb; refine ci3 BK0 ?_; intros; refine ci4 BK1 ?_; intros; have BK92 := nk_; have GE92 := ne_; clear nk_ ne_; clear RG; have RG := nr_; clear nr_; clear hHeld; refine hK.out _ _ (have z0_ := BK0; have z1_ := BK1; Zbe) (fun hHeld => ?_); clear hK K; refine normZ 6 ?_; refine one_ (i := 4) (N := some 31) #[true, true, true, true, true, false, false, false, true, false, false] rfl rfl (one_of HT_.out Zj) (by decide) (fun K hK => ?_); refine goes_ Try.func28 Zj rfl #[.agg #[.slice a_1 M0_0.length b_1, .slice a_2 M0_1.length b_2, .slice a_3 M0_2.length b_3], .agg #[.int .i64 a1_0, .int .i64 a1_1, .string a1_2, .int .i64 a1_3]] (by rfl) rfl rfl Zo ?_
     (with_reducible refine (spec_AddCue.calls k _ _ M0_0 _ _ M0_1 _ _ M0_2 a1_0 a1_1 a1_2 a1_3 q1 q2 q3 q4 _ (fullC (have z0_ := X1; Zcm) HF.out.tk0_0).1 (fullC X1.out HF.out.tk0_0).2.1 (fullC (have z0_ := X2; Zcm) HF.out.tk0_1).1 (fullC X2.out HF.out.tk0_1).2.1 (fullC (have z0_ := X3; Zcm) HF.out.tk0_2).1 (fullC X3.out HF.out.tk0_2).2.1 HF.out.sp).mono ?_)
     rintro e w1 ⟨v0_, v1_, v2_, rfl, ho0, ho1, ho2, hb⟩; refine ⟨_, rfl, ?_⟩; have nr_ := (bsZ RG.out hb); obtain ⟨lo4, hi4, hx0_, hx1_, hx2_, ha_, hz_, _⟩ := Ob_mk3 (base := w.heap.size) ho0 ho1 ho2 hb (below_le Zd) (Nat.succ_le_of_lt (blk_lt (have z0_ := BK92; Zg))); have X4 := am_ hx0_; have X5 := am_ hx1_; have X6 := am_ hx2_; have OX4 := am_ (And.intro ha_ hz_); clear hx0_ hx1_ hx2_ ha_ hz_ ho0 ho1 ho2; replace X1 := am_ (Ob_below (have z0_ := X1; Zcm) hb); replace X2 := am_ (Ob_below (have z0_ := X2; Zcm) hb); replace X3 := am_ (Ob_below (have z0_ := X3; Zcm) hb); replace HB := (bsZ Zd hb); replace BK0 := (have z0_ := BK0; bkZ hb); replace BK1 := (have z0_ := BK1; bkZ hb); replace BK92 := (have z0_ := BK92; bkZ hb); clear hb; refine ci3 BK0 ?_; intros; refine ci4 BK1 ?_; intros; refine ci3 BK92 ?_; intros; clear RG; have RG := nr_; clear nr_; obtain ⟨a_4, b_4, e_⟩ := Ob_slice X4.out; subst e_; obtain ⟨a_5, b_5, e_⟩ := Ob_slice X5.out; subst e_; obtain ⟨a_6, b_6, e_⟩ := Ob_slice X6.out; subst e_; clear hHeld; refine hK.out _ _ (have z0_ := BK0; have z1_ := BK1; Zbe) (fun hHeld => ?_); clear hK K; refine normZ 31 ?_; refine pureZ HT_ 5 (some 26) #[true, true, true, true, true, true, false, false, true, false, false] ?_; refine pureZ HT_ 6 (some 32) #[true, true, true, true, true, true, true, false, true, false, false] ?_; refine pureZ HT_ 7 (some 33) (bT 11 9) ?_; exact norm_ Zax (hJ (a_1, b_1, a_2, b_2, a_3, b_3, a_4, b_4, a_5, b_5, a_6, b_6, g_92, lo4, hi4) _ ⟨RG.out, X4.out, X5.out, X6.out, BK92.out, GE92.out, Zco, ⟨Zco, Zco⟩, Zco⟩)
   ·skip
    refine alloc_ #[.slice none 0 0, .slice none 0 0, .slice none 0 0] 32 (by rfl) rfl Zcf ?_; intro g_92 hg w1 hbox hb; have nk_ := am_ hbox; have ne_ := am_ (Zc : w.heap.size ≤ g_92); have OB92 := am_ ((have z0_ := X1; Zcn) : hi1 ≤ g_92); clear hbox hg; have nr_ := (bsZ RG.out hb); replace X1 := am_ (Ob_below (have z0_ := X1; Zcm) hb); replace X2 := am_ (Ob_below (have z0_ := X2; Zcm) hb); replace X3 := am_ (Ob_below (have z0_ := X3; Zcm) hb); replace HB := (bsZ Zd hb); replace BK0 := (have z0_ := BK0; bkZ hb); replace BK1 := (have z0_ := BK1; bkZ hb); clear hb; refine ci3 BK0 ?_; intros; refine ci4 BK1 ?_; intros; have BK92 := nk_; have GE92 := ne_; clear nk_ ne_; clear RG; have RG := nr_; clear nr_; clear hHeld; refine hK.out _ _ (have z0_ := BK0; have z1_ := BK1; Zbe) (fun hHeld => ?_); clear hK K; refine normZ 6 ?_; refine one_ (i := 3) (N := some 30) #[true, true, true, true, false, false, false, false, true, false, false] rfl rfl (one_of HT_.out Zj) (by decide) (fun K hK => ?_); refine goes_ Try.func29 Zj rfl #[.agg #[.int .i64 a1_0, .int .i64 a1_1, .string a1_2, .int .i64 a1_3]] (by rfl) rfl rfl Zo ?_
    (with_reducible refine (laws_toCue.calls a1_0 a1_1 a1_2 a1_3 a1_0 a1_1 a1_2 a1_3 _ HF.out.to1).mono ?_)
    rintro e w1 ⟨rfl, hb⟩; refine ⟨_, rfl, ?_⟩; have nr_ := (bsZ RG.out hb); replace X1 := am_ (Ob_below (have z0_ := X1; Zcm) hb); replace X2 := am_ (Ob_below (have z0_ := X2; Zcm) hb); replace X3 := am_ (Ob_below (have z0_ := X3; Zcm) hb); replace HB := (bsZ Zd hb); replace BK0 := (have z0_ := BK0; bkZ hb); replace BK1 := (have z0_ := BK1; bkZ hb); replace BK92 := (have z0_ := BK92; bkZ hb); clear hb; refine ci3 BK0 ?_; intros; refine ci4 BK1 ?_; intros; refine ci3 BK92 ?_; intros; clear RG; have RG := nr_; clear nr_; clear hHeld; refine hK.out _ _ (have z0_ := BK0; have z1_ := BK1; Zbe) (fun hHeld => ?_); clear hK K; refine normZ 30 ?_; refine one_ (i := 4) (N := some 31) #[true, true, true, true, true, false, false, false, true, false, false] rfl rfl (one_of HT_.out Zj) (by decide) (fun K hK => ?_); refine goes_ Try.func28 Zj rfl #[.agg #[.slice a_1 M0_0.length b_1, .slice a_2 M0_1.length b_2, .slice a_3 M0_2.length b_3], .agg #[.int .i64 a1_0, .int .i64 a1_1, .string a1_2, .int .i64 a1_3]] (by rfl) rfl rfl Zo ?_
    (with_reducible refine (spec_AddCue.calls k _ _ M0_0 _ _ M0_1 _ _ M0_2 a1_0 a1_1 a1_2 a1_3 q1 q2 q3 q4 _ (fullC (have z0_ := X1; Zcm) HF.out.tk0_0).1 (fullC X1.out HF.out.tk0_0).2.1 (fullC (have z0_ := X2; Zcm) HF.out.tk0_1).1 (fullC X2.out HF.out.tk0_1).2.1 (fullC (have z0_ := X3; Zcm) HF.out.tk0_2).1 (fullC X3.out HF.out.tk0_2).2.1 HF.out.sp).mono ?_)
    rintro e w1 ⟨v0_, v1_, v2_, rfl, ho0, ho1, ho2, hb⟩; refine ⟨_, rfl, ?_⟩; have nr_ := (bsZ RG.out hb); obtain ⟨lo4, hi4, hx0_, hx1_, hx2_, ha_, hz_, _⟩ := Ob_mk3 (base := w.heap.size) ho0 ho1 ho2 hb (below_le Zd) (Nat.succ_le_of_lt (blk_lt (have z0_ := BK92; Zg))); have X4 := am_ hx0_; have X5 := am_ hx1_; have X6 := am_ hx2_; have OX4 := am_ (And.intro ha_ hz_); clear hx0_ hx1_ hx2_ ha_ hz_ ho0 ho1 ho2; replace X1 := am_ (Ob_below (have z0_ := X1; Zcm) hb); replace X2 := am_ (Ob_below (have z0_ := X2; Zcm) hb); replace X3 := am_ (Ob_below (have z0_ := X3; Zcm) hb); replace HB := (bsZ Zd hb); replace BK0 := (have z0_ := BK0; bkZ hb); replace BK1 := (have z0_ := BK1; bkZ hb); replace BK92 := (have z0_ := BK92; bkZ hb); clear hb; refine ci3 BK0 ?_; intros; refine ci4 BK1 ?_; intros; refine ci3 BK92 ?_; intros; clear RG; have RG := nr_; clear nr_; obtain ⟨a_4, b_4, e_⟩ := Ob_slice X4.out; subst e_; obtain ⟨a_5, b_5, e_⟩ := Ob_slice X5.out; subst e_; obtain ⟨a_6, b_6, e_⟩ := Ob_slice X6.out; subst e_; clear hHeld; refine hK.out _ _ (have z0_ := BK0; have z1_ := BK1; Zbe) (fun hHeld => ?_); clear hK K; refine normZ 31 ?_; refine pureZ HT_ 5 (some 26) #[true, true, true, true, true, true, false, false, true, false, false] ?_; refine pureZ HT_ 6 (some 32) #[true, true, true, true, true, true, true, false, true, false, false] ?_; refine pureZ HT_ 7 (some 33) (bT 11 9) ?_; exact norm_ Zax (hJ (a_1, b_1, a_2, b_2, a_3, b_3, a_4, b_4, a_5, b_5, a_6, b_6, g_92, lo4, hi4) _ ⟨RG.out, X4.out, X5.out, X6.out, BK92.out, GE92.out, Zco, ⟨Zco, Zco⟩, Zco⟩)
  ·skip
   refine alloc_ #[.slice none 0 0, .slice none 0 0, .slice none 0 0] 32 (by rfl) rfl Zcf ?_; intro g_92 hg w1 hbox hb; have nk_ := am_ hbox; have ne_ := am_ (Zc : w.heap.size ≤ g_92); have OB92 := am_ ((have z0_ := BK1; Zap) : g_1 + 1 ≤ g_92); clear hbox hg; have nr_ := (bsZ RG.out hb); replace HB := (bsZ Zd hb); replace BK0 := (have z0_ := BK0; bkZ hb); replace BK1 := (have z0_ := BK1; bkZ hb); clear hb; refine ci3 BK0 ?_; intros; refine ci4 BK1 ?_; intros; have BK92 := nk_; have GE92 := ne_; clear nk_ ne_; clear RG; have RG := nr_; clear nr_; clear hHeld; refine hK.out _ _ (have z0_ := BK0; have z1_ := BK1; Zbe) (fun hHeld => ?_); clear hK K; refine normZ 6 ?_; refine one_ (i := 1) (N := some 28) #[true, true, true, false, false, false, false, false, true, false, false] rfl rfl (one_of HT_.out Zj) (by decide) (fun K hK => ?_); refine goes_ Try.func21 Zj rfl #[.agg #[.slice A0_0 l0_0.length c0_0, .slice A0_1 l0_1.length c0_1, .slice A0_2 l0_2.length c0_2], .bool false] (by rfl) rfl rfl Zo ?_
   (with_reducible refine (full_toShow.calls k _ _ l0_0 _ _ l0_1 _ _ l0_2 false L0_0 L0_1 L0_2 _ (Kd.C_below HR0_0.out Zd) HC0_0.out (Kd.C_below HR0_1.out Zd) HC0_1.out (Kd.C_below HR0_2.out Zd) HC0_2.out HF.out.fu0 HF.out.ne0_0 HF.out.ne0_1 HF.out.ne0_2).mono ?_)
   rintro e w1 ⟨a_1, b_1, a_2, b_2, a_3, b_3, he_, ho0, ho1, ho2, hb⟩; rw [← HF.out.ln0_0, ← HF.out.ln0_1, ← HF.out.ln0_2] at he_; subst he_; refine ⟨_, rfl, ?_⟩; have nr_ := (bsZ RG.out hb); obtain ⟨lo1, hi1, hx0_, hx1_, hx2_, ha_, hz_, _⟩ := Ob_mk3 (base := w.heap.size) ho0 ho1 ho2 hb (below_le Zd) (Nat.succ_le_of_lt (blk_lt (have z0_ := BK92; Zg))); have X1 := am_ hx0_; have X2 := am_ hx1_; have X3 := am_ hx2_; have OX1 := am_ (And.intro ha_ hz_); clear hx0_ hx1_ hx2_ ha_ hz_ ho0 ho1 ho2; replace HB := (bsZ Zd hb); replace BK0 := (have z0_ := BK0; bkZ hb); replace BK1 := (have z0_ := BK1; bkZ hb); replace BK92 := (have z0_ := BK92; bkZ hb); clear hb; refine ci3 BK0 ?_; intros; refine ci4 BK1 ?_; intros; refine ci3 BK92 ?_; intros; clear RG; have RG := nr_; clear nr_; clear hHeld; refine hK.out _ _ (have z0_ := BK0; have z1_ := BK1; Zbe) (fun hHeld => ?_); clear hK K; refine normZ 28 ?_; refine one_ (i := 3) (N := some 30) #[true, true, true, true, false, false, false, false, true, false, false] rfl rfl (one_of HT_.out Zj) (by decide) (fun K hK => ?_); refine goes_ Try.func29 Zj rfl #[.agg #[.int .i64 a1_0, .int .i64 a1_1, .string a1_2, .int .i64 a1_3]] (by rfl) rfl rfl Zo ?_
   (with_reducible refine (laws_toCue.calls a1_0 a1_1 a1_2 a1_3 a1_0 a1_1 a1_2 a1_3 _ HF.out.to1).mono ?_)
   rintro e w1 ⟨rfl, hb⟩; refine ⟨_, rfl, ?_⟩; have nr_ := (bsZ RG.out hb); replace X1 := am_ (Ob_below (have z0_ := X1; Zcm) hb); replace X2 := am_ (Ob_below (have z0_ := X2; Zcm) hb); replace X3 := am_ (Ob_below (have z0_ := X3; Zcm) hb); replace HB := (bsZ Zd hb); replace BK0 := (have z0_ := BK0; bkZ hb); replace BK1 := (have z0_ := BK1; bkZ hb); replace BK92 := (have z0_ := BK92; bkZ hb); clear hb; refine ci3 BK0 ?_; intros; refine ci4 BK1 ?_; intros; refine ci3 BK92 ?_; intros; clear RG; have RG := nr_; clear nr_; clear hHeld; refine hK.out _ _ (have z0_ := BK0; have z1_ := BK1; Zbe) (fun hHeld => ?_); clear hK K; refine normZ 30 ?_; refine one_ (i := 4) (N := some 31) #[true, true, true, true, true, false, false, false, true, false, false] rfl rfl (one_of HT_.out Zj) (by decide) (fun K hK => ?_); refine goes_ Try.func28 Zj rfl #[.agg #[.slice a_1 M0_0.length b_1, .slice a_2 M0_1.length b_2, .slice a_3 M0_2.length b_3], .agg #[.int .i64 a1_0, .int .i64 a1_1, .string a1_2, .int .i64 a1_3]] (by rfl) rfl rfl Zo ?_
   (with_reducible refine (spec_AddCue.calls k _ _ M0_0 _ _ M0_1 _ _ M0_2 a1_0 a1_1 a1_2 a1_3 q1 q2 q3 q4 _ (fullC (have z0_ := X1; Zcm) HF.out.tk0_0).1 (fullC X1.out HF.out.tk0_0).2.1 (fullC (have z0_ := X2; Zcm) HF.out.tk0_1).1 (fullC X2.out HF.out.tk0_1).2.1 (fullC (have z0_ := X3; Zcm) HF.out.tk0_2).1 (fullC X3.out HF.out.tk0_2).2.1 HF.out.sp).mono ?_)
   rintro e w1 ⟨v0_, v1_, v2_, rfl, ho0, ho1, ho2, hb⟩; refine ⟨_, rfl, ?_⟩; have nr_ := (bsZ RG.out hb); obtain ⟨lo4, hi4, hx0_, hx1_, hx2_, ha_, hz_, _⟩ := Ob_mk3 (base := w.heap.size) ho0 ho1 ho2 hb (below_le Zd) (Ob_hi (have z0_ := X1; Zcm)); have X4 := am_ hx0_; have X5 := am_ hx1_; have X6 := am_ hx2_; have OX4 := am_ (And.intro ha_ hz_); clear hx0_ hx1_ hx2_ ha_ hz_ ho0 ho1 ho2; replace HB := (bsZ Zd hb); replace BK0 := (have z0_ := BK0; bkZ hb); replace BK1 := (have z0_ := BK1; bkZ hb); replace BK92 := (have z0_ := BK92; bkZ hb); clear hb; refine ci3 BK0 ?_; intros; refine ci4 BK1 ?_; intros; refine ci3 BK92 ?_; intros; clear RG; have RG := nr_; clear nr_; obtain ⟨a_4, b_4, e_⟩ := Ob_slice X4.out; subst e_; obtain ⟨a_5, b_5, e_⟩ := Ob_slice X5.out; subst e_; obtain ⟨a_6, b_6, e_⟩ := Ob_slice X6.out; subst e_; clear hHeld; refine hK.out _ _ (have z0_ := BK0; have z1_ := BK1; Zbe) (fun hHeld => ?_); clear hK K; refine normZ 31 ?_; refine pureZ HT_ 5 (some 26) #[true, true, true, true, true, true, false, false, true, false, false] ?_; refine pureZ HT_ 6 (some 32) #[true, true, true, true, true, true, true, false, true, false, false] ?_; refine pureZ HT_ 7 (some 33) (bT 11 9) ?_; exact norm_ Zax (hJ (a_1, b_1, a_2, b_2, a_3, b_3, a_4, b_4, a_5, b_5, a_6, b_6, g_92, lo4, hi4) _ ⟨RG.out, X4.out, X5.out, X6.out, BK92.out, GE92.out, Zco, ⟨Zco, Zco⟩, Zco⟩)
 rintro ⟨a1_T, b1_T, a2_T, b2_T, a3_T, b3_T, a_7, b_7, a_8, b_8, a_9, b_9, g_92, lo7, hi7⟩ w1 ⟨hb, hx0_, hx1_, hx2_, hk_, hge_, hob_, hox_, hod_⟩
 dsimp only at hx0_ hx1_ hx2_ hk_ hge_ hob_ hox_ hod_
 replace HB := (bsZ Zd hb); replace BK0 := (have z0_ := BK0; bkZ hb); replace BK1 := (have z0_ := BK1; bkZ hb); clear hb; refine ci3 BK0 ?_; intros; refine ci4 BK1 ?_; intros; have X7 := am_ hx0_; have X8 := am_ hx1_; have X9 := am_ hx2_; have OX7 := am_ hox_; have BK92 := am_ hk_; have GE92 := am_ hge_; have OB92 := am_ hob_; have OD92 := am_ hod_; clear hx0_ hx1_ hx2_ hk_ hge_ hob_ hox_ hod_ RG hHeld; refine normP ?_; refine one_ (i := 9) (N := none) (bT 11 10) rfl rfl (one_of HT_.out Zj) (by decide) (fun K hK => ?_); obtain ⟨hcz44_0, hcz44_1, hcz44_2, hfz44_0, hfz44_1, hfz44_2⟩ := cz3 BK92
 skip
 refine skip_ (w1 := (((w1.setCell ⟨g_92, 0, none⟩ (.slice a_7 q1.length b_7)).setCell ⟨g_92, 1, none⟩ (.slice a_8 q2.length b_8)).setCell ⟨g_92, 2, none⟩ (.slice a_9 q3.length b_9))) (by rfl) rfl Zcf ?_; obtain ⟨w2, hw⟩ : ∃ w2, w2 = (((w1.setCell ⟨g_92, 0, none⟩ (.slice a_7 q1.length b_7)).setCell ⟨g_92, 1, none⟩ (.slice a_8 q2.length b_8)).setCell ⟨g_92, 2, none⟩ (.slice a_9 q3.length b_9)) := ⟨_, rfl⟩; rw [← hw]; clear hcz44_0 hfz44_0 hcz44_1 hfz44_1 hcz44_2 hfz44_2; have n0_ := am_ (Ob_set (g := g_92) (j := 2) (Ob_set (g := g_92) (j := 1) (Ob_set (g := g_92) (j := 0) (X7.out) Zcp (.slice a_7 q1.length b_7)) Zcp (.slice a_8 q2.length b_8)) Zcp (.slice a_9 q3.length b_9)); rw [← hw] at n0_; have n1_ := am_ (Ob_set (g := g_92) (j := 2) (Ob_set (g := g_92) (j := 1) (Ob_set (g := g_92) (j := 0) (X8.out) Zcp (.slice a_7 q1.length b_7)) Zcp (.slice a_8 q2.length b_8)) Zcp (.slice a_9 q3.length b_9)); rw [← hw] at n1_; have n2_ := am_ (Ob_set (g := g_92) (j := 2) (Ob_set (g := g_92) (j := 1) (Ob_set (g := g_92) (j := 0) (X9.out) Zcp (.slice a_7 q1.length b_7)) Zcp (.slice a_8 q2.length b_8)) Zcp (.slice a_9 q3.length b_9)); rw [← hw] at n2_; have nb_ : Aside0 (Below w.heap.size w w2) := ⟨by rw [hw]; exact below_set (below_set (below_set (HB.out) GE92.out) GE92.out) GE92.out⟩; have nk0_ : Aside0 (w2.heap[g_0]? = some (.cells #[.slice A0_0 l0_0.length c0_0, .slice A0_1 l0_1.length c0_1, .slice A0_2 l0_2.length c0_2] 26 (0, 0))) := ⟨by rw [hw]; exact blk_far (blk_far (blk_far (BK0.out) (show g_0 ≠ g_92 from Zcp) _) (show g_0 ≠ g_92 from Zcp) _) (show g_0 ≠ g_92 from Zcp) _⟩; have nk1_ : Aside0 (w2.heap[g_1]? = some (.cells #[.int .i64 a1_0, .int .i64 a1_1, .string a1_2, .int .i64 a1_3] 40 (0, 0))) := ⟨by rw [hw]; exact blk_far (blk_far (blk_far (BK1.out) (show g_1 ≠ g_92 from Zcp) _) (show g_1 ≠ g_92 from Zcp) _) (show g_1 ≠ g_92 from Zcp) _⟩; have nk92_ : Aside0 (w2.heap[g_92]? = some (.cells #[.slice a_7 q1.length b_7, .slice a_8 q2.length b_8, .slice a_9 q3.length b_9] 32 (0, 0))) := ⟨by rw [hw]; exact blk_put (cs := #[.slice a_7 q1.length b_7, .slice a_8 q2.length b_8, .slice none 0 0]) (blk_put (cs := #[.slice a_7 q1.length b_7, .slice none 0 0, .slice none 0 0]) (blk_put (cs := #[.slice none 0 0, .slice none 0 0, .slice none 0 0]) (BK92.out) 0 _ rfl) 1 _ rfl) 2 _ rfl⟩; clear X7; clear X8; clear X9; clear HB; have X7 := n0_; clear n0_; have X8 := n1_; clear n1_; have X9 := n2_; clear n2_; have HB := nb_; clear nb_ hw; clear BK0; have BK0 := nk0_; clear nk0_; clear BK1; have BK1 := nk1_; clear nk1_; clear BK92; have BK92 := nk92_; clear nk92_; refine ci3 BK0 ?_; intros; refine ci4 BK1 ?_; intros; refine ci3 BK92 ?_; intros; refine hK.out _ _ (have z0_ := BK0; have z1_ := BK1; Zbe) (fun hHeld => ?_); clear hK K; refine pureZ HT_ 10 (some 7) (bT 11 11) ?_; refine done_ (done_of HT_.out Zj) ?_; clear hHeld HT_ HW_
 go_wp2_with (first | ((with_reducible refine gate_callee (f := 21) rfl ?_); (try (refine gate_guard (by rfl) ?_; dsimp only)); refine goesL_ (some 35) rfl rfl Try.func21 Zj rfl #[.agg #[.slice A0_0 l0_0.length c0_0, .slice A0_1 l0_1.length c0_1, .slice A0_2 l0_2.length c0_2], .bool false] rfl Zo ?_; (with_reducible refine (full_toShow.calls k _ _ l0_0 _ _ l0_1 _ _ l0_2 false L0_0 L0_1 L0_2 _ (Kd.C_below HR0_0.out Zd) HC0_0.out (Kd.C_below HR0_1.out Zd) HC0_1.out (Kd.C_below HR0_2.out Zd) HC0_2.out HF.out.fu0 HF.out.ne0_0 HF.out.ne0_1 HF.out.ne0_2).mono ?_); rintro e w1 ⟨a_10, b_10, a_11, b_11, a_12, b_12, he_, ho0, ho1, ho2, hb⟩; rw [← HF.out.ln0_0, ← HF.out.ln0_1, ← HF.out.ln0_2] at he_; subst he_; refine ⟨_, rfl, ?_⟩; obtain ⟨lo10, hi10, hx0_, hx1_, hx2_, ha_, hz_, _⟩ := Ob_mk3 (base := w.heap.size) ho0 ho1 ho2 hb (below_le Zd) (Nat.max_le.2 ⟨Ob_hi (have z0_ := X7; Zcm), Nat.succ_le_of_lt (blk_lt (have z0_ := BK92; Zg))⟩); have X10 := am_ hx0_; have X11 := am_ hx1_; have X12 := am_ hx2_; have OX10 := am_ (And.intro ha_ hz_); clear hx0_ hx1_ hx2_ ha_ hz_ ho0 ho1 ho2; replace X7 := am_ (Ob_below (have z0_ := X7; Zcm) hb); replace X8 := am_ (Ob_below (have z0_ := X8; Zcm) hb); replace X9 := am_ (Ob_below (have z0_ := X9; Zcm) hb); replace HB := (bsZ Zd hb); replace BK0 := (have z0_ := BK0; bkZ hb); replace BK1 := (have z0_ := BK1; bkZ hb); replace BK92 := (have z0_ := BK92; bkZ hb); clear hb; refine ci3 BK0 ?_; intros; refine ci4 BK1 ?_; intros; refine ci3 BK92 ?_; intros) | ((with_reducible refine gate_dst (N := 8) rfl ?_); refine boxZ 8 #[.slice none 0 0, .slice none 0 0, .slice none 0 0] 32 ?_; intro g_93 hg w1 hbox hb; have nk_ := am_ hbox; have ne_ := am_ (Zc : w.heap.size ≤ g_93); have OB93 := am_ ((have z0_ := X10; Zcn) : hi10 ≤ g_93); clear hbox hg; replace X7 := am_ (Ob_below (have z0_ := X7; Zcm) hb); replace X8 := am_ (Ob_below (have z0_ := X8; Zcm) hb); replace X9 := am_ (Ob_below (have z0_ := X9; Zcm) hb); replace X10 := am_ (Ob_below (have z0_ := X10; Zcm) hb); replace X11 := am_ (Ob_below (have z0_ := X11; Zcm) hb); replace X12 := am_ (Ob_below (have z0_ := X12; Zcm) hb); replace HB := (bsZ Zd hb); replace BK0 := (have z0_ := BK0; bkZ hb); replace BK1 := (have z0_ := BK1; bkZ hb); replace BK92 := (have z0_ := BK92; bkZ hb); clear hb; refine ci3 BK0 ?_; intros; refine ci4 BK1 ?_; intros; refine ci3 BK92 ?_; intros; have BK93 := nk_; have GE93 := ne_; clear nk_ ne_; skip) | ((with_reducible refine gate_store (t := 32) (p := 8) rfl ?_); obtain ⟨hcz55_0, hcz55_1, hcz55_2, hfz55_0, hfz55_1, hfz55_2⟩ := cz3 BK93; refine store_event (t := 32) (p := 8) (v := ?vo55) (w1 := (((w1.setCell ⟨g_93, 0, none⟩ (.slice a_10 M0_0.length b_10)).setCell ⟨g_93, 1, none⟩ (.slice a_11 M0_1.length b_11)).setCell ⟨g_93, 2, none⟩ (.slice a_12 M0_2.length b_12))) ?hg ?ho ?hn ?hr ?_; (case ho => rfl); (case hg => rfl); (case hn => rfl); (case hr => first | (go_simp; done) | (go_simp; rfl)); intro w2 hw; clear hcz55_0 hfz55_0 hcz55_1 hfz55_1 hcz55_2 hfz55_2; have n0_ := am_ (Ob_set (g := g_93) (j := 2) (Ob_set (g := g_93) (j := 1) (Ob_set (g := g_93) (j := 0) (X7.out) Zcq (.slice a_10 M0_0.length b_10)) Zcq (.slice a_11 M0_1.length b_11)) Zcq (.slice a_12 M0_2.length b_12)); rw [← hw] at n0_; have n1_ := am_ (Ob_set (g := g_93) (j := 2) (Ob_set (g := g_93) (j := 1) (Ob_set (g := g_93) (j := 0) (X8.out) Zcq (.slice a_10 M0_0.length b_10)) Zcq (.slice a_11 M0_1.length b_11)) Zcq (.slice a_12 M0_2.length b_12)); rw [← hw] at n1_; have n2_ := am_ (Ob_set (g := g_93) (j := 2) (Ob_set (g := g_93) (j := 1) (Ob_set (g := g_93) (j := 0) (X9.out) Zcq (.slice a_10 M0_0.length b_10)) Zcq (.slice a_11 M0_1.length b_11)) Zcq (.slice a_12 M0_2.length b_12)); rw [← hw] at n2_; have n3_ := am_ (Ob_set (g := g_93) (j := 2) (Ob_set (g := g_93) (j := 1) (Ob_set (g := g_93) (j := 0) (X10.out) Zcq (.slice a_10 M0_0.length b_10)) Zcq (.slice a_11 M0_1.length b_11)) Zcq (.slice a_12 M0_2.length b_12)); rw [← hw] at n3_; have n4_ := am_ (Ob_set (g := g_93) (j := 2) (Ob_set (g := g_93) (j := 1) (Ob_set (g := g_93) (j := 0) (X11.out) Zcq (.slice a_10 M0_0.length b_10)) Zcq (.slice a_11 M0_1.length b_11)) Zcq (.slice a_12 M0_2.length b_12)); rw [← hw] at n4_; have n5_ := am_ (Ob_set (g := g_93) (j := 2) (Ob_set (g := g_93) (j := 1) (Ob_set (g := g_93) (j := 0) (X12.out) Zcq (.slice a_10 M0_0.length b_10)) Zcq (.slice a_11 M0_1.length b_11)) Zcq (.slice a_12 M0_2.length b_12)); rw [← hw] at n5_; have nb_ : Aside0 (Below w.heap.size w w2) := ⟨by rw [hw]; exact below_set (below_set (below_set (HB.out) GE93.out) GE93.out) GE93.out⟩; have nk0_ : Aside0 (w2.heap[g_0]? = some (.cells #[.slice A0_0 l0_0.length c0_0, .slice A0_1 l0_1.length c0_1, .slice A0_2 l0_2.length c0_2] 26 (0, 0))) := ⟨by rw [hw]; exact blk_far (blk_far (blk_far (BK0.out) (show g_0 ≠ g_93 from Zcq) _) (show g_0 ≠ g_93 from Zcq) _) (show g_0 ≠ g_93 from Zcq) _⟩; have nk1_ : Aside0 (w2.heap[g_1]? = some (.cells #[.int .i64 a1_0, .int .i64 a1_1, .string a1_2, .int .i64 a1_3] 40 (0, 0))) := ⟨by rw [hw]; exact blk_far (blk_far (blk_far (BK1.out) (show g_1 ≠ g_93 from Zcq) _) (show g_1 ≠ g_93 from Zcq) _) (show g_1 ≠ g_93 from Zcq) _⟩; have nk92_ : Aside0 (w2.heap[g_92]? = some (.cells #[.slice a_7 q1.length b_7, .slice a_8 q2.length b_8, .slice a_9 q3.length b_9] 32 (0, 0))) := ⟨by rw [hw]; exact blk_far (blk_far (blk_far (BK92.out) (show g_92 ≠ g_93 from Zcq) _) (show g_92 ≠ g_93 from Zcq) _) (show g_92 ≠ g_93 from Zcq) _⟩; have nk93_ : Aside0 (w2.heap[g_93]? = some (.cells #[.slice a_10 M0_0.length b_10, .slice a_11 M0_1.length b_11, .slice a_12 M0_2.length b_12] 32 (0, 0))) := ⟨by rw [hw]; exact blk_put (cs := #[.slice a_10 M0_0.length b_10, .slice a_11 M0_1.length b_11, .slice none 0 0]) (blk_put (cs := #[.slice a_10 M0_0.length b_10, .slice none 0 0, .slice none 0 0]) (blk_put (cs := #[.slice none 0 0, .slice none 0 0, .slice none 0 0]) (BK93.out) 0 _ rfl) 1 _ rfl) 2 _ rfl⟩; clear X7; clear X8; clear X9; clear X10; clear X11; clear X12; clear HB; have X7 := n0_; clear n0_; have X8 := n1_; clear n1_; have X9 := n2_; clear n2_; have X10 := n3_; clear n3_; have X11 := n4_; clear n4_; have X12 := n5_; clear n5_; have HB := nb_; clear nb_ hw; clear BK0; have BK0 := nk0_; clear nk0_; clear BK1; have BK1 := nk1_; clear nk1_; clear BK92; have BK92 := nk92_; clear nk92_; clear BK93; have BK93 := nk93_; clear nk93_; refine ci3 BK0 ?_; intros; refine ci4 BK1 ?_; intros; refine ci3 BK92 ?_; intros; refine ci3 BK93 ?_; intros))
 refine start_w (n := 10) (S := fun w' => w'.cell? ⟨g_93, 0, none⟩ = some (.slice a_10 M0_0.length b_10) ∧ w'.cell? ⟨g_93, 1, none⟩ = some (.slice a_11 M0_1.length b_11) ∧ w'.cell? ⟨g_93, 2, none⟩ = some (.slice a_12 M0_2.length b_12) ∧ w'.cell? ⟨g_1, 0, none⟩ = some (.int .i64 a1_0) ∧ w'.cell? ⟨g_1, 1, none⟩ = some (.int .i64 a1_1) ∧ w'.cell? ⟨g_1, 2, none⟩ = some (.string a1_2) ∧ w'.cell? ⟨g_1, 3, none⟩ = some (.int .i64 a1_3)) (ds := []) (bT 10 0) Zj rfl rfl (fun w1 hb => ?_); replace X7 := am_ (Ob_below (have z0_ := X7; Zcm) hb); replace X8 := am_ (Ob_below (have z0_ := X8; Zcm) hb); replace X9 := am_ (Ob_below (have z0_ := X9; Zcm) hb); replace X10 := am_ (Ob_below (have z0_ := X10; Zcm) hb); replace X11 := am_ (Ob_below (have z0_ := X11; Zcm) hb); replace X12 := am_ (Ob_below (have z0_ := X12; Zcm) hb); replace HB := (bsZ Zd hb); replace BK0 := (have z0_ := BK0; bkZ hb); replace BK1 := (have z0_ := BK1; bkZ hb); replace BK92 := (have z0_ := BK92; bkZ hb); replace BK93 := (have z0_ := BK93; bkZ hb); clear hb; refine ci3 BK0 ?_; intros; refine ci4 BK1 ?_; intros; refine ci3 BK92 ?_; intros; refine ci3 BK93 ?_; intros; refine ⟨⟨(blk_cell BK93.out 0).trans rfl, (blk_cell BK93.out 1).trans rfl, (blk_cell BK93.out 2).trans rfl, (blk_cell BK1.out 0).trans rfl, (blk_cell BK1.out 1).trans rfl, (blk_cell BK1.out 2).trans rfl, (blk_cell BK1.out 3).trans rfl⟩, fun hHeld => ?_⟩; refine with_tabW law_FnExactAddCue10.tab law_FnExactAddCue10.bits (fun HT_ HW_ => ?_); refine takeZ7 HT_ HW_ 0 (some 37) (bT 10 1) hHeld ?_; refine takeZ7 HT_ HW_ 1 (some 38) (bT 10 2) hHeld ?_; have RG := am_ (Below.refl w1.heap.size w1); refine join_ (σ := Option Addr × Nat × Option Addr × Nat × Option Addr × Nat × Nat × Nat × Nat) 2 (bT 10 8) (fun s_ => [(39, .agg #[.int .i64 a1_0, .int .i64 a1_1, .string a1_2, .int .i64 a1_3]), (40, .tuple #[.agg #[.slice s_.1 q1.length s_.2.1, .slice s_.2.2.1 q2.length s_.2.2.2.1, .slice s_.2.2.2.2.1 q3.length s_.2.2.2.2.2.1], .int .i64 q4]), (36, .tuple #[.agg #[.slice s_.1 q1.length s_.2.1, .slice s_.2.2.1 q2.length s_.2.2.2.1, .slice s_.2.2.2.2.1 q3.length s_.2.2.2.2.2.1], .int .i64 q4]), (41, .agg #[.slice s_.1 q1.length s_.2.1, .slice s_.2.2.1 q2.length s_.2.2.2.1, .slice s_.2.2.2.2.1 q3.length s_.2.2.2.2.2.1]), (42, .int .i64 q4), (9, .pointer (some ⟨s_.2.2.2.2.2.2.1, 0, none⟩))]) (fun s_ w' => Below w1.heap.size w1 w' ∧ Ob k108 108 w' w.heap.size s_.2.2.2.2.2.2.2.1 s_.2.2.2.2.2.2.2.2 (.slice s_.1 q1.length s_.2.1) q1 ∧ Ob k92 92 w' w.heap.size s_.2.2.2.2.2.2.2.1 s_.2.2.2.2.2.2.2.2 (.slice s_.2.2.1 q2.length s_.2.2.2.1) q2 ∧ Ob k43 43 w' w.heap.size s_.2.2.2.2.2.2.2.1 s_.2.2.2.2.2.2.2.2 (.slice s_.2.2.2.2.1 q3.length s_.2.2.2.2.2.1) q3 ∧ w'.heap[s_.2.2.2.2.2.2.1]? = some (.cells #[.slice none 0 0, .slice none 0 0, .slice none 0 0] 32 (0, 0)) ∧ w.heap.size ≤ s_.2.2.2.2.2.2.1 ∧ g_93 + 1 ≤ s_.2.2.2.2.2.2.1 ∧ (g_93 + 1 ≤ s_.2.2.2.2.2.2.2.1 ∧ s_.2.2.2.2.2.2.2.1 ≤ s_.2.2.2.2.2.2.2.2) ∧ (s_.2.2.2.2.2.2.1 < s_.2.2.2.2.2.2.2.1 ∨ s_.2.2.2.2.2.2.2.2 ≤ s_.2.2.2.2.2.2.1)) ?_ ?_
 rotate_left
 ·intro hJ
  refine two_ (i := 2) (j := 7) (Ni := some 39) (Nj := some 9) (bT 10 3) #[true, true, false, false, false, false, false, true, false, false] rfl rfl rfl rfl (two_of HT_.out Zj) (by decide) (by decide) (fun K hK => ?_) (fun K hK => ?_)
  ·skip
   refine goes_ Try.func29 Zj rfl #[.agg #[.int .i64 a1_0, .int .i64 a1_1, .string a1_2, .int .i64 a1_3]] (by rfl) rfl rfl Zo ?_
   (with_reducible refine (laws_toCue.calls a1_0 a1_1 a1_2 a1_3 a1_0 a1_1 a1_2 a1_3 _ HF.out.to1).mono ?_)
   rintro e w1 ⟨rfl, hb⟩; refine ⟨_, rfl, ?_⟩; have nr_ := (bsZ RG.out hb); replace X10 := am_ (Ob_below (have z0_ := X10; Zcm) hb); replace X11 := am_ (Ob_below (have z0_ := X11; Zcm) hb); replace X12 := am_ (Ob_below (have z0_ := X12; Zcm) hb); replace HB := (bsZ Zd hb); replace BK93 := (have z0_ := BK93; bkZ hb); replace BK1 := (have z0_ := BK1; bkZ hb); clear hb; refine ci3 BK93 ?_; intros; refine ci4 BK1 ?_; intros; clear RG; have RG := nr_; clear nr_; clear hHeld; refine hK.out _ _ (have z0_ := BK93; have z1_ := BK1; Zbe) (fun hHeld => ?_); clear hK K; refine normZ 39 ?_; refine two_ (i := 3) (j := 7) (Ni := some 40) (Nj := some 9) (bT 10 4) #[true, true, true, false, false, false, false, true, false, false] rfl rfl rfl rfl (two_of HT_.out Zj) (by decide) (by decide) (fun K hK => ?_) (fun K hK => ?_)
   ·skip
    refine goes_ Try.func30 Zj rfl #[.agg #[.slice a_10 M0_0.length b_10, .slice a_11 M0_1.length b_11, .slice a_12 M0_2.length b_12], .agg #[.int .i64 a1_0, .int .i64 a1_1, .string a1_2, .int .i64 a1_3]] (by rfl) rfl rfl Zo ?_
    (with_reducible refine (impl_AddCue.calls k _ _ M0_0 _ _ M0_1 _ _ M0_2 a1_0 a1_1 a1_2 a1_3 q1 q2 q3 q4 _ (fullC (have z0_ := X10; Zcm) HF.out.tk0_0).1 (fullC X10.out HF.out.tk0_0).2.1 (fullC (have z0_ := X11; Zcm) HF.out.tk0_1).1 (fullC X11.out HF.out.tk0_1).2.1 (fullC (have z0_ := X12; Zcm) HF.out.tk0_2).1 (fullC X12.out HF.out.tk0_2).2.1 HF.out.im).mono ?_)
    rintro e w1 ⟨v0_, v1_, v2_, rfl, ho0, ho1, ho2, hb⟩; refine ⟨_, rfl, ?_⟩; have nr_ := (bsZ RG.out hb); obtain ⟨lo13, hi13, hx0_, hx1_, hx2_, ha_, hz_, _⟩ := Ob_mk3 (base := w.heap.size) ho0 ho1 ho2 hb (below_le Zd) (Nat.succ_le_of_lt (blk_lt (have z0_ := BK93; Zg))); have X13 := am_ hx0_; have X14 := am_ hx1_; have X15 := am_ hx2_; have OX13 := am_ (And.intro ha_ hz_); clear hx0_ hx1_ hx2_ ha_ hz_ ho0 ho1 ho2; replace X10 := am_ (Ob_below (have z0_ := X10; Zcm) hb); replace X11 := am_ (Ob_below (have z0_ := X11; Zcm) hb); replace X12 := am_ (Ob_below (have z0_ := X12; Zcm) hb); replace HB := (bsZ Zd hb); replace BK93 := (have z0_ := BK93; bkZ hb); replace BK1 := (have z0_ := BK1; bkZ hb); clear hb; refine ci3 BK93 ?_; intros; refine ci4 BK1 ?_; intros; clear RG; have RG := nr_; clear nr_; obtain ⟨a_13, b_13, e_⟩ := Ob_slice X13.out; subst e_; obtain ⟨a_14, b_14, e_⟩ := Ob_slice X14.out; subst e_; obtain ⟨a_15, b_15, e_⟩ := Ob_slice X15.out; subst e_; clear hHeld; refine hK.out _ _ (have z0_ := BK93; have z1_ := BK1; Zbe) (fun hHeld => ?_); clear hK K; refine normZ 40 ?_; refine pureZ HT_ 4 (some 36) (bT 10 5) ?_; refine pureZ HT_ 5 (some 41) (bT 10 6) ?_; refine pureZ HT_ 6 (some 42) (bT 10 7) ?_; refine one_ (i := 7) (N := some 9) (bT 10 8) rfl rfl (one_of HT_.out Zj) (by decide) (fun K hK => ?_); refine alloc_ #[.slice none 0 0, .slice none 0 0, .slice none 0 0] 32 (by rfl) rfl Zcf ?_; intro g_94 hg w1 hbox hb; have nk_ := am_ hbox; have ne_ := am_ (Zc : w.heap.size ≤ g_94); have OB94 := am_ ((have z0_ := X13; Zcn) : hi13 ≤ g_94); clear hbox hg; have nr_ := (bsZ RG.out hb); replace X10 := am_ (Ob_below (have z0_ := X10; Zcm) hb); replace X11 := am_ (Ob_below (have z0_ := X11; Zcm) hb); replace X12 := am_ (Ob_below (have z0_ := X12; Zcm) hb); replace X13 := am_ (Ob_below (have z0_ := X13; Zcm) hb); replace X14 := am_ (Ob_below (have z0_ := X14; Zcm) hb); replace X15 := am_ (Ob_below (have z0_ := X15; Zcm) hb); replace HB := (bsZ Zd hb); replace BK93 := (have z0_ := BK93; bkZ hb); replace BK1 := (have z0_ := BK1; bkZ hb); clear hb; refine ci3 BK93 ?_; intros; refine ci4 BK1 ?_; intros; have BK94 := nk_; have GE94 := ne_; clear nk_ ne_; clear RG; have RG := nr_; clear nr_; clear hHeld; refine hK.out _ _ (have z0_ := BK93; have z1_ := BK1; Zbe) (fun hHeld => ?_); clear hK K; refine normZ 9 ?_; exact norm_ Zax (hJ (a_13, b_13, a_14, b_14, a_15, b_15, g_94, lo13, hi13) _ ⟨RG.out, X13.out, X14.out, X15.out, BK94.out, GE94.out, Zcr, ⟨Zcr, Zcr⟩, Zcr⟩)
   ·skip
    refine alloc_ #[.slice none 0 0, .slice none 0 0, .slice none 0 0] 32 (by rfl) rfl Zcf ?_; intro g_94 hg w1 hbox hb; have nk_ := am_ hbox; have ne_ := am_ (Zc : w.heap.size ≤ g_94); have OB94 := am_ ((have z0_ := BK93; Zap) : g_93 + 1 ≤ g_94); clear hbox hg; have nr_ := (bsZ RG.out hb); replace X10 := am_ (Ob_below (have z0_ := X10; Zcm) hb); replace X11 := am_ (Ob_below (have z0_ := X11; Zcm) hb); replace X12 := am_ (Ob_below (have z0_ := X12; Zcm) hb); replace HB := (bsZ Zd hb); replace BK93 := (have z0_ := BK93; bkZ hb); replace BK1 := (have z0_ := BK1; bkZ hb); clear hb; refine ci3 BK93 ?_; intros; refine ci4 BK1 ?_; intros; have BK94 := nk_; have GE94 := ne_; clear nk_ ne_; clear RG; have RG := nr_; clear nr_; clear hHeld; refine hK.out _ _ (have z0_ := BK93; have z1_ := BK1; Zbe) (fun hHeld => ?_); clear hK K; refine normZ 9 ?_; refine one_ (i := 3) (N := some 40) #[true, true, true, true, false, false, false, true, false, false] rfl rfl (one_of HT_.out Zj) (by decide) (fun K hK => ?_); refine goes_ Try.func30 Zj rfl #[.agg #[.slice a_10 M0_0.length b_10, .slice a_11 M0_1.length b_11, .slice a_12 M0_2.length b_12], .agg #[.int .i64 a1_0, .int .i64 a1_1, .string a1_2, .int .i64 a1_3]] (by rfl) rfl rfl Zo ?_
    (with_reducible refine (impl_AddCue.calls k _ _ M0_0 _ _ M0_1 _ _ M0_2 a1_0 a1_1 a1_2 a1_3 q1 q2 q3 q4 _ (fullC (have z0_ := X10; Zcm) HF.out.tk0_0).1 (fullC X10.out HF.out.tk0_0).2.1 (fullC (have z0_ := X11; Zcm) HF.out.tk0_1).1 (fullC X11.out HF.out.tk0_1).2.1 (fullC (have z0_ := X12; Zcm) HF.out.tk0_2).1 (fullC X12.out HF.out.tk0_2).2.1 HF.out.im).mono ?_)
    rintro e w1 ⟨v0_, v1_, v2_, rfl, ho0, ho1, ho2, hb⟩; refine ⟨_, rfl, ?_⟩; have nr_ := (bsZ RG.out hb); obtain ⟨lo13, hi13, hx0_, hx1_, hx2_, ha_, hz_, _⟩ := Ob_mk3 (base := w.heap.size) ho0 ho1 ho2 hb (below_le Zd) (Nat.succ_le_of_lt (blk_lt (have z0_ := BK94; Zg))); have X13 := am_ hx0_; have X14 := am_ hx1_; have X15 := am_ hx2_; have OX13 := am_ (And.intro ha_ hz_); clear hx0_ hx1_ hx2_ ha_ hz_ ho0 ho1 ho2; replace X10 := am_ (Ob_below (have z0_ := X10; Zcm) hb); replace X11 := am_ (Ob_below (have z0_ := X11; Zcm) hb); replace X12 := am_ (Ob_below (have z0_ := X12; Zcm) hb); replace HB := (bsZ Zd hb); replace BK93 := (have z0_ := BK93; bkZ hb); replace BK1 := (have z0_ := BK1; bkZ hb); replace BK94 := (have z0_ := BK94; bkZ hb); clear hb; refine ci3 BK93 ?_; intros; refine ci4 BK1 ?_; intros; refine ci3 BK94 ?_; intros; clear RG; have RG := nr_; clear nr_; obtain ⟨a_13, b_13, e_⟩ := Ob_slice X13.out; subst e_; obtain ⟨a_14, b_14, e_⟩ := Ob_slice X14.out; subst e_; obtain ⟨a_15, b_15, e_⟩ := Ob_slice X15.out; subst e_; clear hHeld; refine hK.out _ _ (have z0_ := BK93; have z1_ := BK1; Zbe) (fun hHeld => ?_); clear hK K; refine normZ 40 ?_; refine pureZ HT_ 4 (some 36) #[true, true, true, true, true, false, false, true, false, false] ?_; refine pureZ HT_ 5 (some 41) #[true, true, true, true, true, true, false, true, false, false] ?_; refine pureZ HT_ 6 (some 42) (bT 10 8) ?_; exact norm_ Zax (hJ (a_13, b_13, a_14, b_14, a_15, b_15, g_94, lo13, hi13) _ ⟨RG.out, X13.out, X14.out, X15.out, BK94.out, GE94.out, Zcr, ⟨Zcr, Zcr⟩, Zcr⟩)
  ·skip
   refine alloc_ #[.slice none 0 0, .slice none 0 0, .slice none 0 0] 32 (by rfl) rfl Zcf ?_; intro g_94 hg w1 hbox hb; have nk_ := am_ hbox; have ne_ := am_ (Zc : w.heap.size ≤ g_94); have OB94 := am_ ((have z0_ := BK93; Zap) : g_93 + 1 ≤ g_94); clear hbox hg; have nr_ := (bsZ RG.out hb); replace X10 := am_ (Ob_below (have z0_ := X10; Zcm) hb); replace X11 := am_ (Ob_below (have z0_ := X11; Zcm) hb); replace X12 := am_ (Ob_below (have z0_ := X12; Zcm) hb); replace HB := (bsZ Zd hb); replace BK93 := (have z0_ := BK93; bkZ hb); replace BK1 := (have z0_ := BK1; bkZ hb); clear hb; refine ci3 BK93 ?_; intros; refine ci4 BK1 ?_; intros; have BK94 := nk_; have GE94 := ne_; clear nk_ ne_; clear RG; have RG := nr_; clear nr_; clear hHeld; refine hK.out _ _ (have z0_ := BK93; have z1_ := BK1; Zbe) (fun hHeld => ?_); clear hK K; refine normZ 9 ?_; refine one_ (i := 2) (N := some 39) #[true, true, true, false, false, false, false, true, false, false] rfl rfl (one_of HT_.out Zj) (by decide) (fun K hK => ?_); refine goes_ Try.func29 Zj rfl #[.agg #[.int .i64 a1_0, .int .i64 a1_1, .string a1_2, .int .i64 a1_3]] (by rfl) rfl rfl Zo ?_
   (with_reducible refine (laws_toCue.calls a1_0 a1_1 a1_2 a1_3 a1_0 a1_1 a1_2 a1_3 _ HF.out.to1).mono ?_)
   rintro e w1 ⟨rfl, hb⟩; refine ⟨_, rfl, ?_⟩; have nr_ := (bsZ RG.out hb); replace X10 := am_ (Ob_below (have z0_ := X10; Zcm) hb); replace X11 := am_ (Ob_below (have z0_ := X11; Zcm) hb); replace X12 := am_ (Ob_below (have z0_ := X12; Zcm) hb); replace HB := (bsZ Zd hb); replace BK93 := (have z0_ := BK93; bkZ hb); replace BK1 := (have z0_ := BK1; bkZ hb); replace BK94 := (have z0_ := BK94; bkZ hb); clear hb; refine ci3 BK93 ?_; intros; refine ci4 BK1 ?_; intros; refine ci3 BK94 ?_; intros; clear RG; have RG := nr_; clear nr_; clear hHeld; refine hK.out _ _ (have z0_ := BK93; have z1_ := BK1; Zbe) (fun hHeld => ?_); clear hK K; refine normZ 39 ?_; refine one_ (i := 3) (N := some 40) #[true, true, true, true, false, false, false, true, false, false] rfl rfl (one_of HT_.out Zj) (by decide) (fun K hK => ?_); refine goes_ Try.func30 Zj rfl #[.agg #[.slice a_10 M0_0.length b_10, .slice a_11 M0_1.length b_11, .slice a_12 M0_2.length b_12], .agg #[.int .i64 a1_0, .int .i64 a1_1, .string a1_2, .int .i64 a1_3]] (by rfl) rfl rfl Zo ?_
   (with_reducible refine (impl_AddCue.calls k _ _ M0_0 _ _ M0_1 _ _ M0_2 a1_0 a1_1 a1_2 a1_3 q1 q2 q3 q4 _ (fullC (have z0_ := X10; Zcm) HF.out.tk0_0).1 (fullC X10.out HF.out.tk0_0).2.1 (fullC (have z0_ := X11; Zcm) HF.out.tk0_1).1 (fullC X11.out HF.out.tk0_1).2.1 (fullC (have z0_ := X12; Zcm) HF.out.tk0_2).1 (fullC X12.out HF.out.tk0_2).2.1 HF.out.im).mono ?_)
   rintro e w1 ⟨v0_, v1_, v2_, rfl, ho0, ho1, ho2, hb⟩; refine ⟨_, rfl, ?_⟩; have nr_ := (bsZ RG.out hb); obtain ⟨lo13, hi13, hx0_, hx1_, hx2_, ha_, hz_, _⟩ := Ob_mk3 (base := w.heap.size) ho0 ho1 ho2 hb (below_le Zd) (Nat.succ_le_of_lt (blk_lt (have z0_ := BK94; Zg))); have X13 := am_ hx0_; have X14 := am_ hx1_; have X15 := am_ hx2_; have OX13 := am_ (And.intro ha_ hz_); clear hx0_ hx1_ hx2_ ha_ hz_ ho0 ho1 ho2; replace X10 := am_ (Ob_below (have z0_ := X10; Zcm) hb); replace X11 := am_ (Ob_below (have z0_ := X11; Zcm) hb); replace X12 := am_ (Ob_below (have z0_ := X12; Zcm) hb); replace HB := (bsZ Zd hb); replace BK93 := (have z0_ := BK93; bkZ hb); replace BK1 := (have z0_ := BK1; bkZ hb); replace BK94 := (have z0_ := BK94; bkZ hb); clear hb; refine ci3 BK93 ?_; intros; refine ci4 BK1 ?_; intros; refine ci3 BK94 ?_; intros; clear RG; have RG := nr_; clear nr_; obtain ⟨a_13, b_13, e_⟩ := Ob_slice X13.out; subst e_; obtain ⟨a_14, b_14, e_⟩ := Ob_slice X14.out; subst e_; obtain ⟨a_15, b_15, e_⟩ := Ob_slice X15.out; subst e_; clear hHeld; refine hK.out _ _ (have z0_ := BK93; have z1_ := BK1; Zbe) (fun hHeld => ?_); clear hK K; refine normZ 40 ?_; refine pureZ HT_ 4 (some 36) #[true, true, true, true, true, false, false, true, false, false] ?_; refine pureZ HT_ 5 (some 41) #[true, true, true, true, true, true, false, true, false, false] ?_; refine pureZ HT_ 6 (some 42) (bT 10 8) ?_; exact norm_ Zax (hJ (a_13, b_13, a_14, b_14, a_15, b_15, g_94, lo13, hi13) _ ⟨RG.out, X13.out, X14.out, X15.out, BK94.out, GE94.out, Zcr, ⟨Zcr, Zcr⟩, Zcr⟩)
 rintro ⟨a_16, b_16, a_17, b_17, a_18, b_18, g_94, lo16, hi16⟩ w1 ⟨hb, hx0_, hx1_, hx2_, hk_, hge_, hob_, hox_, hod_⟩
 dsimp only at hx0_ hx1_ hx2_ hk_ hge_ hob_ hox_ hod_
 replace X7 := am_ (Ob_below (have z0_ := X7; Zcm) hb); replace X8 := am_ (Ob_below (have z0_ := X8; Zcm) hb); replace X9 := am_ (Ob_below (have z0_ := X9; Zcm) hb); replace X10 := am_ (Ob_below (have z0_ := X10; Zcm) hb); replace X11 := am_ (Ob_below (have z0_ := X11; Zcm) hb); replace X12 := am_ (Ob_below (have z0_ := X12; Zcm) hb); replace HB := (bsZ Zd hb); replace BK0 := (have z0_ := BK0; bkZ hb); replace BK1 := (have z0_ := BK1; bkZ hb); replace BK92 := (have z0_ := BK92; bkZ hb); replace BK93 := (have z0_ := BK93; bkZ hb); clear hb; refine ci3 BK0 ?_; intros; refine ci4 BK1 ?_; intros; refine ci3 BK92 ?_; intros; refine ci3 BK93 ?_; intros; have X16 := am_ hx0_; have X17 := am_ hx1_; have X18 := am_ hx2_; have OX16 := am_ hox_; have BK94 := am_ hk_; have GE94 := am_ hge_; have OB94 := am_ hob_; have OD94 := am_ hod_; clear hx0_ hx1_ hx2_ hk_ hge_ hob_ hox_ hod_ RG hHeld; refine normP ?_; refine one_ (i := 8) (N := none) (bT 10 9) rfl rfl (one_of HT_.out Zj) (by decide) (fun K hK => ?_); obtain ⟨hcz87_0, hcz87_1, hcz87_2, hfz87_0, hfz87_1, hfz87_2⟩ := cz3 BK94
 skip
 refine skip_ (w1 := (((w1.setCell ⟨g_94, 0, none⟩ (.slice a_16 q1.length b_16)).setCell ⟨g_94, 1, none⟩ (.slice a_17 q2.length b_17)).setCell ⟨g_94, 2, none⟩ (.slice a_18 q3.length b_18))) (by rfl) rfl Zcf ?_; obtain ⟨w2, hw⟩ : ∃ w2, w2 = (((w1.setCell ⟨g_94, 0, none⟩ (.slice a_16 q1.length b_16)).setCell ⟨g_94, 1, none⟩ (.slice a_17 q2.length b_17)).setCell ⟨g_94, 2, none⟩ (.slice a_18 q3.length b_18)) := ⟨_, rfl⟩; rw [← hw]; clear hcz87_0 hfz87_0 hcz87_1 hfz87_1 hcz87_2 hfz87_2; have n0_ := am_ (Ob_set (g := g_94) (j := 2) (Ob_set (g := g_94) (j := 1) (Ob_set (g := g_94) (j := 0) (X7.out) Zcs (.slice a_16 q1.length b_16)) Zcs (.slice a_17 q2.length b_17)) Zcs (.slice a_18 q3.length b_18)); rw [← hw] at n0_; have n1_ := am_ (Ob_set (g := g_94) (j := 2) (Ob_set (g := g_94) (j := 1) (Ob_set (g := g_94) (j := 0) (X8.out) Zcs (.slice a_16 q1.length b_16)) Zcs (.slice a_17 q2.length b_17)) Zcs (.slice a_18 q3.length b_18)); rw [← hw] at n1_; have n2_ := am_ (Ob_set (g := g_94) (j := 2) (Ob_set (g := g_94) (j := 1) (Ob_set (g := g_94) (j := 0) (X9.out) Zcs (.slice a_16 q1.length b_16)) Zcs (.slice a_17 q2.length b_17)) Zcs (.slice a_18 q3.length b_18)); rw [← hw] at n2_; have n3_ := am_ (Ob_set (g := g_94) (j := 2) (Ob_set (g := g_94) (j := 1) (Ob_set (g := g_94) (j := 0) (X10.out) Zcs (.slice a_16 q1.length b_16)) Zcs (.slice a_17 q2.length b_17)) Zcs (.slice a_18 q3.length b_18)); rw [← hw] at n3_; have n4_ := am_ (Ob_set (g := g_94) (j := 2) (Ob_set (g := g_94) (j := 1) (Ob_set (g := g_94) (j := 0) (X11.out) Zcs (.slice a_16 q1.length b_16)) Zcs (.slice a_17 q2.length b_17)) Zcs (.slice a_18 q3.length b_18)); rw [← hw] at n4_; have n5_ := am_ (Ob_set (g := g_94) (j := 2) (Ob_set (g := g_94) (j := 1) (Ob_set (g := g_94) (j := 0) (X12.out) Zcs (.slice a_16 q1.length b_16)) Zcs (.slice a_17 q2.length b_17)) Zcs (.slice a_18 q3.length b_18)); rw [← hw] at n5_; have n6_ := am_ (Ob_set (g := g_94) (j := 2) (Ob_set (g := g_94) (j := 1) (Ob_set (g := g_94) (j := 0) (X16.out) Zcs (.slice a_16 q1.length b_16)) Zcs (.slice a_17 q2.length b_17)) Zcs (.slice a_18 q3.length b_18)); rw [← hw] at n6_; have n7_ := am_ (Ob_set (g := g_94) (j := 2) (Ob_set (g := g_94) (j := 1) (Ob_set (g := g_94) (j := 0) (X17.out) Zcs (.slice a_16 q1.length b_16)) Zcs (.slice a_17 q2.length b_17)) Zcs (.slice a_18 q3.length b_18)); rw [← hw] at n7_; have n8_ := am_ (Ob_set (g := g_94) (j := 2) (Ob_set (g := g_94) (j := 1) (Ob_set (g := g_94) (j := 0) (X18.out) Zcs (.slice a_16 q1.length b_16)) Zcs (.slice a_17 q2.length b_17)) Zcs (.slice a_18 q3.length b_18)); rw [← hw] at n8_; have nb_ : Aside0 (Below w.heap.size w w2) := ⟨by rw [hw]; exact below_set (below_set (below_set (HB.out) GE94.out) GE94.out) GE94.out⟩; have nk0_ : Aside0 (w2.heap[g_0]? = some (.cells #[.slice A0_0 l0_0.length c0_0, .slice A0_1 l0_1.length c0_1, .slice A0_2 l0_2.length c0_2] 26 (0, 0))) := ⟨by rw [hw]; exact blk_far (blk_far (blk_far (BK0.out) (show g_0 ≠ g_94 from Zcs) _) (show g_0 ≠ g_94 from Zcs) _) (show g_0 ≠ g_94 from Zcs) _⟩; have nk1_ : Aside0 (w2.heap[g_1]? = some (.cells #[.int .i64 a1_0, .int .i64 a1_1, .string a1_2, .int .i64 a1_3] 40 (0, 0))) := ⟨by rw [hw]; exact blk_far (blk_far (blk_far (BK1.out) (show g_1 ≠ g_94 from Zcs) _) (show g_1 ≠ g_94 from Zcs) _) (show g_1 ≠ g_94 from Zcs) _⟩; have nk92_ : Aside0 (w2.heap[g_92]? = some (.cells #[.slice a_7 q1.length b_7, .slice a_8 q2.length b_8, .slice a_9 q3.length b_9] 32 (0, 0))) := ⟨by rw [hw]; exact blk_far (blk_far (blk_far (BK92.out) (show g_92 ≠ g_94 from Zcs) _) (show g_92 ≠ g_94 from Zcs) _) (show g_92 ≠ g_94 from Zcs) _⟩; have nk93_ : Aside0 (w2.heap[g_93]? = some (.cells #[.slice a_10 M0_0.length b_10, .slice a_11 M0_1.length b_11, .slice a_12 M0_2.length b_12] 32 (0, 0))) := ⟨by rw [hw]; exact blk_far (blk_far (blk_far (BK93.out) (show g_93 ≠ g_94 from Zcs) _) (show g_93 ≠ g_94 from Zcs) _) (show g_93 ≠ g_94 from Zcs) _⟩; have nk94_ : Aside0 (w2.heap[g_94]? = some (.cells #[.slice a_16 q1.length b_16, .slice a_17 q2.length b_17, .slice a_18 q3.length b_18] 32 (0, 0))) := ⟨by rw [hw]; exact blk_put (cs := #[.slice a_16 q1.length b_16, .slice a_17 q2.length b_17, .slice none 0 0]) (blk_put (cs := #[.slice a_16 q1.length b_16, .slice none 0 0, .slice none 0 0]) (blk_put (cs := #[.slice none 0 0, .slice none 0 0, .slice none 0 0]) (BK94.out) 0 _ rfl) 1 _ rfl) 2 _ rfl⟩; clear X7; clear X8; clear X9; clear X10; clear X11; clear X12; clear X16; clear X17; clear X18; clear HB; have X7 := n0_; clear n0_; have X8 := n1_; clear n1_; have X9 := n2_; clear n2_; have X10 := n3_; clear n3_; have X11 := n4_; clear n4_; have X12 := n5_; clear n5_; have X16 := n6_; clear n6_; have X17 := n7_; clear n7_; have X18 := n8_; clear n8_; have HB := nb_; clear nb_ hw; clear BK0; have BK0 := nk0_; clear nk0_; clear BK1; have BK1 := nk1_; clear nk1_; clear BK92; have BK92 := nk92_; clear nk92_; clear BK93; have BK93 := nk93_; clear nk93_; clear BK94; have BK94 := nk94_; clear nk94_; refine ci3 BK0 ?_; intros; refine ci4 BK1 ?_; intros; refine ci3 BK92 ?_; intros; refine ci3 BK93 ?_; intros; refine ci3 BK94 ?_; intros
 refine hK.out _ _ (have z0_ := BK93; have z1_ := BK1; Zbe) (fun hHeld => ?_); clear hK K; refine pureZ HT_ 9 (some 10) (bT 10 10) ?_; refine done_ (done_of HT_.out Zj) ?_; clear hHeld HT_ HW_
 go_wp2_with (first | ((with_reducible refine gate_callee (f := 23) rfl ?_); (try (refine gate_guard (by rfl) ?_; dsimp only)); refine goesL_ (some 45) rfl rfl Try.func23 Zj rfl #[.agg #[.slice a_16 q1.length b_16, .slice a_17 q2.length b_17, .slice a_18 q3.length b_18], .agg #[.slice a_7 q1.length b_7, .slice a_8 q2.length b_8, .slice a_9 q3.length b_9]] rfl Zo ?_; (with_reducible refine (laws_eqShow.calls k _ _ q1 _ _ q2 _ _ q3 _ _ q1 _ _ q2 _ _ q3 true _ (Ob_C (have z0_ := X16; Zcm)).2.2 (Ob_C X16.out).2.1 (Ob_C (have z0_ := X17; Zcm)).2.2 (Ob_C X17.out).2.1 (Ob_C (have z0_ := X18; Zcm)).2.2 (Ob_C X18.out).2.1 (Ob_C (have z0_ := X7; Zcm)).2.2 (Ob_C X7.out).2.1 (Ob_C (have z0_ := X8; Zcm)).2.2 (Ob_C X8.out).2.1 (Ob_C (have z0_ := X9; Zcm)).2.2 (Ob_C X9.out).2.1 HF.out.er).mono ?_); rintro e w1 ⟨rfl, hb⟩; refine ⟨_, rfl, ?_⟩; replace X7 := am_ (Ob_below (have z0_ := X7; Zcm) hb); replace X8 := am_ (Ob_below (have z0_ := X8; Zcm) hb); replace X9 := am_ (Ob_below (have z0_ := X9; Zcm) hb); replace X10 := am_ (Ob_below (have z0_ := X10; Zcm) hb); replace X11 := am_ (Ob_below (have z0_ := X11; Zcm) hb); replace X12 := am_ (Ob_below (have z0_ := X12; Zcm) hb); replace X16 := am_ (Ob_below (have z0_ := X16; Zcm) hb); replace X17 := am_ (Ob_below (have z0_ := X17; Zcm) hb); replace X18 := am_ (Ob_below (have z0_ := X18; Zcm) hb); replace HB := (bsZ Zd hb); replace BK0 := (have z0_ := BK0; bkZ hb); replace BK1 := (have z0_ := BK1; bkZ hb); replace BK92 := (have z0_ := BK92; bkZ hb); replace BK93 := (have z0_ := BK93; bkZ hb); replace BK94 := (have z0_ := BK94; bkZ hb); clear hb; refine ci3 BK0 ?_; intros; refine ci4 BK1 ?_; intros; refine ci3 BK92 ?_; intros; refine ci3 BK93 ?_; intros; refine ci3 BK94 ?_; intros))
 refine start_w (n := 5) (S := fun w' => w'.cell? ⟨g_93, 0, none⟩ = some (.slice a_10 M0_0.length b_10) ∧ w'.cell? ⟨g_93, 1, none⟩ = some (.slice a_11 M0_1.length b_11) ∧ w'.cell? ⟨g_93, 2, none⟩ = some (.slice a_12 M0_2.length b_12) ∧ w'.cell? ⟨g_0, 0, none⟩ = some (.slice A0_0 l0_0.length c0_0) ∧ w'.cell? ⟨g_0, 1, none⟩ = some (.slice A0_1 l0_1.length c0_1) ∧ w'.cell? ⟨g_0, 2, none⟩ = some (.slice A0_2 l0_2.length c0_2)) (ds := []) (bT 5 0) Zj rfl rfl (fun w1 hb => ?_); replace X7 := am_ (Ob_below (have z0_ := X7; Zcm) hb); replace X8 := am_ (Ob_below (have z0_ := X8; Zcm) hb); replace X9 := am_ (Ob_below (have z0_ := X9; Zcm) hb); replace X10 := am_ (Ob_below (have z0_ := X10; Zcm) hb); replace X11 := am_ (Ob_below (have z0_ := X11; Zcm) hb); replace X12 := am_ (Ob_below (have z0_ := X12; Zcm) hb); replace X16 := am_ (Ob_below (have z0_ := X16; Zcm) hb); replace X17 := am_ (Ob_below (have z0_ := X17; Zcm) hb); replace X18 := am_ (Ob_below (have z0_ := X18; Zcm) hb); replace HB := (bsZ Zd hb); replace BK0 := (have z0_ := BK0; bkZ hb); replace BK1 := (have z0_ := BK1; bkZ hb); replace BK92 := (have z0_ := BK92; bkZ hb); replace BK93 := (have z0_ := BK93; bkZ hb); replace BK94 := (have z0_ := BK94; bkZ hb); clear hb; refine ci3 BK0 ?_; intros; refine ci4 BK1 ?_; intros; refine ci3 BK92 ?_; intros; refine ci3 BK93 ?_; intros; refine ci3 BK94 ?_; intros; refine ⟨⟨(blk_cell BK93.out 0).trans rfl, (blk_cell BK93.out 1).trans rfl, (blk_cell BK93.out 2).trans rfl, (blk_cell BK0.out 0).trans rfl, (blk_cell BK0.out 1).trans rfl, (blk_cell BK0.out 2).trans rfl⟩, fun hHeld => ?_⟩; refine with_tabW law_FnExactAddCue.tab law_FnExactAddCue.bits (fun HT_ HW_ => ?_); refine takeZ6 HT_ HW_ 0 (some 52) (bT 5 1) hHeld ?_; refine takeZ6 HT_ HW_ 1 (some 53) (bT 5 2) hHeld ?_; refine one_ (i := 2) (N := some 54) (bT 5 3) rfl rfl (one_of HT_.out Zj) (by decide) (fun K hK => ?_); refine goes_ Try.func21 Zj rfl #[.agg #[.slice A0_0 l0_0.length c0_0, .slice A0_1 l0_1.length c0_1, .slice A0_2 l0_2.length c0_2], .bool false] (by rfl) rfl rfl Zo ?_
 (with_reducible refine (full_toShow.calls k _ _ l0_0 _ _ l0_1 _ _ l0_2 false L0_0 L0_1 L0_2 _ (Kd.C_below HR0_0.out Zd) HC0_0.out (Kd.C_below HR0_1.out Zd) HC0_1.out (Kd.C_below HR0_2.out Zd) HC0_2.out HF.out.fu0 HF.out.ne0_0 HF.out.ne0_1 HF.out.ne0_2).mono ?_)
 rintro e w1 ⟨a_19, b_19, a_20, b_20, a_21, b_21, he_, ho0, ho1, ho2, hb⟩; rw [← HF.out.ln0_0, ← HF.out.ln0_1, ← HF.out.ln0_2] at he_; subst he_; refine ⟨_, rfl, ?_⟩; obtain ⟨lo19, hi19, hx0_, hx1_, hx2_, ha_, hz_, _⟩ := Ob_mk3 (base := w.heap.size) ho0 ho1 ho2 hb (below_le Zd) (Nat.max_le.2 ⟨Ob_hi (have z0_ := X16; Zcm), Nat.succ_le_of_lt (blk_lt (have z0_ := BK94; Zg))⟩); have X19 := am_ hx0_; have X20 := am_ hx1_; have X21 := am_ hx2_; have OX19 := am_ (And.intro ha_ hz_); clear hx0_ hx1_ hx2_ ha_ hz_ ho0 ho1 ho2; replace X7 := am_ (Ob_below (have z0_ := X7; Zcm) hb); replace X8 := am_ (Ob_below (have z0_ := X8; Zcm) hb); replace X9 := am_ (Ob_below (have z0_ := X9; Zcm) hb); replace X10 := am_ (Ob_below (have z0_ := X10; Zcm) hb); replace X11 := am_ (Ob_below (have z0_ := X11; Zcm) hb); replace X12 := am_ (Ob_below (have z0_ := X12; Zcm) hb); replace X16 := am_ (Ob_below (have z0_ := X16; Zcm) hb); replace X17 := am_ (Ob_below (have z0_ := X17; Zcm) hb); replace X18 := am_ (Ob_below (have z0_ := X18; Zcm) hb); replace HB := (bsZ Zd hb); replace BK0 := (have z0_ := BK0; bkZ hb); replace BK1 := (have z0_ := BK1; bkZ hb); replace BK92 := (have z0_ := BK92; bkZ hb); replace BK93 := (have z0_ := BK93; bkZ hb); replace BK94 := (have z0_ := BK94; bkZ hb); clear hb; refine ci3 BK0 ?_; intros; refine ci4 BK1 ?_; intros; refine ci3 BK92 ?_; intros; refine ci3 BK93 ?_; intros; refine ci3 BK94 ?_; intros; clear hHeld; refine hK.out _ _ (by exact ⟨(blk_cell BK93.out 0).trans rfl, (blk_cell BK93.out 1).trans rfl, (blk_cell BK93.out 2).trans rfl, (blk_cell BK0.out 0).trans rfl, (blk_cell BK0.out 1).trans rfl, (blk_cell BK0.out 2).trans rfl⟩) (fun hHeld => ?_); clear hK K; refine normZ 54 ?_; refine one_ (i := 3) (N := some 55) (bT 5 4) rfl rfl (one_of HT_.out Zj) (by decide) (fun K hK => ?_); refine goes_ Try.func24 Zj rfl #[.agg #[.slice a_10 M0_0.length b_10, .slice a_11 M0_1.length b_11, .slice a_12 M0_2.length b_12], .agg #[.slice a_19 M0_0.length b_19, .slice a_20 M0_1.length b_20, .slice a_21 M0_2.length b_21]] (by rfl) rfl rfl Zo ?_
 (with_reducible refine (same_intactShow k M0_0.length M0_1.length M0_2.length _ _ _ _ _ _ _ _ _ _ _ _ L0_0 L0_1 L0_2 t0_0 t0_1 t0_2 _ (fullC (have z0_ := X10; Zcm) HF.out.tk0_0).2.2.2 (fullC X10.out HF.out.tk0_0).2.2.1 (fullC (have z0_ := X19; Zcm) HF.out.tk0_0).2.2.2 (fullC X19.out HF.out.tk0_0).2.2.1 HF.out.rm0_0 HF.out.jn0_0 HF.out.eq0_0 (fullC (have z0_ := X11; Zcm) HF.out.tk0_1).2.2.2 (fullC X11.out HF.out.tk0_1).2.2.1 (fullC (have z0_ := X20; Zcm) HF.out.tk0_1).2.2.2 (fullC X20.out HF.out.tk0_1).2.2.1 HF.out.rm0_1 HF.out.jn0_1 HF.out.eq0_1 (fullC (have z0_ := X12; Zcm) HF.out.tk0_2).2.2.2 (fullC X12.out HF.out.tk0_2).2.2.1 (fullC (have z0_ := X21; Zcm) HF.out.tk0_2).2.2.2 (fullC X21.out HF.out.tk0_2).2.2.1 HF.out.rm0_2 HF.out.jn0_2 HF.out.eq0_2).mono ?_)
 rintro e w1 ⟨rfl, hb⟩; refine ⟨_, rfl, ?_⟩; replace X7 := am_ (Ob_below (have z0_ := X7; Zcm) hb); replace X8 := am_ (Ob_below (have z0_ := X8; Zcm) hb); replace X9 := am_ (Ob_below (have z0_ := X9; Zcm) hb); replace X10 := am_ (Ob_below (have z0_ := X10; Zcm) hb); replace X11 := am_ (Ob_below (have z0_ := X11; Zcm) hb); replace X12 := am_ (Ob_below (have z0_ := X12; Zcm) hb); replace X16 := am_ (Ob_below (have z0_ := X16; Zcm) hb); replace X17 := am_ (Ob_below (have z0_ := X17; Zcm) hb); replace X18 := am_ (Ob_below (have z0_ := X18; Zcm) hb); replace X19 := am_ (Ob_below (have z0_ := X19; Zcm) hb); replace X20 := am_ (Ob_below (have z0_ := X20; Zcm) hb); replace X21 := am_ (Ob_below (have z0_ := X21; Zcm) hb); replace HB := (bsZ Zd hb); replace BK0 := (have z0_ := BK0; bkZ hb); replace BK1 := (have z0_ := BK1; bkZ hb); replace BK92 := (have z0_ := BK92; bkZ hb); replace BK93 := (have z0_ := BK93; bkZ hb); replace BK94 := (have z0_ := BK94; bkZ hb); clear hb; refine ci3 BK0 ?_; intros; refine ci4 BK1 ?_; intros; refine ci3 BK92 ?_; intros; refine ci3 BK93 ?_; intros; refine ci3 BK94 ?_; intros; clear hHeld; refine hK.out _ _ (by exact ⟨(blk_cell BK93.out 0).trans rfl, (blk_cell BK93.out 1).trans rfl, (blk_cell BK93.out 2).trans rfl, (blk_cell BK0.out 0).trans rfl, (blk_cell BK0.out 1).trans rfl, (blk_cell BK0.out 2).trans rfl⟩) (fun hHeld => ?_); clear hK K; refine normZ 55 ?_; refine pureZ HT_ 4 (some 56) (bT 5 5) ?_; refine done_ (done_of HT_.out Zj) ?_; clear hHeld HT_ HW_
 go_wp2_with (first | ((with_reducible refine gate_callee (f := 25) rfl ?_); (try (refine gate_guard (by rfl) ?_; dsimp only)); refine goesL_ (some 59) rfl rfl Try.func25 Zj rfl #[.agg #[.slice a_10 M0_0.length b_10, .slice a_11 M0_1.length b_11, .slice a_12 M0_2.length b_12], .int .i64 101] rfl Zo ?_; (with_reducible refine (laws_markShow.calls k _ _ M0_0 _ _ M0_1 _ _ M0_2 101 k1 M0_0k M0_1k M0_2k w _ Zd (Ob_R (lo := lo10) (hi := hi10) (fullT (have z0_ := X10; Zcm) HF.out.tk0_0)) (Ob_R (lo := lo10) (hi := hi10) (fullT (have z0_ := X11; Zcm) HF.out.tk0_1)) (Ob_R (lo := lo10) (hi := hi10) (fullT (have z0_ := X12; Zcm) HF.out.tk0_2)) HF.out.mk1).mono ?_); rintro e w1 ⟨rfl, hr0_, hr1_, hr2_, hB_, hk3_⟩; refine ⟨_, rfl, ?_⟩; have hk_ := Kept3 hk3_; clear hk3_; have n0_ := am_ (Ob_kept (have z0_ := X7; Zcm) hk_ Zct); have n1_ := am_ (Ob_kept (have z0_ := X8; Zcm) hk_ Zct); have n2_ := am_ (Ob_kept (have z0_ := X9; Zcm) hk_ Zct); have n3_ := am_ (Ob_kept (have z0_ := X16; Zcm) hk_ Zct); have n4_ := am_ (Ob_kept (have z0_ := X17; Zcm) hk_ Zct); have n5_ := am_ (Ob_kept (have z0_ := X18; Zcm) hk_ Zct); have n6_ := am_ (Ob_kept (have z0_ := X19; Zcm) hk_ Zct); have n7_ := am_ (Ob_kept (have z0_ := X20; Zcm) hk_ Zct); have n8_ := am_ (Ob_kept (have z0_ := X21; Zcm) hk_ Zct); have nk0_ := am_ ((hk_.2 g_0 (blk_lt (g := g_0) (o := .cells #[.slice A0_0 l0_0.length c0_0, .slice A0_1 l0_1.length c0_1, .slice A0_2 l0_2.length c0_2] 26 (0, 0)) (have z0_ := BK0; Zg)) Zct).trans (show _ = some (Obj.cells #[.slice A0_0 l0_0.length c0_0, .slice A0_1 l0_1.length c0_1, .slice A0_2 l0_2.length c0_2] 26 (0, 0)) from (have z0_ := BK0; Zg))); have nk1_ := am_ ((hk_.2 g_1 (blk_lt (g := g_1) (o := .cells #[.int .i64 a1_0, .int .i64 a1_1, .string a1_2, .int .i64 a1_3] 40 (0, 0)) (have z0_ := BK1; Zg)) Zct).trans (show _ = some (Obj.cells #[.int .i64 a1_0, .int .i64 a1_1, .string a1_2, .int .i64 a1_3] 40 (0, 0)) from (have z0_ := BK1; Zg))); have nk92_ := am_ ((hk_.2 g_92 (blk_lt (g := g_92) (o := .cells #[.slice a_7 q1.length b_7, .slice a_8 q2.length b_8, .slice a_9 q3.length b_9] 32 (0, 0)) (have z0_ := BK92; Zg)) Zct).trans (show _ = some (Obj.cells #[.slice a_7 q1.length b_7, .slice a_8 q2.length b_8, .slice a_9 q3.length b_9] 32 (0, 0)) from (have z0_ := BK92; Zg))); have nk93_ := am_ ((hk_.2 g_93 (blk_lt (g := g_93) (o := .cells #[.slice a_10 M0_0.length b_10, .slice a_11 M0_1.length b_11, .slice a_12 M0_2.length b_12] 32 (0, 0)) (have z0_ := BK93; Zg)) Zct).trans (show _ = some (Obj.cells #[.slice a_10 M0_0.length b_10, .slice a_11 M0_1.length b_11, .slice a_12 M0_2.length b_12] 32 (0, 0)) from (have z0_ := BK93; Zg))); have nk94_ := am_ ((hk_.2 g_94 (blk_lt (g := g_94) (o := .cells #[.slice a_16 q1.length b_16, .slice a_17 q2.length b_17, .slice a_18 q3.length b_18] 32 (0, 0)) (have z0_ := BK94; Zg)) Zct).trans (show _ = some (Obj.cells #[.slice a_16 q1.length b_16, .slice a_17 q2.length b_17, .slice a_18 q3.length b_18] 32 (0, 0)) from (have z0_ := BK94; Zg))); clear X7; clear X8; clear X9; clear X10; clear X11; clear X12; clear X16; clear X17; clear X18; clear X19; clear X20; clear X21; clear HB; have X7 := n0_; clear n0_; have X8 := n1_; clear n1_; have X9 := n2_; clear n2_; have X16 := n3_; clear n3_; have X17 := n4_; clear n4_; have X18 := n5_; clear n5_; have X19 := n6_; clear n6_; have X20 := n7_; clear n7_; have X21 := n8_; clear n8_; have HB := am_ hB_; clear hB_ hk_; clear BK0; have BK0 := nk0_; clear nk0_; refine ci3 BK0 ?_; intros; clear BK1; have BK1 := nk1_; clear nk1_; refine ci4 BK1 ?_; intros; clear BK92; have BK92 := nk92_; clear nk92_; refine ci3 BK92 ?_; intros; clear BK93; have BK93 := nk93_; clear nk93_; refine ci3 BK93 ?_; intros; clear BK94; have BK94 := nk94_; clear nk94_; refine ci3 BK94 ?_; intros; clear hr0_ hr1_ hr2_) | ((with_reducible refine gate_callee (f := 23) rfl ?_); (try (refine gate_guard (by rfl) ?_; dsimp only)); refine goesL_ (some 65) rfl rfl Try.func23 Zj rfl #[.agg #[.slice a_16 q1.length b_16, .slice a_17 q2.length b_17, .slice a_18 q3.length b_18], .agg #[.slice a_7 q1.length b_7, .slice a_8 q2.length b_8, .slice a_9 q3.length b_9]] rfl Zo ?_; (with_reducible refine (laws_eqShow.calls k _ _ q1 _ _ q2 _ _ q3 _ _ q1 _ _ q2 _ _ q3 true _ (Ob_C (have z0_ := X16; Zcm)).2.2 (Ob_C X16.out).2.1 (Ob_C (have z0_ := X17; Zcm)).2.2 (Ob_C X17.out).2.1 (Ob_C (have z0_ := X18; Zcm)).2.2 (Ob_C X18.out).2.1 (Ob_C (have z0_ := X7; Zcm)).2.2 (Ob_C X7.out).2.1 (Ob_C (have z0_ := X8; Zcm)).2.2 (Ob_C X8.out).2.1 (Ob_C (have z0_ := X9; Zcm)).2.2 (Ob_C X9.out).2.1 HF.out.er).mono ?_); rintro e w1 ⟨rfl, hb⟩; refine ⟨_, rfl, ?_⟩; replace X7 := am_ (Ob_below (have z0_ := X7; Zcm) hb); replace X8 := am_ (Ob_below (have z0_ := X8; Zcm) hb); replace X9 := am_ (Ob_below (have z0_ := X9; Zcm) hb); replace X16 := am_ (Ob_below (have z0_ := X16; Zcm) hb); replace X17 := am_ (Ob_below (have z0_ := X17; Zcm) hb); replace X18 := am_ (Ob_below (have z0_ := X18; Zcm) hb); replace X19 := am_ (Ob_below (have z0_ := X19; Zcm) hb); replace X20 := am_ (Ob_below (have z0_ := X20; Zcm) hb); replace X21 := am_ (Ob_below (have z0_ := X21; Zcm) hb); replace HB := (bsZ Zd hb); replace BK0 := (have z0_ := BK0; bkZ hb); replace BK1 := (have z0_ := BK1; bkZ hb); replace BK92 := (have z0_ := BK92; bkZ hb); replace BK93 := (have z0_ := BK93; bkZ hb); replace BK94 := (have z0_ := BK94; bkZ hb); clear hb; refine ci3 BK0 ?_; intros; refine ci4 BK1 ?_; intros; refine ci3 BK92 ?_; intros; refine ci3 BK93 ?_; intros; refine ci3 BK94 ?_; intros) | ((with_reducible refine gate_callee (f := 25) rfl ?_); (try (refine gate_guard (by rfl) ?_; dsimp only)); refine goesL_ (some 75) rfl rfl Try.func25 Zj rfl #[.agg #[.slice a_16 q1.length b_16, .slice a_17 q2.length b_17, .slice a_18 q3.length b_18], .int .i64 101] rfl Zo ?_; (with_reducible refine (laws_markShow.calls k _ _ q1 _ _ q2 _ _ q3 101 m1 q1k q2k q3k w _ Zd (Ob_R (lo := lo16) (hi := hi16) (have z0_ := X16; Zcm)) (Ob_R (lo := lo16) (hi := hi16) (have z0_ := X17; Zcm)) (Ob_R (lo := lo16) (hi := hi16) (have z0_ := X18; Zcm)) HF.out.mg).mono ?_); rintro e w1 ⟨rfl, hr0_, hr1_, hr2_, hB_, hk3_⟩; refine ⟨_, rfl, ?_⟩; have hk_ := Kept3 hk3_; clear hk3_; have n0_ := am_ (Ob_kept (have z0_ := X7; Zcm) hk_ Zct); have n1_ := am_ (Ob_kept (have z0_ := X8; Zcm) hk_ Zct); have n2_ := am_ (Ob_kept (have z0_ := X9; Zcm) hk_ Zct); have n3_ := am_ (Ob_kept (have z0_ := X19; Zcm) hk_ Zct); have n4_ := am_ (Ob_kept (have z0_ := X20; Zcm) hk_ Zct); have n5_ := am_ (Ob_kept (have z0_ := X21; Zcm) hk_ Zct); have nk0_ := am_ ((hk_.2 g_0 (blk_lt (g := g_0) (o := .cells #[.slice A0_0 l0_0.length c0_0, .slice A0_1 l0_1.length c0_1, .slice A0_2 l0_2.length c0_2] 26 (0, 0)) (have z0_ := BK0; Zg)) Zct).trans (show _ = some (Obj.cells #[.slice A0_0 l0_0.length c0_0, .slice A0_1 l0_1.length c0_1, .slice A0_2 l0_2.length c0_2] 26 (0, 0)) from (have z0_ := BK0; Zg))); have nk1_ := am_ ((hk_.2 g_1 (blk_lt (g := g_1) (o := .cells #[.int .i64 a1_0, .int .i64 a1_1, .string a1_2, .int .i64 a1_3] 40 (0, 0)) (have z0_ := BK1; Zg)) Zct).trans (show _ = some (Obj.cells #[.int .i64 a1_0, .int .i64 a1_1, .string a1_2, .int .i64 a1_3] 40 (0, 0)) from (have z0_ := BK1; Zg))); have nk92_ := am_ ((hk_.2 g_92 (blk_lt (g := g_92) (o := .cells #[.slice a_7 q1.length b_7, .slice a_8 q2.length b_8, .slice a_9 q3.length b_9] 32 (0, 0)) (have z0_ := BK92; Zg)) Zct).trans (show _ = some (Obj.cells #[.slice a_7 q1.length b_7, .slice a_8 q2.length b_8, .slice a_9 q3.length b_9] 32 (0, 0)) from (have z0_ := BK92; Zg))); have nk93_ := am_ ((hk_.2 g_93 (blk_lt (g := g_93) (o := .cells #[.slice a_10 M0_0.length b_10, .slice a_11 M0_1.length b_11, .slice a_12 M0_2.length b_12] 32 (0, 0)) (have z0_ := BK93; Zg)) Zct).trans (show _ = some (Obj.cells #[.slice a_10 M0_0.length b_10, .slice a_11 M0_1.length b_11, .slice a_12 M0_2.length b_12] 32 (0, 0)) from (have z0_ := BK93; Zg))); have nk94_ := am_ ((hk_.2 g_94 (blk_lt (g := g_94) (o := .cells #[.slice a_16 q1.length b_16, .slice a_17 q2.length b_17, .slice a_18 q3.length b_18] 32 (0, 0)) (have z0_ := BK94; Zg)) Zct).trans (show _ = some (Obj.cells #[.slice a_16 q1.length b_16, .slice a_17 q2.length b_17, .slice a_18 q3.length b_18] 32 (0, 0)) from (have z0_ := BK94; Zg))); obtain ⟨him, ng0_, ng1_, ng2_, hme_⟩ := Ob_fresh3 hr0_ hr1_ hr2_; clear X7; clear X8; clear X9; clear X16; clear X17; clear X18; clear X19; clear X20; clear X21; clear HB; have X7 := n0_; clear n0_; have X8 := n1_; clear n1_; have X9 := n2_; clear n2_; have X19 := n3_; clear n3_; have X20 := n4_; clear n4_; have X21 := n5_; clear n5_; have HB := am_ hB_; clear hB_ hk_; clear BK0; have BK0 := nk0_; clear nk0_; refine ci3 BK0 ?_; intros; clear BK1; have BK1 := nk1_; clear nk1_; refine ci4 BK1 ?_; intros; clear BK92; have BK92 := nk92_; clear nk92_; refine ci3 BK92 ?_; intros; clear BK93; have BK93 := nk93_; clear nk93_; refine ci3 BK93 ?_; intros; clear BK94; have BK94 := nk94_; clear nk94_; refine ci3 BK94 ?_; intros; have X16 := am_ ng0_; clear ng0_ hr0_; have X17 := am_ ng1_; clear ng1_ hr1_; have X18 := am_ ng2_; clear ng2_ hr2_; have OM_ := am_ (by rw [hme_]; exact (Ob_hi (have z0_ := X19; Zcm)) : hi19 ≤ him); clear hme_) | ((with_reducible refine gate_callee (f := 26) rfl ?_); (try (refine gate_guard (by rfl) ?_; dsimp only)); refine goesL_ (some 78) rfl rfl Try.func26 Zj rfl #[.agg #[.slice a_16 q1.length b_16, .slice a_17 q2.length b_17, .slice a_18 q3.length b_18], .int .i64 101] rfl Zo ?_; (with_reducible refine (calls_len3 HF.out.hl0 HF.out.hl1 HF.out.hl2 (laws_heldShow.calls k _ _ q1k _ _ q2k _ _ q3k 101 m1 _ (Ob_C (have z0_ := X16; Zcm)).2.2 (Ob_C X16.out).2.1 (Ob_C (have z0_ := X17; Zcm)).2.2 (Ob_C X17.out).2.1 (Ob_C (have z0_ := X18; Zcm)).2.2 (Ob_C X18.out).2.1 HF.out.hd)).mono ?_); rintro e w1 ⟨rfl, hb⟩; refine ⟨_, rfl, ?_⟩; replace X7 := am_ (Ob_below (have z0_ := X7; Zcm) hb); replace X8 := am_ (Ob_below (have z0_ := X8; Zcm) hb); replace X9 := am_ (Ob_below (have z0_ := X9; Zcm) hb); replace X19 := am_ (Ob_below (have z0_ := X19; Zcm) hb); replace X20 := am_ (Ob_below (have z0_ := X20; Zcm) hb); replace X21 := am_ (Ob_below (have z0_ := X21; Zcm) hb); replace X16 := am_ (Ob_below (have z0_ := X16; Zcm) hb); replace X17 := am_ (Ob_below (have z0_ := X17; Zcm) hb); replace X18 := am_ (Ob_below (have z0_ := X18; Zcm) hb); replace HB := (bsZ Zd hb); replace BK0 := (have z0_ := BK0; bkZ hb); replace BK1 := (have z0_ := BK1; bkZ hb); replace BK92 := (have z0_ := BK92; bkZ hb); replace BK93 := (have z0_ := BK93; bkZ hb); replace BK94 := (have z0_ := BK94; bkZ hb); clear hb; refine ci3 BK0 ?_; intros; refine ci4 BK1 ?_; intros; refine ci3 BK92 ?_; intros; refine ci3 BK93 ?_; intros; refine ci3 BK94 ?_; intros))
 refine start_w (n := 11) (S := fun w' => w'.cell? ⟨g_0, 0, none⟩ = some (.slice A0_0 l0_0.length c0_0) ∧ w'.cell? ⟨g_0, 1, none⟩ = some (.slice A0_1 l0_1.length c0_1) ∧ w'.cell? ⟨g_0, 2, none⟩ = some (.slice A0_2 l0_2.length c0_2) ∧ w'.cell? ⟨g_1, 0, none⟩ = some (.int .i64 a1_0) ∧ w'.cell? ⟨g_1, 1, none⟩ = some (.int .i64 a1_1) ∧ w'.cell? ⟨g_1, 2, none⟩ = some (.string a1_2) ∧ w'.cell? ⟨g_1, 3, none⟩ = some (.int .i64 a1_3)) (ds := []) (bT 11 0) Zj rfl rfl (fun w1 hb => ?_); replace X7 := am_ (Ob_below (have z0_ := X7; Zcm) hb); replace X8 := am_ (Ob_below (have z0_ := X8; Zcm) hb); replace X9 := am_ (Ob_below (have z0_ := X9; Zcm) hb); replace X19 := am_ (Ob_below (have z0_ := X19; Zcm) hb); replace X20 := am_ (Ob_below (have z0_ := X20; Zcm) hb); replace X21 := am_ (Ob_below (have z0_ := X21; Zcm) hb); replace X16 := am_ (Ob_below (have z0_ := X16; Zcm) hb); replace X17 := am_ (Ob_below (have z0_ := X17; Zcm) hb); replace X18 := am_ (Ob_below (have z0_ := X18; Zcm) hb); replace HB := (bsZ Zd hb); replace BK0 := (have z0_ := BK0; bkZ hb); replace BK1 := (have z0_ := BK1; bkZ hb); replace BK92 := (have z0_ := BK92; bkZ hb); replace BK93 := (have z0_ := BK93; bkZ hb); replace BK94 := (have z0_ := BK94; bkZ hb); clear hb; refine ci3 BK0 ?_; intros; refine ci4 BK1 ?_; intros; refine ci3 BK92 ?_; intros; refine ci3 BK93 ?_; intros; refine ci3 BK94 ?_; intros; refine ⟨⟨(blk_cell BK0.out 0).trans rfl, (blk_cell BK0.out 1).trans rfl, (blk_cell BK0.out 2).trans rfl, (blk_cell BK1.out 0).trans rfl, (blk_cell BK1.out 1).trans rfl, (blk_cell BK1.out 2).trans rfl, (blk_cell BK1.out 3).trans rfl⟩, fun hHeld => ?_⟩; refine with_tabW law_FnExactAddCue27.tab law_FnExactAddCue27.bits (fun HT_ HW_ => ?_); refine takeZ7 HT_ HW_ 0 (some 85) (bT 11 1) hHeld ?_; refine takeZ7 HT_ HW_ 2 (some 87) #[true, false, true, false, false, false, false, false, false, false, false] hHeld ?_; have RG := am_ (Below.refl w1.heap.size w1); refine join_ (σ := Option Addr × Nat × Option Addr × Nat × Option Addr × Nat × Option Addr × Nat × Option Addr × Nat × Option Addr × Nat × Nat × Nat × Nat) 2 (bT 11 9) (fun s_ => [(86, .agg #[.slice s_.1 M0_0.length s_.2.1, .slice s_.2.2.1 M0_1.length s_.2.2.2.1, .slice s_.2.2.2.2.1 M0_2.length s_.2.2.2.2.2.1]), (88, .agg #[.int .i64 a1_0, .int .i64 a1_1, .string a1_2, .int .i64 a1_3]), (89, .tuple #[.agg #[.slice s_.2.2.2.2.2.2.1 q1.length s_.2.2.2.2.2.2.2.1, .slice s_.2.2.2.2.2.2.2.2.1 q2.length s_.2.2.2.2.2.2.2.2.2.1, .slice s_.2.2.2.2.2.2.2.2.2.2.1 q3.length s_.2.2.2.2.2.2.2.2.2.2.2.1], .int .i64 q4]), (84, .tuple #[.agg #[.slice s_.2.2.2.2.2.2.1 q1.length s_.2.2.2.2.2.2.2.1, .slice s_.2.2.2.2.2.2.2.2.1 q2.length s_.2.2.2.2.2.2.2.2.2.1, .slice s_.2.2.2.2.2.2.2.2.2.2.1 q3.length s_.2.2.2.2.2.2.2.2.2.2.2.1], .int .i64 q4]), (90, .agg #[.slice s_.2.2.2.2.2.2.1 q1.length s_.2.2.2.2.2.2.2.1, .slice s_.2.2.2.2.2.2.2.2.1 q2.length s_.2.2.2.2.2.2.2.2.2.1, .slice s_.2.2.2.2.2.2.2.2.2.2.1 q3.length s_.2.2.2.2.2.2.2.2.2.2.2.1]), (91, .int .i64 q4), (14, .pointer (some ⟨s_.2.2.2.2.2.2.2.2.2.2.2.2.1, 0, none⟩))]) (fun s_ w' => Below w1.heap.size w1 w' ∧ Ob k108 108 w' w.heap.size s_.2.2.2.2.2.2.2.2.2.2.2.2.2.1 s_.2.2.2.2.2.2.2.2.2.2.2.2.2.2 (.slice s_.2.2.2.2.2.2.1 q1.length s_.2.2.2.2.2.2.2.1) q1 ∧ Ob k92 92 w' w.heap.size s_.2.2.2.2.2.2.2.2.2.2.2.2.2.1 s_.2.2.2.2.2.2.2.2.2.2.2.2.2.2 (.slice s_.2.2.2.2.2.2.2.2.1 q2.length s_.2.2.2.2.2.2.2.2.2.1) q2 ∧ Ob k43 43 w' w.heap.size s_.2.2.2.2.2.2.2.2.2.2.2.2.2.1 s_.2.2.2.2.2.2.2.2.2.2.2.2.2.2 (.slice s_.2.2.2.2.2.2.2.2.2.2.1 q3.length s_.2.2.2.2.2.2.2.2.2.2.2.1) q3 ∧ w'.heap[s_.2.2.2.2.2.2.2.2.2.2.2.2.1]? = some (.cells #[.slice none 0 0, .slice none 0 0, .slice none 0 0] 32 (0, 0)) ∧ w.heap.size ≤ s_.2.2.2.2.2.2.2.2.2.2.2.2.1 ∧ him ≤ s_.2.2.2.2.2.2.2.2.2.2.2.2.1 ∧ (him ≤ s_.2.2.2.2.2.2.2.2.2.2.2.2.2.1 ∧ s_.2.2.2.2.2.2.2.2.2.2.2.2.2.1 ≤ s_.2.2.2.2.2.2.2.2.2.2.2.2.2.2) ∧ (s_.2.2.2.2.2.2.2.2.2.2.2.2.1 < s_.2.2.2.2.2.2.2.2.2.2.2.2.2.1 ∨ s_.2.2.2.2.2.2.2.2.2.2.2.2.2.2 ≤ s_.2.2.2.2.2.2.2.2.2.2.2.2.1)) ?_ ?_
 rotate_left
 ·intro hJ
  refine two_ (i := 1) (j := 8) (Ni := some 86) (Nj := some 14) (bT 11 3) #[true, false, true, false, false, false, false, false, true, false, false] rfl rfl rfl rfl (two_of HT_.out Zj) (by decide) (by decide) (fun K hK => ?_) (fun K hK => ?_)
  ·skip
   refine goes_ Try.func21 Zj rfl #[.agg #[.slice A0_0 l0_0.length c0_0, .slice A0_1 l0_1.length c0_1, .slice A0_2 l0_2.length c0_2], .bool true] (by rfl) rfl rfl Zo ?_
   (with_reducible refine (laws_toShow.calls k _ _ l0_0 _ _ l0_1 _ _ l0_2 true M0_0 M0_1 M0_2 _ (Kd.C_below HR0_0.out Zd) HC0_0.out (Kd.C_below HR0_1.out Zd) HC0_1.out (Kd.C_below HR0_2.out Zd) HC0_2.out HF.out.to0).mono ?_)
   rintro e w1 ⟨v0_, v1_, v2_, rfl, ho0, ho1, ho2, hb⟩; refine ⟨_, rfl, ?_⟩; have nr_ := (bsZ RG.out hb); obtain ⟨lo22, hi22, hx0_, hx1_, hx2_, ha_, hz_, _⟩ := Ob_mk3 (base := w.heap.size) ho0 ho1 ho2 hb (below_le Zd) (Ob_hi (have z0_ := X16; Zcm)); have X22 := am_ hx0_; have X23 := am_ hx1_; have X24 := am_ hx2_; have OX22 := am_ (And.intro ha_ hz_); clear hx0_ hx1_ hx2_ ha_ hz_ ho0 ho1 ho2; replace HB := (bsZ Zd hb); replace BK0 := (have z0_ := BK0; bkZ hb); replace BK1 := (have z0_ := BK1; bkZ hb); clear hb; refine ci3 BK0 ?_; intros; refine ci4 BK1 ?_; intros; clear RG; have RG := nr_; clear nr_; obtain ⟨a_22, b_22, e_⟩ := Ob_slice X22.out; subst e_; obtain ⟨a_23, b_23, e_⟩ := Ob_slice X23.out; subst e_; obtain ⟨a_24, b_24, e_⟩ := Ob_slice X24.out; subst e_; clear hHeld; refine hK.out _ _ (have z0_ := BK0; have z1_ := BK1; Zbe) (fun hHeld => ?_); clear hK K; refine normZ 86 ?_; refine two_ (i := 3) (j := 8) (Ni := some 88) (Nj := some 14) (bT 11 4) #[true, true, true, false, false, false, false, false, true, false, false] rfl rfl rfl rfl (two_of HT_.out Zj) (by decide) (by decide) (fun K hK => ?_) (fun K hK => ?_)
   ·skip
    refine goes_ Try.func29 Zj rfl #[.agg #[.int .i64 a1_0, .int .i64 a1_1, .string a1_2, .int .i64 a1_3]] (by rfl) rfl rfl Zo ?_
    (with_reducible refine (laws_toCue.calls a1_0 a1_1 a1_2 a1_3 a1_0 a1_1 a1_2 a1_3 _ HF.out.to1).mono ?_)
    rintro e w1 ⟨rfl, hb⟩; refine ⟨_, rfl, ?_⟩; have nr_ := (bsZ RG.out hb); replace X22 := am_ (Ob_below (have z0_ := X22; Zcm) hb); replace X23 := am_ (Ob_below (have z0_ := X23; Zcm) hb); replace X24 := am_ (Ob_below (have z0_ := X24; Zcm) hb); replace HB := (bsZ Zd hb); replace BK0 := (have z0_ := BK0; bkZ hb); replace BK1 := (have z0_ := BK1; bkZ hb); clear hb; refine ci3 BK0 ?_; intros; refine ci4 BK1 ?_; intros; clear RG; have RG := nr_; clear nr_; clear hHeld; refine hK.out _ _ (have z0_ := BK0; have z1_ := BK1; Zbe) (fun hHeld => ?_); clear hK K; refine normZ 88 ?_; refine two_ (i := 4) (j := 8) (Ni := some 89) (Nj := some 14) (bT 11 5) #[true, true, true, true, false, false, false, false, true, false, false] rfl rfl rfl rfl (two_of HT_.out Zj) (by decide) (by decide) (fun K hK => ?_) (fun K hK => ?_)
    ·skip
     refine goes_ Try.func30 Zj rfl #[.agg #[.slice a_22 M0_0.length b_22, .slice a_23 M0_1.length b_23, .slice a_24 M0_2.length b_24], .agg #[.int .i64 a1_0, .int .i64 a1_1, .string a1_2, .int .i64 a1_3]] (by rfl) rfl rfl Zo ?_
     (with_reducible refine (impl_AddCue.calls k _ _ M0_0 _ _ M0_1 _ _ M0_2 a1_0 a1_1 a1_2 a1_3 q1 q2 q3 q4 _ (Ob_C (have z0_ := X22; Zcm)).2.2 (Ob_C X22.out).2.1 (Ob_C (have z0_ := X23; Zcm)).2.2 (Ob_C X23.out).2.1 (Ob_C (have z0_ := X24; Zcm)).2.2 (Ob_C X24.out).2.1 HF.out.im).mono ?_)
     rintro e w1 ⟨v0_, v1_, v2_, rfl, ho0, ho1, ho2, hb⟩; refine ⟨_, rfl, ?_⟩; have nr_ := (bsZ RG.out hb); obtain ⟨lo25, hi25, hx0_, hx1_, hx2_, ha_, hz_, _⟩ := Ob_mk3 (base := w.heap.size) ho0 ho1 ho2 hb (below_le Zd) (Ob_hi (have z0_ := X22; Zcm)); have X25 := am_ hx0_; have X26 := am_ hx1_; have X27 := am_ hx2_; have OX25 := am_ (And.intro ha_ hz_); clear hx0_ hx1_ hx2_ ha_ hz_ ho0 ho1 ho2; replace X22 := am_ (Ob_below (have z0_ := X22; Zcm) hb); replace X23 := am_ (Ob_below (have z0_ := X23; Zcm) hb); replace X24 := am_ (Ob_below (have z0_ := X24; Zcm) hb); replace HB := (bsZ Zd hb); replace BK0 := (have z0_ := BK0; bkZ hb); replace BK1 := (have z0_ := BK1; bkZ hb); clear hb; refine ci3 BK0 ?_; intros; refine ci4 BK1 ?_; intros; clear RG; have RG := nr_; clear nr_; obtain ⟨a_25, b_25, e_⟩ := Ob_slice X25.out; subst e_; obtain ⟨a_26, b_26, e_⟩ := Ob_slice X26.out; subst e_; obtain ⟨a_27, b_27, e_⟩ := Ob_slice X27.out; subst e_; clear hHeld; refine hK.out _ _ (have z0_ := BK0; have z1_ := BK1; Zbe) (fun hHeld => ?_); clear hK K; refine normZ 89 ?_; refine pureZ HT_ 5 (some 84) (bT 11 6) ?_; refine pureZ HT_ 6 (some 90) (bT 11 7) ?_; refine pureZ HT_ 7 (some 91) (bT 11 8) ?_; refine one_ (i := 8) (N := some 14) (bT 11 9) rfl rfl (one_of HT_.out Zj) (by decide) (fun K hK => ?_); refine alloc_ #[.slice none 0 0, .slice none 0 0, .slice none 0 0] 32 (by rfl) rfl Zcf ?_; intro g_95 hg w1 hbox hb; have nk_ := am_ hbox; have ne_ := am_ (Zc : w.heap.size ≤ g_95); have OB95 := am_ ((have z0_ := X25; Zcn) : hi25 ≤ g_95); clear hbox hg; have nr_ := (bsZ RG.out hb); replace X22 := am_ (Ob_below (have z0_ := X22; Zcm) hb); replace X23 := am_ (Ob_below (have z0_ := X23; Zcm) hb); replace X24 := am_ (Ob_below (have z0_ := X24; Zcm) hb); replace X25 := am_ (Ob_below (have z0_ := X25; Zcm) hb); replace X26 := am_ (Ob_below (have z0_ := X26; Zcm) hb); replace X27 := am_ (Ob_below (have z0_ := X27; Zcm) hb); replace HB := (bsZ Zd hb); replace BK0 := (have z0_ := BK0; bkZ hb); replace BK1 := (have z0_ := BK1; bkZ hb); clear hb; refine ci3 BK0 ?_; intros; refine ci4 BK1 ?_; intros; have BK95 := nk_; have GE95 := ne_; clear nk_ ne_; clear RG; have RG := nr_; clear nr_; clear hHeld; refine hK.out _ _ (have z0_ := BK0; have z1_ := BK1; Zbe) (fun hHeld => ?_); clear hK K; refine normZ 14 ?_; exact norm_ Zax (hJ (a_22, b_22, a_23, b_23, a_24, b_24, a_25, b_25, a_26, b_26, a_27, b_27, g_95, lo25, hi25) _ ⟨RG.out, X25.out, X26.out, X27.out, BK95.out, GE95.out, Zcu, ⟨Zcu, Zcu⟩, Zcu⟩)
    ·skip
     refine alloc_ #[.slice none 0 0, .slice none 0 0, .slice none 0 0] 32 (by rfl) rfl Zcf ?_; intro g_95 hg w1 hbox hb; have nk_ := am_ hbox; have ne_ := am_ (Zc : w.heap.size ≤ g_95); have OB95 := am_ ((have z0_ := X22; Zcn) : hi22 ≤ g_95); clear hbox hg; have nr_ := (bsZ RG.out hb); replace X22 := am_ (Ob_below (have z0_ := X22; Zcm) hb); replace X23 := am_ (Ob_below (have z0_ := X23; Zcm) hb); replace X24 := am_ (Ob_below (have z0_ := X24; Zcm) hb); replace HB := (bsZ Zd hb); replace BK0 := (have z0_ := BK0; bkZ hb); replace BK1 := (have z0_ := BK1; bkZ hb); clear hb; refine ci3 BK0 ?_; intros; refine ci4 BK1 ?_; intros; have BK95 := nk_; have GE95 := ne_; clear nk_ ne_; clear RG; have RG := nr_; clear nr_; clear hHeld; refine hK.out _ _ (have z0_ := BK0; have z1_ := BK1; Zbe) (fun hHeld => ?_); clear hK K; refine normZ 14 ?_; refine one_ (i := 4) (N := some 89) #[true, true, true, true, true, false, false, false, true, false, false] rfl rfl (one_of HT_.out Zj) (by decide) (fun K hK => ?_); refine goes_ Try.func30 Zj rfl #[.agg #[.slice a_22 M0_0.length b_22, .slice a_23 M0_1.length b_23, .slice a_24 M0_2.length b_24], .agg #[.int .i64 a1_0, .int .i64 a1_1, .string a1_2, .int .i64 a1_3]] (by rfl) rfl rfl Zo ?_
     (with_reducible refine (impl_AddCue.calls k _ _ M0_0 _ _ M0_1 _ _ M0_2 a1_0 a1_1 a1_2 a1_3 q1 q2 q3 q4 _ (Ob_C (have z0_ := X22; Zcm)).2.2 (Ob_C X22.out).2.1 (Ob_C (have z0_ := X23; Zcm)).2.2 (Ob_C X23.out).2.1 (Ob_C (have z0_ := X24; Zcm)).2.2 (Ob_C X24.out).2.1 HF.out.im).mono ?_)
     rintro e w1 ⟨v0_, v1_, v2_, rfl, ho0, ho1, ho2, hb⟩; refine ⟨_, rfl, ?_⟩; have nr_ := (bsZ RG.out hb); obtain ⟨lo25, hi25, hx0_, hx1_, hx2_, ha_, hz_, _⟩ := Ob_mk3 (base := w.heap.size) ho0 ho1 ho2 hb (below_le Zd) (Nat.succ_le_of_lt (blk_lt (have z0_ := BK95; Zg))); have X25 := am_ hx0_; have X26 := am_ hx1_; have X27 := am_ hx2_; have OX25 := am_ (And.intro ha_ hz_); clear hx0_ hx1_ hx2_ ha_ hz_ ho0 ho1 ho2; replace X22 := am_ (Ob_below (have z0_ := X22; Zcm) hb); replace X23 := am_ (Ob_below (have z0_ := X23; Zcm) hb); replace X24 := am_ (Ob_below (have z0_ := X24; Zcm) hb); replace HB := (bsZ Zd hb); replace BK0 := (have z0_ := BK0; bkZ hb); replace BK1 := (have z0_ := BK1; bkZ hb); replace BK95 := (have z0_ := BK95; bkZ hb); clear hb; refine ci3 BK0 ?_; intros; refine ci4 BK1 ?_; intros; refine ci3 BK95 ?_; intros; clear RG; have RG := nr_; clear nr_; obtain ⟨a_25, b_25, e_⟩ := Ob_slice X25.out; subst e_; obtain ⟨a_26, b_26, e_⟩ := Ob_slice X26.out; subst e_; obtain ⟨a_27, b_27, e_⟩ := Ob_slice X27.out; subst e_; clear hHeld; refine hK.out _ _ (have z0_ := BK0; have z1_ := BK1; Zbe) (fun hHeld => ?_); clear hK K; refine normZ 89 ?_; refine pureZ HT_ 5 (some 84) #[true, true, true, true, true, true, false, false, true, false, false] ?_; refine pureZ HT_ 6 (some 90) #[true, true, true, true, true, true, true, false, true, false, false] ?_; refine pureZ HT_ 7 (some 91) (bT 11 9) ?_; exact norm_ Zax (hJ (a_22, b_22, a_23, b_23, a_24, b_24, a_25, b_25, a_26, b_26, a_27, b_27, g_95, lo25, hi25) _ ⟨RG.out, X25.out, X26.out, X27.out, BK95.out, GE95.out, Zcu, ⟨Zcu, Zcu⟩, Zcu⟩)
   ·skip
    refine alloc_ #[.slice none 0 0, .slice none 0 0, .slice none 0 0] 32 (by rfl) rfl Zcf ?_; intro g_95 hg w1 hbox hb; have nk_ := am_ hbox; have ne_ := am_ (Zc : w.heap.size ≤ g_95); have OB95 := am_ ((have z0_ := X22; Zcn) : hi22 ≤ g_95); clear hbox hg; have nr_ := (bsZ RG.out hb); replace X22 := am_ (Ob_below (have z0_ := X22; Zcm) hb); replace X23 := am_ (Ob_below (have z0_ := X23; Zcm) hb); replace X24 := am_ (Ob_below (have z0_ := X24; Zcm) hb); replace HB := (bsZ Zd hb); replace BK0 := (have z0_ := BK0; bkZ hb); replace BK1 := (have z0_ := BK1; bkZ hb); clear hb; refine ci3 BK0 ?_; intros; refine ci4 BK1 ?_; intros; have BK95 := nk_; have GE95 := ne_; clear nk_ ne_; clear RG; have RG := nr_; clear nr_; clear hHeld; refine hK.out _ _ (have z0_ := BK0; have z1_ := BK1; Zbe) (fun hHeld => ?_); clear hK K; refine normZ 14 ?_; refine one_ (i := 3) (N := some 88) #[true, true, true, true, false, false, false, false, true, false, false] rfl rfl (one_of HT_.out Zj) (by decide) (fun K hK => ?_); refine goes_ Try.func29 Zj rfl #[.agg #[.int .i64 a1_0, .int .i64 a1_1, .string a1_2, .int .i64 a1_3]] (by rfl) rfl rfl Zo ?_
    (with_reducible refine (laws_toCue.calls a1_0 a1_1 a1_2 a1_3 a1_0 a1_1 a1_2 a1_3 _ HF.out.to1).mono ?_)
    rintro e w1 ⟨rfl, hb⟩; refine ⟨_, rfl, ?_⟩; have nr_ := (bsZ RG.out hb); replace X22 := am_ (Ob_below (have z0_ := X22; Zcm) hb); replace X23 := am_ (Ob_below (have z0_ := X23; Zcm) hb); replace X24 := am_ (Ob_below (have z0_ := X24; Zcm) hb); replace HB := (bsZ Zd hb); replace BK0 := (have z0_ := BK0; bkZ hb); replace BK1 := (have z0_ := BK1; bkZ hb); replace BK95 := (have z0_ := BK95; bkZ hb); clear hb; refine ci3 BK0 ?_; intros; refine ci4 BK1 ?_; intros; refine ci3 BK95 ?_; intros; clear RG; have RG := nr_; clear nr_; clear hHeld; refine hK.out _ _ (have z0_ := BK0; have z1_ := BK1; Zbe) (fun hHeld => ?_); clear hK K; refine normZ 88 ?_; refine one_ (i := 4) (N := some 89) #[true, true, true, true, true, false, false, false, true, false, false] rfl rfl (one_of HT_.out Zj) (by decide) (fun K hK => ?_); refine goes_ Try.func30 Zj rfl #[.agg #[.slice a_22 M0_0.length b_22, .slice a_23 M0_1.length b_23, .slice a_24 M0_2.length b_24], .agg #[.int .i64 a1_0, .int .i64 a1_1, .string a1_2, .int .i64 a1_3]] (by rfl) rfl rfl Zo ?_
    (with_reducible refine (impl_AddCue.calls k _ _ M0_0 _ _ M0_1 _ _ M0_2 a1_0 a1_1 a1_2 a1_3 q1 q2 q3 q4 _ (Ob_C (have z0_ := X22; Zcm)).2.2 (Ob_C X22.out).2.1 (Ob_C (have z0_ := X23; Zcm)).2.2 (Ob_C X23.out).2.1 (Ob_C (have z0_ := X24; Zcm)).2.2 (Ob_C X24.out).2.1 HF.out.im).mono ?_)
    rintro e w1 ⟨v0_, v1_, v2_, rfl, ho0, ho1, ho2, hb⟩; refine ⟨_, rfl, ?_⟩; have nr_ := (bsZ RG.out hb); obtain ⟨lo25, hi25, hx0_, hx1_, hx2_, ha_, hz_, _⟩ := Ob_mk3 (base := w.heap.size) ho0 ho1 ho2 hb (below_le Zd) (Nat.succ_le_of_lt (blk_lt (have z0_ := BK95; Zg))); have X25 := am_ hx0_; have X26 := am_ hx1_; have X27 := am_ hx2_; have OX25 := am_ (And.intro ha_ hz_); clear hx0_ hx1_ hx2_ ha_ hz_ ho0 ho1 ho2; replace X22 := am_ (Ob_below (have z0_ := X22; Zcm) hb); replace X23 := am_ (Ob_below (have z0_ := X23; Zcm) hb); replace X24 := am_ (Ob_below (have z0_ := X24; Zcm) hb); replace HB := (bsZ Zd hb); replace BK0 := (have z0_ := BK0; bkZ hb); replace BK1 := (have z0_ := BK1; bkZ hb); replace BK95 := (have z0_ := BK95; bkZ hb); clear hb; refine ci3 BK0 ?_; intros; refine ci4 BK1 ?_; intros; refine ci3 BK95 ?_; intros; clear RG; have RG := nr_; clear nr_; obtain ⟨a_25, b_25, e_⟩ := Ob_slice X25.out; subst e_; obtain ⟨a_26, b_26, e_⟩ := Ob_slice X26.out; subst e_; obtain ⟨a_27, b_27, e_⟩ := Ob_slice X27.out; subst e_; clear hHeld; refine hK.out _ _ (have z0_ := BK0; have z1_ := BK1; Zbe) (fun hHeld => ?_); clear hK K; refine normZ 89 ?_; refine pureZ HT_ 5 (some 84) #[true, true, true, true, true, true, false, false, true, false, false] ?_; refine pureZ HT_ 6 (some 90) #[true, true, true, true, true, true, true, false, true, false, false] ?_; refine pureZ HT_ 7 (some 91) (bT 11 9) ?_; exact norm_ Zax (hJ (a_22, b_22, a_23, b_23, a_24, b_24, a_25, b_25, a_26, b_26, a_27, b_27, g_95, lo25, hi25) _ ⟨RG.out, X25.out, X26.out, X27.out, BK95.out, GE95.out, Zcu, ⟨Zcu, Zcu⟩, Zcu⟩)
  ·skip
   refine alloc_ #[.slice none 0 0, .slice none 0 0, .slice none 0 0] 32 (by rfl) rfl Zcf ?_; intro g_95 hg w1 hbox hb; have nk_ := am_ hbox; have ne_ := am_ (Zc : w.heap.size ≤ g_95); have OB95 := am_ ((have z0_ := X16; Zcn) : him ≤ g_95); clear hbox hg; have nr_ := (bsZ RG.out hb); replace HB := (bsZ Zd hb); replace BK0 := (have z0_ := BK0; bkZ hb); replace BK1 := (have z0_ := BK1; bkZ hb); clear hb; refine ci3 BK0 ?_; intros; refine ci4 BK1 ?_; intros; have BK95 := nk_; have GE95 := ne_; clear nk_ ne_; clear RG; have RG := nr_; clear nr_; clear hHeld; refine hK.out _ _ (have z0_ := BK0; have z1_ := BK1; Zbe) (fun hHeld => ?_); clear hK K; refine normZ 14 ?_; refine one_ (i := 1) (N := some 86) #[true, true, true, false, false, false, false, false, true, false, false] rfl rfl (one_of HT_.out Zj) (by decide) (fun K hK => ?_); refine goes_ Try.func21 Zj rfl #[.agg #[.slice A0_0 l0_0.length c0_0, .slice A0_1 l0_1.length c0_1, .slice A0_2 l0_2.length c0_2], .bool true] (by rfl) rfl rfl Zo ?_
   (with_reducible refine (laws_toShow.calls k _ _ l0_0 _ _ l0_1 _ _ l0_2 true M0_0 M0_1 M0_2 _ (Kd.C_below HR0_0.out Zd) HC0_0.out (Kd.C_below HR0_1.out Zd) HC0_1.out (Kd.C_below HR0_2.out Zd) HC0_2.out HF.out.to0).mono ?_)
   rintro e w1 ⟨v0_, v1_, v2_, rfl, ho0, ho1, ho2, hb⟩; refine ⟨_, rfl, ?_⟩; have nr_ := (bsZ RG.out hb); obtain ⟨lo22, hi22, hx0_, hx1_, hx2_, ha_, hz_, _⟩ := Ob_mk3 (base := w.heap.size) ho0 ho1 ho2 hb (below_le Zd) (Nat.succ_le_of_lt (blk_lt (have z0_ := BK95; Zg))); have X22 := am_ hx0_; have X23 := am_ hx1_; have X24 := am_ hx2_; have OX22 := am_ (And.intro ha_ hz_); clear hx0_ hx1_ hx2_ ha_ hz_ ho0 ho1 ho2; replace HB := (bsZ Zd hb); replace BK0 := (have z0_ := BK0; bkZ hb); replace BK1 := (have z0_ := BK1; bkZ hb); replace BK95 := (have z0_ := BK95; bkZ hb); clear hb; refine ci3 BK0 ?_; intros; refine ci4 BK1 ?_; intros; refine ci3 BK95 ?_; intros; clear RG; have RG := nr_; clear nr_; obtain ⟨a_22, b_22, e_⟩ := Ob_slice X22.out; subst e_; obtain ⟨a_23, b_23, e_⟩ := Ob_slice X23.out; subst e_; obtain ⟨a_24, b_24, e_⟩ := Ob_slice X24.out; subst e_; clear hHeld; refine hK.out _ _ (have z0_ := BK0; have z1_ := BK1; Zbe) (fun hHeld => ?_); clear hK K; refine normZ 86 ?_; refine one_ (i := 3) (N := some 88) #[true, true, true, true, false, false, false, false, true, false, false] rfl rfl (one_of HT_.out Zj) (by decide) (fun K hK => ?_); refine goes_ Try.func29 Zj rfl #[.agg #[.int .i64 a1_0, .int .i64 a1_1, .string a1_2, .int .i64 a1_3]] (by rfl) rfl rfl Zo ?_
   (with_reducible refine (laws_toCue.calls a1_0 a1_1 a1_2 a1_3 a1_0 a1_1 a1_2 a1_3 _ HF.out.to1).mono ?_)
   rintro e w1 ⟨rfl, hb⟩; refine ⟨_, rfl, ?_⟩; have nr_ := (bsZ RG.out hb); replace X22 := am_ (Ob_below (have z0_ := X22; Zcm) hb); replace X23 := am_ (Ob_below (have z0_ := X23; Zcm) hb); replace X24 := am_ (Ob_below (have z0_ := X24; Zcm) hb); replace HB := (bsZ Zd hb); replace BK0 := (have z0_ := BK0; bkZ hb); replace BK1 := (have z0_ := BK1; bkZ hb); replace BK95 := (have z0_ := BK95; bkZ hb); clear hb; refine ci3 BK0 ?_; intros; refine ci4 BK1 ?_; intros; refine ci3 BK95 ?_; intros; clear RG; have RG := nr_; clear nr_; clear hHeld; refine hK.out _ _ (have z0_ := BK0; have z1_ := BK1; Zbe) (fun hHeld => ?_); clear hK K; refine normZ 88 ?_; refine one_ (i := 4) (N := some 89) #[true, true, true, true, true, false, false, false, true, false, false] rfl rfl (one_of HT_.out Zj) (by decide) (fun K hK => ?_); refine goes_ Try.func30 Zj rfl #[.agg #[.slice a_22 M0_0.length b_22, .slice a_23 M0_1.length b_23, .slice a_24 M0_2.length b_24], .agg #[.int .i64 a1_0, .int .i64 a1_1, .string a1_2, .int .i64 a1_3]] (by rfl) rfl rfl Zo ?_
   (with_reducible refine (impl_AddCue.calls k _ _ M0_0 _ _ M0_1 _ _ M0_2 a1_0 a1_1 a1_2 a1_3 q1 q2 q3 q4 _ (Ob_C (have z0_ := X22; Zcm)).2.2 (Ob_C X22.out).2.1 (Ob_C (have z0_ := X23; Zcm)).2.2 (Ob_C X23.out).2.1 (Ob_C (have z0_ := X24; Zcm)).2.2 (Ob_C X24.out).2.1 HF.out.im).mono ?_)
   rintro e w1 ⟨v0_, v1_, v2_, rfl, ho0, ho1, ho2, hb⟩; refine ⟨_, rfl, ?_⟩; have nr_ := (bsZ RG.out hb); obtain ⟨lo25, hi25, hx0_, hx1_, hx2_, ha_, hz_, _⟩ := Ob_mk3 (base := w.heap.size) ho0 ho1 ho2 hb (below_le Zd) (Ob_hi (have z0_ := X22; Zcm)); have X25 := am_ hx0_; have X26 := am_ hx1_; have X27 := am_ hx2_; have OX25 := am_ (And.intro ha_ hz_); clear hx0_ hx1_ hx2_ ha_ hz_ ho0 ho1 ho2; replace HB := (bsZ Zd hb); replace BK0 := (have z0_ := BK0; bkZ hb); replace BK1 := (have z0_ := BK1; bkZ hb); replace BK95 := (have z0_ := BK95; bkZ hb); clear hb; refine ci3 BK0 ?_; intros; refine ci4 BK1 ?_; intros; refine ci3 BK95 ?_; intros; clear RG; have RG := nr_; clear nr_; obtain ⟨a_25, b_25, e_⟩ := Ob_slice X25.out; subst e_; obtain ⟨a_26, b_26, e_⟩ := Ob_slice X26.out; subst e_; obtain ⟨a_27, b_27, e_⟩ := Ob_slice X27.out; subst e_; clear hHeld; refine hK.out _ _ (have z0_ := BK0; have z1_ := BK1; Zbe) (fun hHeld => ?_); clear hK K; refine normZ 89 ?_; refine pureZ HT_ 5 (some 84) #[true, true, true, true, true, true, false, false, true, false, false] ?_; refine pureZ HT_ 6 (some 90) #[true, true, true, true, true, true, true, false, true, false, false] ?_; refine pureZ HT_ 7 (some 91) (bT 11 9) ?_; exact norm_ Zax (hJ (a_22, b_22, a_23, b_23, a_24, b_24, a_25, b_25, a_26, b_26, a_27, b_27, g_95, lo25, hi25) _ ⟨RG.out, X25.out, X26.out, X27.out, BK95.out, GE95.out, Zcu, ⟨Zcu, Zcu⟩, Zcu⟩)
 rintro ⟨a1_T, b1_T, a2_T, b2_T, a3_T, b3_T, a_28, b_28, a_29, b_29, a_30, b_30, g_95, lo28, hi28⟩ w1 ⟨hb, hx0_, hx1_, hx2_, hk_, hge_, hob_, hox_, hod_⟩
 dsimp only at hx0_ hx1_ hx2_ hk_ hge_ hob_ hox_ hod_
 replace X7 := am_ (Ob_below (have z0_ := X7; Zcm) hb); replace X8 := am_ (Ob_below (have z0_ := X8; Zcm) hb); replace X9 := am_ (Ob_below (have z0_ := X9; Zcm) hb); replace X19 := am_ (Ob_below (have z0_ := X19; Zcm) hb); replace X20 := am_ (Ob_below (have z0_ := X20; Zcm) hb); replace X21 := am_ (Ob_below (have z0_ := X21; Zcm) hb); replace X16 := am_ (Ob_below (have z0_ := X16; Zcm) hb); replace X17 := am_ (Ob_below (have z0_ := X17; Zcm) hb); replace X18 := am_ (Ob_below (have z0_ := X18; Zcm) hb); replace HB := (bsZ Zd hb); replace BK0 := (have z0_ := BK0; bkZ hb); replace BK1 := (have z0_ := BK1; bkZ hb); replace BK92 := (have z0_ := BK92; bkZ hb); replace BK93 := (have z0_ := BK93; bkZ hb); replace BK94 := (have z0_ := BK94; bkZ hb); clear hb; refine ci3 BK0 ?_; intros; refine ci4 BK1 ?_; intros; refine ci3 BK92 ?_; intros; refine ci3 BK93 ?_; intros; refine ci3 BK94 ?_; intros; have X28 := am_ hx0_; have X29 := am_ hx1_; have X30 := am_ hx2_; have OX28 := am_ hox_; have BK95 := am_ hk_; have GE95 := am_ hge_; have OB95 := am_ hob_; have OD95 := am_ hod_; clear hx0_ hx1_ hx2_ hk_ hge_ hob_ hox_ hod_ RG hHeld; refine normP ?_; refine one_ (i := 9) (N := none) (bT 11 10) rfl rfl (one_of HT_.out Zj) (by decide) (fun K hK => ?_); obtain ⟨hcz176_0, hcz176_1, hcz176_2, hfz176_0, hfz176_1, hfz176_2⟩ := cz3 BK95
 skip
 refine skip_ (w1 := (((w1.setCell ⟨g_95, 0, none⟩ (.slice a_28 q1.length b_28)).setCell ⟨g_95, 1, none⟩ (.slice a_29 q2.length b_29)).setCell ⟨g_95, 2, none⟩ (.slice a_30 q3.length b_30))) (by rfl) rfl Zcf ?_; obtain ⟨w2, hw⟩ : ∃ w2, w2 = (((w1.setCell ⟨g_95, 0, none⟩ (.slice a_28 q1.length b_28)).setCell ⟨g_95, 1, none⟩ (.slice a_29 q2.length b_29)).setCell ⟨g_95, 2, none⟩ (.slice a_30 q3.length b_30)) := ⟨_, rfl⟩; rw [← hw]; clear hcz176_0 hfz176_0 hcz176_1 hfz176_1 hcz176_2 hfz176_2; have n0_ := am_ (Ob_set (g := g_95) (j := 2) (Ob_set (g := g_95) (j := 1) (Ob_set (g := g_95) (j := 0) (X7.out) Zcv (.slice a_28 q1.length b_28)) Zcv (.slice a_29 q2.length b_29)) Zcv (.slice a_30 q3.length b_30)); rw [← hw] at n0_; have n1_ := am_ (Ob_set (g := g_95) (j := 2) (Ob_set (g := g_95) (j := 1) (Ob_set (g := g_95) (j := 0) (X8.out) Zcv (.slice a_28 q1.length b_28)) Zcv (.slice a_29 q2.length b_29)) Zcv (.slice a_30 q3.length b_30)); rw [← hw] at n1_; have n2_ := am_ (Ob_set (g := g_95) (j := 2) (Ob_set (g := g_95) (j := 1) (Ob_set (g := g_95) (j := 0) (X9.out) Zcv (.slice a_28 q1.length b_28)) Zcv (.slice a_29 q2.length b_29)) Zcv (.slice a_30 q3.length b_30)); rw [← hw] at n2_; have n3_ := am_ (Ob_set (g := g_95) (j := 2) (Ob_set (g := g_95) (j := 1) (Ob_set (g := g_95) (j := 0) (X19.out) Zcv (.slice a_28 q1.length b_28)) Zcv (.slice a_29 q2.length b_29)) Zcv (.slice a_30 q3.length b_30)); rw [← hw] at n3_; have n4_ := am_ (Ob_set (g := g_95) (j := 2) (Ob_set (g := g_95) (j := 1) (Ob_set (g := g_95) (j := 0) (X20.out) Zcv (.slice a_28 q1.length b_28)) Zcv (.slice a_29 q2.length b_29)) Zcv (.slice a_30 q3.length b_30)); rw [← hw] at n4_; have n5_ := am_ (Ob_set (g := g_95) (j := 2) (Ob_set (g := g_95) (j := 1) (Ob_set (g := g_95) (j := 0) (X21.out) Zcv (.slice a_28 q1.length b_28)) Zcv (.slice a_29 q2.length b_29)) Zcv (.slice a_30 q3.length b_30)); rw [← hw] at n5_; have n6_ := am_ (Ob_set (g := g_95) (j := 2) (Ob_set (g := g_95) (j := 1) (Ob_set (g := g_95) (j := 0) (X16.out) Zcv (.slice a_28 q1.length b_28)) Zcv (.slice a_29 q2.length b_29)) Zcv (.slice a_30 q3.length b_30)); rw [← hw] at n6_; have n7_ := am_ (Ob_set (g := g_95) (j := 2) (Ob_set (g := g_95) (j := 1) (Ob_set (g := g_95) (j := 0) (X17.out) Zcv (.slice a_28 q1.length b_28)) Zcv (.slice a_29 q2.length b_29)) Zcv (.slice a_30 q3.length b_30)); rw [← hw] at n7_; have n8_ := am_ (Ob_set (g := g_95) (j := 2) (Ob_set (g := g_95) (j := 1) (Ob_set (g := g_95) (j := 0) (X18.out) Zcv (.slice a_28 q1.length b_28)) Zcv (.slice a_29 q2.length b_29)) Zcv (.slice a_30 q3.length b_30)); rw [← hw] at n8_; have n9_ := am_ (Ob_set (g := g_95) (j := 2) (Ob_set (g := g_95) (j := 1) (Ob_set (g := g_95) (j := 0) (X28.out) Zcv (.slice a_28 q1.length b_28)) Zcv (.slice a_29 q2.length b_29)) Zcv (.slice a_30 q3.length b_30)); rw [← hw] at n9_; have n10_ := am_ (Ob_set (g := g_95) (j := 2) (Ob_set (g := g_95) (j := 1) (Ob_set (g := g_95) (j := 0) (X29.out) Zcv (.slice a_28 q1.length b_28)) Zcv (.slice a_29 q2.length b_29)) Zcv (.slice a_30 q3.length b_30)); rw [← hw] at n10_; have n11_ := am_ (Ob_set (g := g_95) (j := 2) (Ob_set (g := g_95) (j := 1) (Ob_set (g := g_95) (j := 0) (X30.out) Zcv (.slice a_28 q1.length b_28)) Zcv (.slice a_29 q2.length b_29)) Zcv (.slice a_30 q3.length b_30)); rw [← hw] at n11_; have nb_ : Aside0 (Below w.heap.size w w2) := ⟨by rw [hw]; exact below_set (below_set (below_set (HB.out) GE95.out) GE95.out) GE95.out⟩; have nk0_ : Aside0 (w2.heap[g_0]? = some (.cells #[.slice A0_0 l0_0.length c0_0, .slice A0_1 l0_1.length c0_1, .slice A0_2 l0_2.length c0_2] 26 (0, 0))) := ⟨by rw [hw]; exact blk_far (blk_far (blk_far (BK0.out) (show g_0 ≠ g_95 from Zcv) _) (show g_0 ≠ g_95 from Zcv) _) (show g_0 ≠ g_95 from Zcv) _⟩; have nk1_ : Aside0 (w2.heap[g_1]? = some (.cells #[.int .i64 a1_0, .int .i64 a1_1, .string a1_2, .int .i64 a1_3] 40 (0, 0))) := ⟨by rw [hw]; exact blk_far (blk_far (blk_far (BK1.out) (show g_1 ≠ g_95 from Zcv) _) (show g_1 ≠ g_95 from Zcv) _) (show g_1 ≠ g_95 from Zcv) _⟩; have nk92_ : Aside0 (w2.heap[g_92]? = some (.cells #[.slice a_7 q1.length b_7, .slice a_8 q2.length b_8, .slice a_9 q3.length b_9] 32 (0, 0))) := ⟨by rw [hw]; exact blk_far (blk_far (blk_far (BK92.out) (show g_92 ≠ g_95 from Zcv) _) (show g_92 ≠ g_95 from Zcv) _) (show g_92 ≠ g_95 from Zcv) _⟩; have nk93_ : Aside0 (w2.heap[g_93]? = some (.cells #[.slice a_10 M0_0.length b_10, .slice a_11 M0_1.length b_11, .slice a_12 M0_2.length b_12] 32 (0, 0))) := ⟨by rw [hw]; exact blk_far (blk_far (blk_far (BK93.out) (show g_93 ≠ g_95 from Zcv) _) (show g_93 ≠ g_95 from Zcv) _) (show g_93 ≠ g_95 from Zcv) _⟩; have nk94_ : Aside0 (w2.heap[g_94]? = some (.cells #[.slice a_16 q1.length b_16, .slice a_17 q2.length b_17, .slice a_18 q3.length b_18] 32 (0, 0))) := ⟨by rw [hw]; exact blk_far (blk_far (blk_far (BK94.out) (show g_94 ≠ g_95 from Zcv) _) (show g_94 ≠ g_95 from Zcv) _) (show g_94 ≠ g_95 from Zcv) _⟩; have nk95_ : Aside0 (w2.heap[g_95]? = some (.cells #[.slice a_28 q1.length b_28, .slice a_29 q2.length b_29, .slice a_30 q3.length b_30] 32 (0, 0))) := ⟨by rw [hw]; exact blk_put (cs := #[.slice a_28 q1.length b_28, .slice a_29 q2.length b_29, .slice none 0 0]) (blk_put (cs := #[.slice a_28 q1.length b_28, .slice none 0 0, .slice none 0 0]) (blk_put (cs := #[.slice none 0 0, .slice none 0 0, .slice none 0 0]) (BK95.out) 0 _ rfl) 1 _ rfl) 2 _ rfl⟩; clear X7; clear X8; clear X9; clear X19; clear X20; clear X21; clear X16; clear X17; clear X18; clear X28; clear X29; clear X30; clear HB; have X7 := n0_; clear n0_; have X8 := n1_; clear n1_; have X9 := n2_; clear n2_; have X19 := n3_; clear n3_; have X20 := n4_; clear n4_; have X21 := n5_; clear n5_; have X16 := n6_; clear n6_; have X17 := n7_; clear n7_; have X18 := n8_; clear n8_; have X28 := n9_; clear n9_; have X29 := n10_; clear n10_; have X30 := n11_; clear n11_; have HB := nb_; clear nb_ hw; clear BK0; have BK0 := nk0_; clear nk0_; clear BK1; have BK1 := nk1_; clear nk1_; clear BK92; have BK92 := nk92_; clear nk92_; clear BK93; have BK93 := nk93_; clear nk93_; clear BK94; have BK94 := nk94_; clear nk94_; clear BK95; have BK95 := nk95_; clear nk95_; refine ci3 BK0 ?_; intros; refine ci4 BK1 ?_; intros; refine ci3 BK92 ?_; intros; refine ci3 BK93 ?_; intros; refine ci3 BK94 ?_; intros; refine ci3 BK95 ?_; intros
 refine hK.out _ _ (have z0_ := BK0; have z1_ := BK1; Zbe) (fun hHeld => ?_); clear hK K; refine pureZ HT_ 10 (some 15) (bT 11 11) ?_; refine done_ (done_of HT_.out Zj) ?_; clear hHeld HT_ HW_
 go_wp2_with (first | ((with_reducible refine gate_callee (f := 23) rfl ?_); (try (refine gate_guard (by rfl) ?_; dsimp only)); refine goesL_ (some 94) rfl rfl Try.func23 Zj rfl #[.agg #[.slice a_28 q1.length b_28, .slice a_29 q2.length b_29, .slice a_30 q3.length b_30], .agg #[.slice a_7 q1.length b_7, .slice a_8 q2.length b_8, .slice a_9 q3.length b_9]] rfl Zo ?_; (with_reducible refine (laws_eqShow.calls k _ _ q1 _ _ q2 _ _ q3 _ _ q1 _ _ q2 _ _ q3 true _ (Ob_C (have z0_ := X28; Zcm)).2.2 (Ob_C X28.out).2.1 (Ob_C (have z0_ := X29; Zcm)).2.2 (Ob_C X29.out).2.1 (Ob_C (have z0_ := X30; Zcm)).2.2 (Ob_C X30.out).2.1 (Ob_C (have z0_ := X7; Zcm)).2.2 (Ob_C X7.out).2.1 (Ob_C (have z0_ := X8; Zcm)).2.2 (Ob_C X8.out).2.1 (Ob_C (have z0_ := X9; Zcm)).2.2 (Ob_C X9.out).2.1 HF.out.er).mono ?_); rintro e w1 ⟨rfl, hb⟩; refine ⟨_, rfl, ?_⟩; replace X16 := am_ (Ob_below (have z0_ := X16; Zcm) hb); replace X17 := am_ (Ob_below (have z0_ := X17; Zcm) hb); replace X18 := am_ (Ob_below (have z0_ := X18; Zcm) hb); replace HB := (bsZ Zd hb); replace BK0 := (have z0_ := BK0; bkZ hb); replace BK1 := (have z0_ := BK1; bkZ hb); replace BK92 := (have z0_ := BK92; bkZ hb); replace BK93 := (have z0_ := BK93; bkZ hb); replace BK94 := (have z0_ := BK94; bkZ hb); replace BK95 := (have z0_ := BK95; bkZ hb); clear hb; refine ci3 BK0 ?_; intros; refine ci4 BK1 ?_; intros; refine ci3 BK92 ?_; intros; refine ci3 BK93 ?_; intros; refine ci3 BK94 ?_; intros; refine ci3 BK95 ?_; intros) | ((with_reducible refine gate_callee (f := 26) rfl ?_); (try (refine gate_guard (by rfl) ?_; dsimp only)); refine goesL_ (some 103) rfl rfl Try.func26 Zj rfl #[.agg #[.slice a_16 q1.length b_16, .slice a_17 q2.length b_17, .slice a_18 q3.length b_18], .int .i64 101] rfl Zo ?_; (with_reducible refine (calls_len3 HF.out.hl0 HF.out.hl1 HF.out.hl2 (laws_heldShow.calls k _ _ q1k _ _ q2k _ _ q3k 101 m1 _ (Ob_C (have z0_ := X16; Zcm)).2.2 (Ob_C X16.out).2.1 (Ob_C (have z0_ := X17; Zcm)).2.2 (Ob_C X17.out).2.1 (Ob_C (have z0_ := X18; Zcm)).2.2 (Ob_C X18.out).2.1 HF.out.hd)).mono ?_); rintro e w1 ⟨rfl, hb⟩; refine ⟨_, rfl, ?_⟩; replace HB := (bsZ Zd hb); replace BK0 := (have z0_ := BK0; bkZ hb); replace BK1 := (have z0_ := BK1; bkZ hb); replace BK92 := (have z0_ := BK92; bkZ hb); replace BK93 := (have z0_ := BK93; bkZ hb); replace BK94 := (have z0_ := BK94; bkZ hb); replace BK95 := (have z0_ := BK95; bkZ hb); clear hb; refine ci3 BK0 ?_; intros; refine ci4 BK1 ?_; intros; refine ci3 BK92 ?_; intros; refine ci3 BK93 ?_; intros; refine ci3 BK94 ?_; intros; refine ci3 BK95 ?_; intros))
 go_ret
 exact ⟨rfl, Zd⟩
def Evt (P : Nat → Prop) : Prop := ∃ K, ∀ k, K ≤ k → P k
theorem Evt.and {P Q : Nat → Prop} (h : Evt P) (h' : Evt Q) : Evt (fun k => P k ∧ Q k) := by
 obtain ⟨K, h⟩ := h; obtain ⟨K', h'⟩ := h'; exact ⟨K + K', fun k hk => ⟨h k (by omega), h' k (by omega)⟩⟩
theorem Evt.mono {P Q : Nat → Prop} (h : Evt P) (hq : ∀ k, P k → Q k) : Evt Q := by
 obtain ⟨K, h⟩ := h; exact ⟨K, fun k hk => hq k (h k hk)⟩
theorem Evt.of {P : Nat → Prop} (h : ∀ k, P k) : Evt P := ⟨0, fun k _ => h k⟩
theorem Evt.ex {P : Nat → Prop} (h : Evt P) : ∃ k, P k := by
 obtain ⟨K, h⟩ := h; exact ⟨K, h K (Nat.le_refl _)⟩
theorem Evt.succ {P : Nat → Prop} (h : Evt (fun k => P (k + 1))) : Evt P := by
 obtain ⟨K, h⟩ := h; refine ⟨K + 1, fun k hk => ?_⟩; obtain ⟨m, rfl⟩ : ∃ m, k = m + 1 := ⟨k - 1, by omega⟩; exact h m (by omega)
theorem w64 {n : Int} (h : -9223372036854775808 ≤ n ∧ n ≤ 9223372036854775807) : wrap64 n = n := by unfold wrap64; omega
theorem room_some (n : Nat) : ∃ t : Int, laws_roomBehind.f (n : Int) = some t ∧ 0 ≤ t ∧ t ≤ n + 1 ∧ (n = 0 → 1 ≤ t) := by
 unfold laws_roomBehind.f
 have h6 : Int.tmod (n : Int) 6 = (n : Int) % 6 := Int.tmod_eq_emod_of_nonneg (by omega); have h3 : Int.tmod (n : Int) 3 = (n : Int) % 3 := Int.tmod_eq_emod_of_nonneg (by omega); rw [h6, h3]
 by_cases a : (n : Int) % 6 = 5
 ·rw [if_pos a]
  exact ⟨0, rfl, by omega, by omega, by omega⟩
 ·rw [if_neg a]
  by_cases b : (n : Int) % 3 = 0
  ·rw [if_pos b]
   exact ⟨1, rfl, by omega, by omega, by omega⟩
  ·rw [if_neg b]
   exact ⟨n, rfl, by omega, by omega, by omega⟩
theorem getD_at {α : Type} (xs : List α) (z : α) (i : Nat) (h : i < xs.length) : xs.getD ((i : Int)).toNat z = xs[i] := by
 rw [Int.toNat_natCast, List.getD_eq_getElem?_getD, List.getElem?_eq_getElem h]; rfl
theorem take_set_ge {α : Type} (xs : List α) (n i : Nat) (v : α) (h : n ≤ i) : (xs.set i v).take n = xs.take n := by
 apply List.ext_getElem?
 intro j; simp only [List.getElem?_take, List.getElem?_set]
 by_cases hj : j < n
 ·rw [if_pos hj, if_pos hj, if_neg (by omega)]
 ·rw [if_neg hj, if_neg hj]
theorem take_set_snoc {α : Type} (xs : List α) (i : Nat) (v : α) (h : i < xs.length) : (xs.set i v).take (i + 1) = xs.take i ++ [v] := by
 rw [List.take_succ_eq_append_getElem (by simpa using h), take_set_ge _ _ _ _ (Nat.le_refl _), List.getElem_set_self]
def allF (p : Nat → Bool) : Nat → Nat → Bool
 | _, 0 => true
 | i, d + 1 => p i && allF p (i + 1) d
theorem allF_true {p : Nat → Bool} : ∀ (d i : Nat), allF p i d = true ↔ ∀ j, i ≤ j → j < i + d → p j = true
 | 0, i => by simp [allF]; intro j h1 h2; omega
 | d + 1, i => by
  unfold allF
  rw [Bool.and_eq_true, allF_true d (i + 1)]; constructor
  ·rintro ⟨h1, h2⟩ j h3 h4
   rcases Nat.eq_or_lt_of_le h3 with e | e
   ·exact e ▸ h1
   ·exact h2 j e (by omega)
  ·exact fun h => ⟨h i (Nat.le_refl _) (by omega), fun j h1 h2 => h j (by omega) (by omega)⟩
theorem all_loopF {f : Nat → Nat → Option Bool} {p : Nat → Bool} {e : Bool} (a n : Nat) (hs : ∀ k i, a ≤ i → i < n → f (k + 1) i = if p i = true then f k (i + 1) else some false) (he : ∀ k, f (k + 1) n = some e) :
  ∀ d k i, a ≤ i → n - i = d → i ≤ n → d < k → f k i = some (allF p i d && e) := by
 intro d
 induction d with
 | zero =>
  intro k i ha hd hi hk; obtain ⟨k, rfl⟩ : ∃ m, k = m + 1 := ⟨k - 1, by omega⟩
  have : i = n := by omega
  subst this; rw [he]
  rfl
 | succ d ih =>
  intro k i ha hd hi hk; obtain ⟨k, rfl⟩ : ∃ m, k = m + 1 := ⟨k - 1, by omega⟩; rw [hs k i ha (by omega)]
  unfold allF
  by_cases hp : p i = true
  ·rw [if_pos hp, ih k (i + 1) (by omega) (by omega) (by omega) (by omega), hp, Bool.true_and]
  ·rw [if_neg hp]
   replace hp := Bool.eq_false_iff.mpr hp; rw [hp, Bool.false_and, Bool.false_and]
theorem all_loop {f : Nat → Nat → Option Bool} {p : Nat → Bool} {e : Bool} (n : Nat) (hs : ∀ k i, i < n → f (k + 1) i = if p i = true then f k (i + 1) else some false) (he : ∀ k, f (k + 1) n = some e) :
  ∀ d k i, n - i = d → i ≤ n → d < k → f k i = some (allF p i d && e) := fun d k i => all_loopF 0 n (fun k i _ h => hs k i h) he d k i (Nat.zero_le _)
def foldF {σ : Type} (step : Nat → σ → σ) : Nat → Nat → σ → σ
 | _, 0, s => s
 | i, d + 1, s => foldF step (i + 1) d (step i s)
theorem foldF_snoc {σ : Type} (f : Nat → σ → σ) : ∀ (d i : Nat) (s : σ), foldF f i (d + 1) s = f (i + d) (foldF f i d s)
 | 0, i, s => rfl
 | d + 1, i, s => by
  have h := foldF_snoc f d (i + 1) (f i s); rw [show i + 1 + d = i + (d + 1) by omega] at h; exact h
theorem fold_loop {σ β : Type} {f : Nat → Nat → σ → Option β} {step : Nat → σ → σ} {I : Nat → σ → Prop} {e : σ → Option β} (n : Nat) (hs : ∀ k i s, i < n → I i s → f (k + 1) i s = f k (i + 1) (step i s)) (hI : ∀ i s, i < n → I i s → I (i + 1) (step i s)) (he : ∀ k s, I n s → f (k + 1) n s = e s) :
  ∀ d k i s, n - i = d → i ≤ n → I i s → d < k → f k i s = e (foldF step i d s) := by
 intro d
 induction d with
 | zero =>
  intro k i s hd hi h0 hk; obtain ⟨k, rfl⟩ : ∃ m, k = m + 1 := ⟨k - 1, by omega⟩
  have : i = n := by omega
  subst this; exact he k s h0
 | succ d ih =>
  intro k i s hd hi h0 hk; obtain ⟨k, rfl⟩ : ∃ m, k = m + 1 := ⟨k - 1, by omega⟩; rw [hs k i s (by omega) h0]; exact ih k (i + 1) _ (by omega) (by omega) (hI i s (by omega) h0) (by omega)
def inB (n lo hi : Int) : Bool := decide (lo ≤ n ∧ n ≤ hi)
theorem inB_true {n lo hi : Int} : inB n lo hi = true ↔ lo ≤ n ∧ n ≤ hi := by unfold inB; exact decide_eq_true_iff
theorem inB_false {n lo hi : Int} : inB n lo hi = false ↔ ¬ (lo ≤ n ∧ n ≤ hi) := by unfold inB; exact decide_eq_false_iff_not
theorem set_set {α : Type} (xs : List α) (i : Nat) (a b : α) : (xs.set i a).set i b = xs.set i b := by simp
theorem getD_set {α : Type} (xs : List α) (i : Nat) (v z : α) (h : i < xs.length) : (xs.set i v).getD i z = v := by
 rw [List.getD_eq_getElem?_getD, List.getElem?_set_self h]; rfl
theorem set_take_app {α : Type} (xs ys : List α) (i : Nat) (v : α) (hi : i < xs.length) : ((xs.set i v).take (i + 1)) ++ ys = xs.take i ++ (v :: ys) := by
 rw [take_set_snoc _ _ _ hi, List.append_assoc, List.singleton_append]
theorem getD_take {α : Type} (xs : List α) (z : α) (n i : Nat) (h : i < n) : (xs.take n).getD i z = xs.getD i z := by
 rw [List.getD_eq_getElem?_getD, List.getD_eq_getElem?_getD, List.getElem?_take, if_pos h]
theorem getD_app {α : Type} (xs ys : List α) (z : α) (i : Nat) (h : xs.length = i) : (xs ++ ys).getD i z = ys.getD 0 z := by
 rw [List.getD_eq_getElem?_getD, List.getD_eq_getElem?_getD, List.getElem?_append_right (by omega), h, Nat.sub_self]
def conv_BarS (x : S110) : S108 := ⟨x.f0, x.f1⟩
theorem full_BarS_l1 (d : Nat) : ∀ (k : Nat) (x0 : List S110) (x5 : List S108) (i : Nat), x5.length - i = d → x0.length ≤ i → i ≤ x5.length → x5.length ≤ 4000000 → d < k →
  full_toBarS.l1 k x0 x5 (i : Int) = some (x5.take i ++ List.replicate d (⟨(-7000000000000000101), (-7000000000000000101)⟩ : S108)) := by
 induction d with
 | zero =>
  intro k x0 x5 i hd h1 h2 h3 hk; obtain ⟨k, rfl⟩ : ∃ m, k = m + 1 := ⟨k - 1, by omega⟩; simp only [full_toBarS.l1]; rw [if_neg (by omega), if_pos (by omega), if_pos (by omega), List.take_of_length_le (by omega)]
  simp
 | succ d ih =>
  intro k x0 x5 i hd h1 h2 h3 hk; obtain ⟨k, rfl⟩ : ∃ m, k = m + 1 := ⟨k - 1, by omega⟩; have hr := ih k x0 (x5.set i (⟨(-7000000000000000101), (-7000000000000000101)⟩ : S108)) (i + 1) Zcw (by omega) Zcw Zcw (by omega); rw [take_set_snoc _ _ _ (by omega), List.append_assoc, List.singleton_append, ← List.replicate_succ] at hr; rw [← hr]; simp only [full_toBarS.l1, laws_fillerBar.f, Option.bind_some]; rw [if_pos (by omega)]; rw [if_pos (by omega), w64 (by omega)]
  rfl
theorem full_BarS_l0 (d : Nat) : ∀ (k : Nat) (x0 : List S110) (x5 : List S108) (i : Nat), x0.length - i = d → i ≤ x0.length → x0.length ≤ x5.length → x5.length ≤ 4000000 → x5.take i = (x0.take i).map conv_BarS → d + x5.length + 1 < k →
  full_toBarS.l0 k x0 x5 (i : Int) = some (x0.map conv_BarS ++ List.replicate (x5.length - x0.length) (⟨(-7000000000000000101), (-7000000000000000101)⟩ : S108)) := by
 induction d with
 | zero =>
  intro k x0 x5 i hd h1 h2 h3 h4 hk; obtain ⟨k, rfl⟩ : ∃ m, k = m + 1 := ⟨k - 1, by omega⟩; simp only [full_toBarS.l0]; rw [if_neg (by omega), full_BarS_l1 (x5.length - x0.length) k x0 x5 x0.length rfl (Nat.le_refl _) h2 h3 (by omega)]
  have e : i = x0.length := by omega
  subst e; rw [h4, List.take_length]
 | succ d ih =>
  intro k x0 x5 i hd h1 h2 h3 h4 hk; obtain ⟨k, rfl⟩ : ∃ m, k = m + 1 := ⟨k - 1, by omega⟩
  have hi : i < x0.length := by omega
  have h5 : (x5.set i (conv_BarS x0[i])).take (i + 1) = (x0.take (i + 1)).map conv_BarS := by
   rw [take_set_snoc _ _ _ (by omega), h4, List.take_succ_eq_append_getElem hi, List.map_append]; rfl
  have hr := ih k x0 (x5.set i (conv_BarS x0[i])) (i + 1) (by omega) (by omega) Zcw Zcw h5 Zcw; rw [List.length_set] at hr; rw [← hr]; simp only [full_toBarS.l0, laws_toBar.f, Option.bind_some]; rw [if_pos (by omega), if_pos (by omega)]; rw [if_pos (by omega), w64 (by omega), rd_T110, getD_at _ _ _ hi]
  rfl
theorem to_BarS_l1 (d : Nat) : ∀ (k : Nat) (x0 : List S110) (x5 : List S108) (i : Nat), x5.length - i = d → x0.length ≤ i → i ≤ x5.length → x5.length ≤ 4000000 → d < k →
  laws_toBarS.l1 k x0 x5 (i : Int) = some (x5.take x0.length) := by
 induction d with
 | zero =>
  intro k x0 x5 i hd h1 h2 h3 hk; obtain ⟨k, rfl⟩ : ∃ m, k = m + 1 := ⟨k - 1, by omega⟩; simp only [laws_toBarS.l1]; rw [if_neg (by omega), if_pos (by omega), if_pos (by omega), Int.toNat_natCast]
 | succ d ih =>
  intro k x0 x5 i hd h1 h2 h3 hk; obtain ⟨k, rfl⟩ : ∃ m, k = m + 1 := ⟨k - 1, by omega⟩; have hr := ih k x0 (x5.set i (⟨(-7000000000000000101), (-7000000000000000101)⟩ : S108)) (i + 1) Zcw (by omega) Zcw Zcw (by omega); rw [take_set_ge _ _ _ _ h1] at hr; rw [← hr]; simp only [laws_toBarS.l1, laws_fillerBar.f, Option.bind_some]; rw [if_pos (by omega)]; rw [if_pos (by omega), w64 (by omega)]
  rfl
theorem to_BarS_l0 (d : Nat) : ∀ (k : Nat) (x0 : List S110) (x5 : List S108) (i : Nat), x0.length - i = d → i ≤ x0.length → x0.length ≤ x5.length → x5.length ≤ 4000000 → x5.take i = (x0.take i).map conv_BarS → d + x5.length + 1 < k →
  laws_toBarS.l0 k x0 x5 (i : Int) = some (x0.map conv_BarS) := by
 induction d with
 | zero =>
  intro k x0 x5 i hd h1 h2 h3 h4 hk; obtain ⟨k, rfl⟩ : ∃ m, k = m + 1 := ⟨k - 1, by omega⟩; simp only [laws_toBarS.l0]; rw [if_neg (by omega), to_BarS_l1 (x5.length - x0.length) k x0 x5 x0.length rfl (Nat.le_refl _) h2 h3 (by omega)]
  have e : i = x0.length := by omega
  subst e; rw [h4, List.take_length]
 | succ d ih =>
  intro k x0 x5 i hd h1 h2 h3 h4 hk; obtain ⟨k, rfl⟩ : ∃ m, k = m + 1 := ⟨k - 1, by omega⟩
  have hi : i < x0.length := by omega
  have h5 : (x5.set i (conv_BarS x0[i])).take (i + 1) = (x0.take (i + 1)).map conv_BarS := by
   rw [take_set_snoc _ _ _ (by omega), h4, List.take_succ_eq_append_getElem hi, List.map_append]; rfl
  have hr := ih k x0 (x5.set i (conv_BarS x0[i])) (i + 1) (by omega) (by omega) Zcw Zcw h5 Zcw; rw [← hr]; simp only [laws_toBarS.l0, laws_toBar.f, Option.bind_some]; rw [if_pos (by omega), if_pos (by omega)]; rw [if_pos (by omega), w64 (by omega), rd_T110, getD_at _ _ _ hi]
  rfl
theorem to_BarS (l : List S110) (hl : l.length ≤ 1000000) : ∃ (L : List S108) (t : Int), L ≠ [] ∧ (l.map conv_BarS = L.take l.length ∧ l.length ≤ L.length) ∧ (l.map conv_BarS).length = l.length ∧ L.length ≤ 2000001 ∧
  laws_roomBehind.f ((l.map conv_BarS).length : Int) = some t ∧ wrap64 (((l.map conv_BarS).length : Int) + t) = (L.length : Int) ∧
  Evt (fun k => full_toBarS.f k l false = some L) ∧ Evt (fun k => laws_toBarS.f k l true = some (l.map conv_BarS)) := by
 obtain ⟨t, ht, h0, h1, h2⟩ := room_some l.length; have hw : wrap64 ((l.length : Int) + t) = (l.length : Int) + t := w64 (by omega)
 have hn : ((l.length : Int) + t).toNat = l.length + t.toNat := by omega
 have hm : (l.map conv_BarS).length = l.length := List.length_map _
 have hlen : (l.map conv_BarS ++ List.replicate (l.length + t.toNat - l.length) (⟨(-7000000000000000101), (-7000000000000000101)⟩ : S108)).length = l.length + t.toNat := by rw [List.length_append, List.length_replicate, hm]; omega
 refine ⟨l.map conv_BarS ++ List.replicate (l.length + t.toNat - l.length) (⟨(-7000000000000000101), (-7000000000000000101)⟩ : S108), t, ?_, ⟨?_, by omega⟩, hm, by omega, by rw [hm]; exact ht, by rw [hm, hw, hlen]; omega, ?_, ?_⟩
 ·intro e
  rw [e] at hlen
  simp at hlen
  have := h2 (by omega)
  omega
 ·rw [← hm, List.take_left]
 ·refine Evt.succ ⟨l.length + (l.length + t.toNat) + 2, fun k hk => ?_⟩
  show full_toBarS.f (k + 1) l false = _
  unfold full_toBarS.f
  rw [if_neg (by decide)]; simp only [full_toBarS.j0]; rw [if_neg (by decide), ht]; simp only [Option.bind_some]; rw [hw, if_pos (by omega), hn, if_pos (by omega)]; have z := full_BarS_l0 l.length k l (List.replicate (l.length + t.toNat) z108) 0 (by omega) (by omega) Zcx Zcx (by simp) Zcx; rw [List.length_replicate] at z; exact z
 ·refine Evt.succ ⟨l.length + (l.length + t.toNat) + 2, fun k hk => ?_⟩
  show laws_toBarS.f (k + 1) l true = _
  unfold laws_toBarS.f
  rw [if_pos rfl]; simp only [laws_toBarS.j0]
  by_cases e : l.length = 0
  ·have e2 : l = [] := List.length_eq_zero_iff.mp e
   subst e2
   rfl
  ·have e3 : ((l.length : Int) == 0) = false := by rw [beq_eq_false_iff_ne]; omega
   rw [e3, if_neg (by decide), ht]; simp only [Option.bind_some]; rw [hw, if_pos (by omega), hn, if_pos (by omega)]; exact to_BarS_l0 l.length k l (List.replicate (l.length + t.toNat) z108) 0 (by omega) (by omega) Zcx Zcx (by simp) Zcx
theorem eq_BarS_l0 (d : Nat) : ∀ (k : Nat) (xs : List S108) (i : Nat), xs.length - i = d → i ≤ xs.length → xs.length ≤ 4000000 → d < k → laws_eqBarS.l0 k xs xs (i : Int) = some true := by
 induction d with
 | zero =>
  intro k xs i hd h1 h2 hk; obtain ⟨k, rfl⟩ : ∃ m, k = m + 1 := ⟨k - 1, by omega⟩; simp only [laws_eqBarS.l0]; rw [if_neg (by omega)]
 | succ d ih =>
  intro k xs i hd h1 h2 hk; obtain ⟨k, rfl⟩ : ∃ m, k = m + 1 := ⟨k - 1, by omega⟩; have hr := ih k xs (i + 1) (by omega) (by omega) h2 (by omega); simp only [laws_eqBarS.l0, laws_eqBar.f, if_true, Option.bind_some]; rw [if_pos (by omega), if_pos (by omega), if_pos (by omega), w64 (by omega)]; exact hr
theorem eq_BarS (xs : List S108) (h : xs.length ≤ 4000000) : Evt (fun k => laws_eqBarS.f k xs xs = some true) := by
 refine ⟨xs.length + 1, fun k hk => ?_⟩; show laws_eqBarS.f k xs xs = _
 unfold laws_eqBarS.f
 rw [if_pos rfl]; exact eq_BarS_l0 xs.length k xs 0 (by omega) (by omega) h (by omega)
theorem sz_BarS (l : List S110) (a : Int) (h0 : 0 ≤ a) (h1 : a ≤ 1000000) (hl : l.length ≤ maxLen) :
  (l.length ≤ a ∧ laws_szBarS.f l a = some (a - l.length)) ∨ laws_szBarS.f l a = some (-1) := by
 unfold maxLen at hl
 unfold laws_szBarS.f
 rw [w64 (by omega)]
 by_cases h : a - (l.length : Int) < 0
 ·rw [if_pos h]
  exact .inr rfl
 ·rw [if_neg h]
  exact .inl ⟨by omega, rfl⟩
def seq_BarS : Nat → Int → List S108
 | 0, _ => []
 | d + 1, c => (⟨c, c + 1⟩ : S108) :: seq_BarS d (c + 2)
theorem seq_BarS_len : ∀ (d : Nat) (c : Int), (seq_BarS d c).length = d
 | 0, _ => rfl
 | d + 1, c => by unfold seq_BarS; rw [List.length_cons, seq_BarS_len d]
theorem mark_BarS_l0 (d : Nat) : ∀ (k : Nat) (xs : List S108) (c : Int) (i : Nat), xs.length - i = d → i ≤ xs.length → xs.length ≤ 4000000 → 0 ≤ c → c ≤ 1000000000 - 2 * (xs.length - i : Nat) → d < k →
  laws_markBarS.l0 k xs c (i : Int) = some (c + 2 * d, xs.take i ++ seq_BarS d c) := by
 induction d with
 | zero =>
  intro k xs c i hd h1 h2 h3 h4 hk; obtain ⟨k, rfl⟩ : ∃ m, k = m + 1 := ⟨k - 1, by omega⟩; simp only [laws_markBarS.l0, seq_BarS]; rw [if_neg (by omega), List.take_of_length_le (by omega), List.append_nil]
  congr 2; omega
 | succ d ih =>
  intro k xs c i hd h1 h2 h3 h4 hk; obtain ⟨k, rfl⟩ : ∃ m, k = m + 1 := ⟨k - 1, by omega⟩; have hr := ih k (xs.set i (⟨c, c + 1⟩ : S108)) (c + 2) (i + 1) Zcw Zcw Zcw (by omega) Zcw (by omega); rw [set_take_app _ _ _ _ (by omega)] at hr
  have e : c + 2 * ((d + 1 : Nat) : Int) = c + 2 + 2 * (d : Int) := by omega
  rw [e]; show _ = some (c + 2 + 2 * (d : Int), xs.take i ++ (⟨c, c + 1⟩ : S108) :: seq_BarS d (c + 2)); rw [← hr]; simp only [laws_markBarS.l0, Option.bind_some]; rw [if_pos (by omega), if_pos (by omega)]
  have w1 : wrap64 (c + 1) = c + 1 := by rw [w64 (by omega)]
  have w2 : wrap64 (c + 1 + 1) = c + 2 := by rw [w64 (by omega)]; omega
  rw [w1, w2, w64 (n := (i : Int) + 1) (by omega)]; simp only [Int.toNat_natCast]
  have rs : ∀ v : S108, rd_T108 (xs.set i v) (i : Int) = v := fun v => by unfold rd_T108; rw [Int.toNat_natCast, getD_set _ _ _ _ (by omega)]
  simp only [set_set, rs]
  rfl
theorem mark_BarS (xs : List S108) (c : Int) (hx : xs.length ≤ 4000000) (h0 : 0 ≤ c) (h1 : c ≤ 900000000) : Evt (fun k => laws_markBarS.f k xs c = some (c + 2 * (xs.length : Int), seq_BarS xs.length c)) := by
 refine ⟨xs.length + 1, fun k hk => ?_⟩; show laws_markBarS.f k xs c = _
 unfold laws_markBarS.f
 exact mark_BarS_l0 xs.length k xs c 0 (by omega) (by omega) hx h0 (by omega) (by omega)
theorem held_BarS_l0 (d : Nat) : ∀ (k : Nat) (pre : List S108) (c : Int) (i : Nat), pre.length = i → pre.length + d ≤ 4000000 → 0 ≤ c → c ≤ 1000000000 - 2 * d → d < k →
  laws_heldBarS.l0 k (pre ++ seq_BarS d c) c (i : Int) = some (c + 2 * d) := by
 induction d with
 | zero =>
  intro k pre c i hd h1 h2 h3 hk; obtain ⟨k, rfl⟩ : ∃ m, k = m + 1 := ⟨k - 1, by omega⟩; simp only [laws_heldBarS.l0, seq_BarS, List.append_nil]; rw [if_neg (by omega)]
  congr 1; omega
 | succ d ih =>
  intro k pre c i hd h1 h2 h3 hk; obtain ⟨k, rfl⟩ : ∃ m, k = m + 1 := ⟨k - 1, by omega⟩; have hr := ih k (pre ++ [(⟨c, c + 1⟩ : S108)]) (c + 2) (i + 1) Zcy Zcy (by omega) (by omega) (by omega); rw [List.append_assoc, List.singleton_append] at hr
  have e : c + 2 * ((d + 1 : Nat) : Int) = c + 2 + 2 * (d : Int) := by omega
  have hlen : (pre ++ (⟨c, c + 1⟩ : S108) :: seq_BarS d (c + 2)).length = pre.length + (d + 1) := by rw [List.length_append, List.length_cons, seq_BarS_len]
  have hrd : rd_T108 (pre ++ (⟨c, c + 1⟩ : S108) :: seq_BarS d (c + 2)) (i : Int) = (⟨c, c + 1⟩ : S108) := by
   unfold rd_T108
   rw [Int.toNat_natCast, getD_app _ _ _ _ hd]
   rfl
  rw [e, ← hr]; show laws_heldBarS.l0 (k + 1) (pre ++ (⟨c, c + 1⟩ : S108) :: seq_BarS d (c + 2)) c (i : Int) = _; simp only [laws_heldBarS.l0, hrd]; rw [if_pos (by omega), if_pos (by omega)]
  have w1 : wrap64 (c + 1) = c + 1 := by rw [w64 (by omega)]
  have w2 : wrap64 (c + 1 + 1) = c + 2 := by rw [w64 (by omega)]; omega
  rw [w1, w2, w64 (n := (i : Int) + 1) (by omega)]; simp only [if_true]
  rfl
theorem held_BarS (n : Nat) (c : Int) (hx : n ≤ 4000000) (h0 : 0 ≤ c) (h1 : c ≤ 900000000) : Evt (fun k => laws_heldBarS.f k (seq_BarS n c) c = some (c + 2 * (n : Int))) := by
 refine ⟨n + 1, fun k hk => ?_⟩; show laws_heldBarS.f k (seq_BarS n c) c = _
 unfold laws_heldBarS.f
 exact held_BarS_l0 n k [] c 0 rfl (by simp; omega) h0 (by omega) (by omega)
theorem w64c0 (c : Int) (h0 : 0 ≤ c) (h1 : c ≤ 1000000000) : wrap64 (c + 1) = c + 1 := w64 (by omega)
theorem w64c (c j m : Int) (h0 : 0 ≤ c) (h1 : c ≤ 1000000000) (hj : 0 ≤ j ∧ j ≤ 100) (e : m = j + 1) : wrap64 (c + j + 1) = c + m := by
 subst e; rw [w64 (by omega), Int.add_assoc]
theorem digit_size (n : Int) : (strOfNums (([(wrap64 (48 + Int.tmod n 10)) % 256] : List Int))).size = 1 := by rfl
theorem mtext_l0 : ∀ (k : Nat) (c : Int) (out : ByteArray), 0 ≤ c → c < 10 ^ k → c ≤ 1000000000 → out.size + k ≤ 1000 → ∃ r, laws_markText.l0 (k + 1) c out = some r
 | 0, c, out, h0, h1, h9, h2 => by
  rw [Int.pow_zero] at h1; simp only [laws_markText.l0]; rw [if_neg (by omega), if_pos (by omega)]; exact ⟨_, rfl⟩
 | k + 1, c, out, h0, h1, h9, h2 => by
  by_cases e : c = 0
  ·subst e
   simp only [laws_markText.l0]; rw [if_neg (by omega), if_pos (by omega)]; exact ⟨_, rfl⟩
  ·have hd : Int.tdiv c 10 = c / 10 := Int.tdiv_eq_ediv_of_nonneg h0
   rw [Int.pow_succ] at h1
   have h3 : c / 10 < 10 ^ k := by omega
   obtain ⟨r, hr⟩ := mtext_l0 k (c / 10) (strOfNums (([(wrap64 (48 + Int.tmod c 10)) % 256] : List Int)) ++ out) (by omega) h3 (by omega) (by rw [ByteArray.size_append, digit_size]; omega); refine ⟨r, ?_⟩; rw [← hr]; show laws_markText.l0 (k + 1 + 1) c out = _; rw [laws_markText.l0]; rw [if_pos (by omega), Option.bind_some, digit_size, if_pos (by omega), hd, w64 (n := c / 10) (by omega)]
def mtext (c : Int) : ByteArray := (laws_markText.f 40 c).getD ⟨#[]⟩
theorem mtext_eq (c : Int) (h0 : 0 ≤ c) (h1 : c ≤ 1000000000) (k : Nat) (hk : 40 ≤ k) : laws_markText.f k c = some (mtext c) := by
 have h : ∃ r, laws_markText.f 40 c = some r := by
  unfold laws_markText.f
  by_cases e : c ≤ 0
  ·rw [if_pos e]; exact ⟨_, rfl⟩
  ·rw [if_neg e]
   exact mtext_l0 39 c _ h0 (Int.lt_of_le_of_lt h1 (by decide)) h1 (by decide)
 obtain ⟨r, hr⟩ := h
 have e : mtext c = r := by unfold mtext; rw [hr]; rfl
 rw [e]; obtain ⟨d, rfl⟩ : ∃ d, k = 40 + d := ⟨k - 40, by omega⟩; clear hk
 induction d with
 | zero => exact hr
 | succ d ih => exact laws_markText.mono c (40 + d) r ih
def conv_ArticleS (x : S105) : S92 := ⟨x.f0, x.f1, x.f2, x.f3, x.f4, x.f5, x.f6, x.f7, x.f8⟩
theorem full_ArticleS_l1 (d : Nat) : ∀ (k : Nat) (x0 : List S105) (x5 : List S92) (i : Nat), x5.length - i = d → x0.length ≤ i → i ≤ x5.length → x5.length ≤ 4000000 → d < k →
  full_toArticleS.l1 k x0 x5 (i : Int) = some (x5.take i ++ List.replicate d (⟨(⟨#[126, 115, 112, 97, 114, 101, 126]⟩ : ByteArray), (-7000000000000000101), (-7000000000000000101), (-7000000000000000101), (-7000000000000000101), (-7000000000000000101), (-7000000000000000101), (-7000000000000000101), (-7000000000000000101)⟩ : S92)) := by
 induction d with
 | zero =>
  intro k x0 x5 i hd h1 h2 h3 hk; obtain ⟨k, rfl⟩ : ∃ m, k = m + 1 := ⟨k - 1, by omega⟩; simp only [full_toArticleS.l1]; rw [if_neg (by omega), if_pos (by omega), if_pos (by omega), List.take_of_length_le (by omega)]
  simp
 | succ d ih =>
  intro k x0 x5 i hd h1 h2 h3 hk; obtain ⟨k, rfl⟩ : ∃ m, k = m + 1 := ⟨k - 1, by omega⟩; have hr := ih k x0 (x5.set i (⟨(⟨#[126, 115, 112, 97, 114, 101, 126]⟩ : ByteArray), (-7000000000000000101), (-7000000000000000101), (-7000000000000000101), (-7000000000000000101), (-7000000000000000101), (-7000000000000000101), (-7000000000000000101), (-7000000000000000101)⟩ : S92)) (i + 1) Zcw (by omega) Zcw Zcw (by omega); rw [take_set_snoc _ _ _ (by omega), List.append_assoc, List.singleton_append, ← List.replicate_succ] at hr; rw [← hr]; simp only [full_toArticleS.l1, laws_fillerArticle.f, Option.bind_some]; rw [if_pos (by omega)]; rw [if_pos (by omega), w64 (by omega)]
  rfl
theorem full_ArticleS_l0 (d : Nat) : ∀ (k : Nat) (x0 : List S105) (x5 : List S92) (i : Nat), x0.length - i = d → i ≤ x0.length → x0.length ≤ x5.length → x5.length ≤ 4000000 → x5.take i = (x0.take i).map conv_ArticleS → d + x5.length + 1 < k →
  full_toArticleS.l0 k x0 x5 (i : Int) = some (x0.map conv_ArticleS ++ List.replicate (x5.length - x0.length) (⟨(⟨#[126, 115, 112, 97, 114, 101, 126]⟩ : ByteArray), (-7000000000000000101), (-7000000000000000101), (-7000000000000000101), (-7000000000000000101), (-7000000000000000101), (-7000000000000000101), (-7000000000000000101), (-7000000000000000101)⟩ : S92)) := by
 induction d with
 | zero =>
  intro k x0 x5 i hd h1 h2 h3 h4 hk; obtain ⟨k, rfl⟩ : ∃ m, k = m + 1 := ⟨k - 1, by omega⟩; simp only [full_toArticleS.l0]; rw [if_neg (by omega), full_ArticleS_l1 (x5.length - x0.length) k x0 x5 x0.length rfl (Nat.le_refl _) h2 h3 (by omega)]
  have e : i = x0.length := by omega
  subst e; rw [h4, List.take_length]
 | succ d ih =>
  intro k x0 x5 i hd h1 h2 h3 h4 hk; obtain ⟨k, rfl⟩ : ∃ m, k = m + 1 := ⟨k - 1, by omega⟩
  have hi : i < x0.length := by omega
  have h5 : (x5.set i (conv_ArticleS x0[i])).take (i + 1) = (x0.take (i + 1)).map conv_ArticleS := by
   rw [take_set_snoc _ _ _ (by omega), h4, List.take_succ_eq_append_getElem hi, List.map_append]; rfl
  have hr := ih k x0 (x5.set i (conv_ArticleS x0[i])) (i + 1) (by omega) (by omega) Zcw Zcw h5 Zcw; rw [List.length_set] at hr; rw [← hr]; simp only [full_toArticleS.l0, laws_toArticle.f, Option.bind_some]; rw [if_pos (by omega), if_pos (by omega)]; rw [if_pos (by omega), w64 (by omega), rd_T105, getD_at _ _ _ hi]
  rfl
theorem to_ArticleS_l1 (d : Nat) : ∀ (k : Nat) (x0 : List S105) (x5 : List S92) (i : Nat), x5.length - i = d → x0.length ≤ i → i ≤ x5.length → x5.length ≤ 4000000 → d < k →
  laws_toArticleS.l1 k x0 x5 (i : Int) = some (x5.take x0.length) := by
 induction d with
 | zero =>
  intro k x0 x5 i hd h1 h2 h3 hk; obtain ⟨k, rfl⟩ : ∃ m, k = m + 1 := ⟨k - 1, by omega⟩; simp only [laws_toArticleS.l1]; rw [if_neg (by omega), if_pos (by omega), if_pos (by omega), Int.toNat_natCast]
 | succ d ih =>
  intro k x0 x5 i hd h1 h2 h3 hk; obtain ⟨k, rfl⟩ : ∃ m, k = m + 1 := ⟨k - 1, by omega⟩; have hr := ih k x0 (x5.set i (⟨(⟨#[126, 115, 112, 97, 114, 101, 126]⟩ : ByteArray), (-7000000000000000101), (-7000000000000000101), (-7000000000000000101), (-7000000000000000101), (-7000000000000000101), (-7000000000000000101), (-7000000000000000101), (-7000000000000000101)⟩ : S92)) (i + 1) Zcw (by omega) Zcw Zcw (by omega); rw [take_set_ge _ _ _ _ h1] at hr; rw [← hr]; simp only [laws_toArticleS.l1, laws_fillerArticle.f, Option.bind_some]; rw [if_pos (by omega)]; rw [if_pos (by omega), w64 (by omega)]
  rfl
theorem to_ArticleS_l0 (d : Nat) : ∀ (k : Nat) (x0 : List S105) (x5 : List S92) (i : Nat), x0.length - i = d → i ≤ x0.length → x0.length ≤ x5.length → x5.length ≤ 4000000 → x5.take i = (x0.take i).map conv_ArticleS → d + x5.length + 1 < k →
  laws_toArticleS.l0 k x0 x5 (i : Int) = some (x0.map conv_ArticleS) := by
 induction d with
 | zero =>
  intro k x0 x5 i hd h1 h2 h3 h4 hk; obtain ⟨k, rfl⟩ : ∃ m, k = m + 1 := ⟨k - 1, by omega⟩; simp only [laws_toArticleS.l0]; rw [if_neg (by omega), to_ArticleS_l1 (x5.length - x0.length) k x0 x5 x0.length rfl (Nat.le_refl _) h2 h3 (by omega)]
  have e : i = x0.length := by omega
  subst e; rw [h4, List.take_length]
 | succ d ih =>
  intro k x0 x5 i hd h1 h2 h3 h4 hk; obtain ⟨k, rfl⟩ : ∃ m, k = m + 1 := ⟨k - 1, by omega⟩
  have hi : i < x0.length := by omega
  have h5 : (x5.set i (conv_ArticleS x0[i])).take (i + 1) = (x0.take (i + 1)).map conv_ArticleS := by
   rw [take_set_snoc _ _ _ (by omega), h4, List.take_succ_eq_append_getElem hi, List.map_append]; rfl
  have hr := ih k x0 (x5.set i (conv_ArticleS x0[i])) (i + 1) (by omega) (by omega) Zcw Zcw h5 Zcw; rw [← hr]; simp only [laws_toArticleS.l0, laws_toArticle.f, Option.bind_some]; rw [if_pos (by omega), if_pos (by omega)]; rw [if_pos (by omega), w64 (by omega), rd_T105, getD_at _ _ _ hi]
  rfl
theorem to_ArticleS (l : List S105) (hl : l.length ≤ 1000000) : ∃ (L : List S92) (t : Int), L ≠ [] ∧ (l.map conv_ArticleS = L.take l.length ∧ l.length ≤ L.length) ∧ (l.map conv_ArticleS).length = l.length ∧ L.length ≤ 2000001 ∧
  laws_roomBehind.f ((l.map conv_ArticleS).length : Int) = some t ∧ wrap64 (((l.map conv_ArticleS).length : Int) + t) = (L.length : Int) ∧
  Evt (fun k => full_toArticleS.f k l false = some L) ∧ Evt (fun k => laws_toArticleS.f k l true = some (l.map conv_ArticleS)) := by
 obtain ⟨t, ht, h0, h1, h2⟩ := room_some l.length; have hw : wrap64 ((l.length : Int) + t) = (l.length : Int) + t := w64 (by omega)
 have hn : ((l.length : Int) + t).toNat = l.length + t.toNat := by omega
 have hm : (l.map conv_ArticleS).length = l.length := List.length_map _
 have hlen : (l.map conv_ArticleS ++ List.replicate (l.length + t.toNat - l.length) (⟨(⟨#[126, 115, 112, 97, 114, 101, 126]⟩ : ByteArray), (-7000000000000000101), (-7000000000000000101), (-7000000000000000101), (-7000000000000000101), (-7000000000000000101), (-7000000000000000101), (-7000000000000000101), (-7000000000000000101)⟩ : S92)).length = l.length + t.toNat := by rw [List.length_append, List.length_replicate, hm]; omega
 refine ⟨l.map conv_ArticleS ++ List.replicate (l.length + t.toNat - l.length) (⟨(⟨#[126, 115, 112, 97, 114, 101, 126]⟩ : ByteArray), (-7000000000000000101), (-7000000000000000101), (-7000000000000000101), (-7000000000000000101), (-7000000000000000101), (-7000000000000000101), (-7000000000000000101), (-7000000000000000101)⟩ : S92), t, ?_, ⟨?_, by omega⟩, hm, by omega, by rw [hm]; exact ht, by rw [hm, hw, hlen]; omega, ?_, ?_⟩
 ·intro e
  rw [e] at hlen
  simp at hlen
  have := h2 (by omega)
  omega
 ·rw [← hm, List.take_left]
 ·refine Evt.succ ⟨l.length + (l.length + t.toNat) + 2, fun k hk => ?_⟩
  show full_toArticleS.f (k + 1) l false = _
  unfold full_toArticleS.f
  rw [if_neg (by decide)]; simp only [full_toArticleS.j0]; rw [if_neg (by decide), ht]; simp only [Option.bind_some]; rw [hw, if_pos (by omega), hn, if_pos (by omega)]; have z := full_ArticleS_l0 l.length k l (List.replicate (l.length + t.toNat) z92) 0 (by omega) (by omega) Zcx Zcx (by simp) Zcx; rw [List.length_replicate] at z; exact z
 ·refine Evt.succ ⟨l.length + (l.length + t.toNat) + 2, fun k hk => ?_⟩
  show laws_toArticleS.f (k + 1) l true = _
  unfold laws_toArticleS.f
  rw [if_pos rfl]; simp only [laws_toArticleS.j0]
  by_cases e : l.length = 0
  ·have e2 : l = [] := List.length_eq_zero_iff.mp e
   subst e2
   rfl
  ·have e3 : ((l.length : Int) == 0) = false := by rw [beq_eq_false_iff_ne]; omega
   rw [e3, if_neg (by decide), ht]; simp only [Option.bind_some]; rw [hw, if_pos (by omega), hn, if_pos (by omega)]; exact to_ArticleS_l0 l.length k l (List.replicate (l.length + t.toNat) z92) 0 (by omega) (by omega) Zcx Zcx (by simp) Zcx
theorem eq_ArticleS_l0 (d : Nat) : ∀ (k : Nat) (xs : List S92) (i : Nat), xs.length - i = d → i ≤ xs.length → xs.length ≤ 4000000 → d < k → laws_eqArticleS.l0 k xs xs (i : Int) = some true := by
 induction d with
 | zero =>
  intro k xs i hd h1 h2 hk; obtain ⟨k, rfl⟩ : ∃ m, k = m + 1 := ⟨k - 1, by omega⟩; simp only [laws_eqArticleS.l0]; rw [if_neg (by omega)]
 | succ d ih =>
  intro k xs i hd h1 h2 hk; obtain ⟨k, rfl⟩ : ∃ m, k = m + 1 := ⟨k - 1, by omega⟩; have hr := ih k xs (i + 1) (by omega) (by omega) h2 (by omega); simp only [laws_eqArticleS.l0, laws_eqArticle.f, if_true, Option.bind_some]; rw [if_pos (by omega), if_pos (by omega), if_pos (by omega), w64 (by omega)]; exact hr
theorem eq_ArticleS (xs : List S92) (h : xs.length ≤ 4000000) : Evt (fun k => laws_eqArticleS.f k xs xs = some true) := by
 refine ⟨xs.length + 1, fun k hk => ?_⟩; show laws_eqArticleS.f k xs xs = _
 unfold laws_eqArticleS.f
 rw [if_pos rfl]; exact eq_ArticleS_l0 xs.length k xs 0 (by omega) (by omega) h (by omega)
theorem sz_ArticleS_l0 (d : Nat) : ∀ (k : Nat) (l : List S105) (a : Int) (i : Nat), l.length - i = d → i ≤ l.length → l.length ≤ 1000000 → 0 ≤ a → a ≤ 1000000 → (∀ x ∈ l, x.f0.size ≤ maxLen) → d < k →
  ∃ s, laws_szArticleS.l0 k l a (i : Int) = some s ∧ (∀ m, k ≤ m → laws_szArticleS.l0 m l a (i : Int) = some s) ∧ (s < 0 ∨ (0 ≤ s ∧ s ≤ a ∧ ∀ j, i ≤ j → (h : j < l.length) → (l[j]).f0.size ≤ 1000000)) := by
 induction d with
 | zero =>
  intro k l a i hd h1 h2 h3 h4 hp hk
  have e : ∀ m, k ≤ m → laws_szArticleS.l0 m l a (i : Int) = some a := fun m hm => by
   obtain ⟨m, rfl⟩ : ∃ q, m = q + 1 := ⟨m - 1, by omega⟩; simp only [laws_szArticleS.l0]; rw [if_neg (by omega)]
  exact ⟨a, e k (Nat.le_refl _), e, .inr ⟨h3, Int.le_refl _, fun j h5 h6 => absurd h6 (by omega)⟩⟩
 | succ d ih =>
  intro k l a i hd h1 h2 h3 h4 hp hk
  have hi : i < l.length := by omega
  have hs := hp l[i] (List.getElem_mem hi); have hm : maxLen = 9223372036854775807 := rfl
  have er : rd_T105 l (i : Int) = l[i] := by unfold rd_T105; exact getD_at _ _ _ hi
  by_cases c : a - ((l[i]).f0.size : Int) < 0
  ·have e : ∀ m, k ≤ m → laws_szArticleS.l0 m l a (i : Int) = some (-1) := fun m hm => by
    obtain ⟨m, rfl⟩ : ∃ q, m = q + 1 := ⟨m - 1, by omega⟩; simp only [laws_szArticleS.l0, laws_szArticle.f]; rw [if_pos (by omega), if_pos (by omega), er, w64 (n := a - ((l[i]).f0.size : Int)) (by omega), if_pos c]
    rfl
   exact ⟨-1, e k (Nat.le_refl _), e, .inl (by omega)⟩
  ·obtain ⟨s, _, e2, e3⟩ := ih (k - 1) l (a - ((l[i]).f0.size : Int)) (i + 1) (by omega) (by omega) h2 (by omega) (by omega) hp (by omega)
   have e : ∀ m, k ≤ m → laws_szArticleS.l0 m l a (i : Int) = some s := fun m hm => by
    obtain ⟨m, rfl⟩ : ∃ q, m = q + 1 := ⟨m - 1, by omega⟩; simp only [laws_szArticleS.l0, laws_szArticle.f]; rw [if_pos (by omega), if_pos (by omega), er, w64 (n := a - ((l[i]).f0.size : Int)) (by omega), if_neg c, Option.bind_some, if_neg c, w64 (n := (i : Int) + 1) (by omega)]; exact e2 m (by omega)
   refine ⟨s, e k (Nat.le_refl _), e, ?_⟩
   rcases e3 with e3 | ⟨e3, e4, e5⟩
   ·exact .inl e3
   ·refine .inr ⟨e3, by omega, fun j h5 h6 => ?_⟩
    by_cases q : j = i
    ·subst q; omega
    ·exact e5 j (by omega) h6
theorem sz_ArticleS (l : List S105) (a : Int) (h0 : 0 ≤ a) (h1 : a ≤ 1000000) (hl : l.length ≤ maxLen) (hp : ∀ x ∈ l, x.f0.size ≤ maxLen) :
  ∃ s, Evt (fun k => laws_szArticleS.f k l a = some s) ∧ (s < 0 ∨ (0 ≤ s ∧ s ≤ a ∧ l.length ≤ 1000000 ∧ ∀ x ∈ l, x.f0.size ≤ 1000000)) := by
 have hm : maxLen = 9223372036854775807 := rfl
 by_cases h : a - (l.length : Int) < 0
 ·refine ⟨-1, Evt.of fun k => ?_, .inl (by omega)⟩
  unfold laws_szArticleS.f
  rw [w64 (by omega), if_pos h]
 ·obtain ⟨s, _, e2, e3⟩ := sz_ArticleS_l0 l.length (l.length + 1) l (a - (l.length : Int)) 0 (by omega) (by omega) (by omega) (by omega) (by omega) hp (by omega)
  refine ⟨s, ⟨l.length + 1, fun k hk => ?_⟩, ?_⟩
  ·show laws_szArticleS.f k l a = _
   unfold laws_szArticleS.f
   rw [w64 (by omega), if_neg h]; exact e2 k hk
  ·rcases e3 with e3 | ⟨e3, e4, e5⟩
   ·exact .inl e3
   ·refine .inr ⟨e3, by omega, by omega, fun x hx => ?_⟩
    obtain ⟨j, hj, rfl⟩ := List.getElem_of_mem hx; exact e5 j (by omega) hj
def seq_ArticleS : Nat → Int → List S92
 | 0, _ => []
 | d + 1, c => (⟨mtext (c), c + 1, c + 2, c + 3, c + 4, c + 5, c + 6, c + 7, c + 8⟩ : S92) :: seq_ArticleS d (c + 9)
theorem seq_ArticleS_len : ∀ (d : Nat) (c : Int), (seq_ArticleS d c).length = d
 | 0, _ => rfl
 | d + 1, c => by unfold seq_ArticleS; rw [List.length_cons, seq_ArticleS_len d]
theorem mark_ArticleS_l0 (d : Nat) : ∀ (k : Nat) (xs : List S92) (c : Int) (i : Nat), xs.length - i = d → i ≤ xs.length → xs.length ≤ 4000000 → 0 ≤ c → c ≤ 1000000000 - 9 * (xs.length - i : Nat) → d + 40 < k →
  laws_markArticleS.l0 k xs c (i : Int) = some (c + 9 * d, xs.take i ++ seq_ArticleS d c) := by
 induction d with
 | zero =>
  intro k xs c i hd h1 h2 h3 h4 hk; obtain ⟨k, rfl⟩ : ∃ m, k = m + 1 := ⟨k - 1, by omega⟩; simp only [laws_markArticleS.l0, seq_ArticleS]; rw [if_neg (by omega), List.take_of_length_le (by omega), List.append_nil]
  congr 2; omega
 | succ d ih =>
  intro k xs c i hd h1 h2 h3 h4 hk; obtain ⟨k, rfl⟩ : ∃ m, k = m + 1 := ⟨k - 1, by omega⟩; have hr := ih k (xs.set i (⟨mtext (c), c + 1, c + 2, c + 3, c + 4, c + 5, c + 6, c + 7, c + 8⟩ : S92)) (c + 9) (i + 1) Zcw Zcw Zcw (by omega) Zcw (by omega); rw [set_take_app _ _ _ _ (by omega)] at hr
  have e : c + 9 * ((d + 1 : Nat) : Int) = c + 9 + 9 * (d : Int) := by omega
  rw [e]; show _ = some (c + 9 + 9 * (d : Int), xs.take i ++ (⟨mtext (c), c + 1, c + 2, c + 3, c + 4, c + 5, c + 6, c + 7, c + 8⟩ : S92) :: seq_ArticleS d (c + 9)); rw [← hr]
  have hc0 : 0 ≤ c := by omega
  have hc1 : c ≤ 1000000000 := by omega
  have mt : laws_markText.f k (c) = some (mtext (c)) := mtext_eq _ (by omega) (by omega) k (by omega)
  have g2 : (0 : Int) ≤ (i : Int) := by omega
  have wi : ∀ _ : Unit, wrap64 ((i : Int) + 1) = (i : Int) + 1 := fun _ => w64 (by omega)
  have ei : ((i + 1 : Nat) : Int) = (i : Int) + 1 := by omega
  have g1 : (i : Int) < (xs.length : Int) := by omega
  have rs : ∀ v : S92, rd_T92 (xs.set i v) (i : Int) = v := fun v => by unfold rd_T92; rw [Int.toNat_natCast, getD_set _ _ _ _ (by omega)]
  have w1 : wrap64 (c + 1) = c + 1 := w64c0 c hc0 hc1; have w2 : wrap64 (c + 1 + 1) = c + 2 := w64c c 1 2 hc0 hc1 (by decide) rfl; have w3 : wrap64 (c + 2 + 1) = c + 3 := w64c c 2 3 hc0 hc1 (by decide) rfl; have w4 : wrap64 (c + 3 + 1) = c + 4 := w64c c 3 4 hc0 hc1 (by decide) rfl; have w5 : wrap64 (c + 4 + 1) = c + 5 := w64c c 4 5 hc0 hc1 (by decide) rfl; have w6 : wrap64 (c + 5 + 1) = c + 6 := w64c c 5 6 hc0 hc1 (by decide) rfl; have w7 : wrap64 (c + 6 + 1) = c + 7 := w64c c 6 7 hc0 hc1 (by decide) rfl; have w8 : wrap64 (c + 7 + 1) = c + 8 := w64c c 7 8 hc0 hc1 (by decide) rfl; have w9 : wrap64 (c + 8 + 1) = c + 9 := w64c c 8 9 hc0 hc1 (by decide) rfl; simp only [laws_markArticleS.l0, Option.bind_some, if_pos g1, if_pos g2, w1, w2, w3, w4, w5, w6, w7, w8, w9, mt, wi (), Int.toNat_natCast, set_set, rs, ei]
theorem mark_ArticleS (xs : List S92) (c : Int) (hx : xs.length ≤ 4000000) (h0 : 0 ≤ c) (h1 : c ≤ 900000000) : Evt (fun k => laws_markArticleS.f k xs c = some (c + 9 * (xs.length : Int), seq_ArticleS xs.length c)) := by
 refine ⟨xs.length + 41, fun k hk => ?_⟩; show laws_markArticleS.f k xs c = _
 unfold laws_markArticleS.f
 exact mark_ArticleS_l0 xs.length k xs c 0 (by omega) (by omega) hx h0 (by omega) (by omega)
theorem held_ArticleS_l0 (d : Nat) : ∀ (k : Nat) (pre : List S92) (c : Int) (i : Nat), pre.length = i → pre.length + d ≤ 4000000 → 0 ≤ c → c ≤ 1000000000 - 9 * d → d + 40 < k →
  laws_heldArticleS.l0 k (pre ++ seq_ArticleS d c) c (i : Int) = some (c + 9 * d) := by
 induction d with
 | zero =>
  intro k pre c i hd h1 h2 h3 hk; obtain ⟨k, rfl⟩ : ∃ m, k = m + 1 := ⟨k - 1, by omega⟩; simp only [laws_heldArticleS.l0, seq_ArticleS, List.append_nil]; rw [if_neg (by omega)]
  congr 1; omega
 | succ d ih =>
  intro k pre c i hd h1 h2 h3 hk; obtain ⟨k, rfl⟩ : ∃ m, k = m + 1 := ⟨k - 1, by omega⟩; have hr := ih k (pre ++ [(⟨mtext (c), c + 1, c + 2, c + 3, c + 4, c + 5, c + 6, c + 7, c + 8⟩ : S92)]) (c + 9) (i + 1) Zcy Zcy (by omega) (by omega) (by omega); rw [List.append_assoc, List.singleton_append] at hr
  have e : c + 9 * ((d + 1 : Nat) : Int) = c + 9 + 9 * (d : Int) := by omega
  have hlen : (pre ++ (⟨mtext (c), c + 1, c + 2, c + 3, c + 4, c + 5, c + 6, c + 7, c + 8⟩ : S92) :: seq_ArticleS d (c + 9)).length = pre.length + (d + 1) := by rw [List.length_append, List.length_cons, seq_ArticleS_len]
  have hrd : rd_T92 (pre ++ (⟨mtext (c), c + 1, c + 2, c + 3, c + 4, c + 5, c + 6, c + 7, c + 8⟩ : S92) :: seq_ArticleS d (c + 9)) (i : Int) = (⟨mtext (c), c + 1, c + 2, c + 3, c + 4, c + 5, c + 6, c + 7, c + 8⟩ : S92) := by
   unfold rd_T92
   rw [Int.toNat_natCast, getD_app _ _ _ _ hd]
   rfl
  rw [e, ← hr]; show laws_heldArticleS.l0 (k + 1) (pre ++ (⟨mtext (c), c + 1, c + 2, c + 3, c + 4, c + 5, c + 6, c + 7, c + 8⟩ : S92) :: seq_ArticleS d (c + 9)) c (i : Int) = _
  have hc0 : 0 ≤ c := by omega
  have hc1 : c ≤ 1000000000 := by omega
  have mt : laws_markText.f k (c) = some (mtext (c)) := mtext_eq _ (by omega) (by omega) k (by omega)
  have g2 : (0 : Int) ≤ (i : Int) := by omega
  have wi : ∀ _ : Unit, wrap64 ((i : Int) + 1) = (i : Int) + 1 := fun _ => w64 (by omega)
  have ei : ((i + 1 : Nat) : Int) = (i : Int) + 1 := by omega
  have g1 : (i : Int) < ((pre ++ (⟨mtext (c), c + 1, c + 2, c + 3, c + 4, c + 5, c + 6, c + 7, c + 8⟩ : S92) :: seq_ArticleS d (c + 9)).length : Int) := by omega
  have w1 : wrap64 (c + 1) = c + 1 := w64c0 c hc0 hc1; have w2 : wrap64 (c + 1 + 1) = c + 2 := w64c c 1 2 hc0 hc1 (by decide) rfl; have w3 : wrap64 (c + 2 + 1) = c + 3 := w64c c 2 3 hc0 hc1 (by decide) rfl; have w4 : wrap64 (c + 3 + 1) = c + 4 := w64c c 3 4 hc0 hc1 (by decide) rfl; have w5 : wrap64 (c + 4 + 1) = c + 5 := w64c c 4 5 hc0 hc1 (by decide) rfl; have w6 : wrap64 (c + 5 + 1) = c + 6 := w64c c 5 6 hc0 hc1 (by decide) rfl; have w7 : wrap64 (c + 6 + 1) = c + 7 := w64c c 6 7 hc0 hc1 (by decide) rfl; have w8 : wrap64 (c + 7 + 1) = c + 8 := w64c c 7 8 hc0 hc1 (by decide) rfl; have w9 : wrap64 (c + 8 + 1) = c + 9 := w64c c 8 9 hc0 hc1 (by decide) rfl; simp only [laws_heldArticleS.l0, Option.bind_some, if_pos g1, if_pos g2, hrd, w1, w2, w3, w4, w5, w6, w7, w8, w9, mt, wi (), if_true, ei]
theorem held_ArticleS (n : Nat) (c : Int) (hx : n ≤ 4000000) (h0 : 0 ≤ c) (h1 : c ≤ 900000000) : Evt (fun k => laws_heldArticleS.f k (seq_ArticleS n c) c = some (c + 9 * (n : Int))) := by
 refine ⟨n + 41, fun k hk => ?_⟩; show laws_heldArticleS.f k (seq_ArticleS n c) c = _
 unfold laws_heldArticleS.f
 exact held_ArticleS_l0 n k [] c 0 rfl (by simp; omega) h0 (by omega) (by omega)
def conv_CueS (x : S40) : S43 := ⟨x.f0, x.f1, x.f2, x.f3⟩
theorem full_CueS_l1 (d : Nat) : ∀ (k : Nat) (x0 : List S40) (x5 : List S43) (i : Nat), x5.length - i = d → x0.length ≤ i → i ≤ x5.length → x5.length ≤ 4000000 → d < k →
  full_toCueS.l1 k x0 x5 (i : Int) = some (x5.take i ++ List.replicate d (⟨(-7000000000000000101), (-7000000000000000101), (⟨#[126, 115, 112, 97, 114, 101, 126]⟩ : ByteArray), (-7000000000000000101)⟩ : S43)) := by
 induction d with
 | zero =>
  intro k x0 x5 i hd h1 h2 h3 hk; obtain ⟨k, rfl⟩ : ∃ m, k = m + 1 := ⟨k - 1, by omega⟩; simp only [full_toCueS.l1]; rw [if_neg (by omega), if_pos (by omega), if_pos (by omega), List.take_of_length_le (by omega)]
  simp
 | succ d ih =>
  intro k x0 x5 i hd h1 h2 h3 hk; obtain ⟨k, rfl⟩ : ∃ m, k = m + 1 := ⟨k - 1, by omega⟩; have hr := ih k x0 (x5.set i (⟨(-7000000000000000101), (-7000000000000000101), (⟨#[126, 115, 112, 97, 114, 101, 126]⟩ : ByteArray), (-7000000000000000101)⟩ : S43)) (i + 1) Zcw (by omega) Zcw Zcw (by omega); rw [take_set_snoc _ _ _ (by omega), List.append_assoc, List.singleton_append, ← List.replicate_succ] at hr; rw [← hr]; simp only [full_toCueS.l1, laws_fillerCue.f, Option.bind_some]; rw [if_pos (by omega)]; rw [if_pos (by omega), w64 (by omega)]
  rfl
theorem full_CueS_l0 (d : Nat) : ∀ (k : Nat) (x0 : List S40) (x5 : List S43) (i : Nat), x0.length - i = d → i ≤ x0.length → x0.length ≤ x5.length → x5.length ≤ 4000000 → x5.take i = (x0.take i).map conv_CueS → d + x5.length + 1 < k →
  full_toCueS.l0 k x0 x5 (i : Int) = some (x0.map conv_CueS ++ List.replicate (x5.length - x0.length) (⟨(-7000000000000000101), (-7000000000000000101), (⟨#[126, 115, 112, 97, 114, 101, 126]⟩ : ByteArray), (-7000000000000000101)⟩ : S43)) := by
 induction d with
 | zero =>
  intro k x0 x5 i hd h1 h2 h3 h4 hk; obtain ⟨k, rfl⟩ : ∃ m, k = m + 1 := ⟨k - 1, by omega⟩; simp only [full_toCueS.l0]; rw [if_neg (by omega), full_CueS_l1 (x5.length - x0.length) k x0 x5 x0.length rfl (Nat.le_refl _) h2 h3 (by omega)]
  have e : i = x0.length := by omega
  subst e; rw [h4, List.take_length]
 | succ d ih =>
  intro k x0 x5 i hd h1 h2 h3 h4 hk; obtain ⟨k, rfl⟩ : ∃ m, k = m + 1 := ⟨k - 1, by omega⟩
  have hi : i < x0.length := by omega
  have h5 : (x5.set i (conv_CueS x0[i])).take (i + 1) = (x0.take (i + 1)).map conv_CueS := by
   rw [take_set_snoc _ _ _ (by omega), h4, List.take_succ_eq_append_getElem hi, List.map_append]; rfl
  have hr := ih k x0 (x5.set i (conv_CueS x0[i])) (i + 1) (by omega) (by omega) Zcw Zcw h5 Zcw; rw [List.length_set] at hr; rw [← hr]; simp only [full_toCueS.l0, laws_toCue.f, Option.bind_some]; rw [if_pos (by omega), if_pos (by omega)]; rw [if_pos (by omega), w64 (by omega), rd_T40, getD_at _ _ _ hi]
  rfl
theorem to_CueS_l1 (d : Nat) : ∀ (k : Nat) (x0 : List S40) (x5 : List S43) (i : Nat), x5.length - i = d → x0.length ≤ i → i ≤ x5.length → x5.length ≤ 4000000 → d < k →
  laws_toCueS.l1 k x0 x5 (i : Int) = some (x5.take x0.length) := by
 induction d with
 | zero =>
  intro k x0 x5 i hd h1 h2 h3 hk; obtain ⟨k, rfl⟩ : ∃ m, k = m + 1 := ⟨k - 1, by omega⟩; simp only [laws_toCueS.l1]; rw [if_neg (by omega), if_pos (by omega), if_pos (by omega), Int.toNat_natCast]
 | succ d ih =>
  intro k x0 x5 i hd h1 h2 h3 hk; obtain ⟨k, rfl⟩ : ∃ m, k = m + 1 := ⟨k - 1, by omega⟩; have hr := ih k x0 (x5.set i (⟨(-7000000000000000101), (-7000000000000000101), (⟨#[126, 115, 112, 97, 114, 101, 126]⟩ : ByteArray), (-7000000000000000101)⟩ : S43)) (i + 1) Zcw (by omega) Zcw Zcw (by omega); rw [take_set_ge _ _ _ _ h1] at hr; rw [← hr]; simp only [laws_toCueS.l1, laws_fillerCue.f, Option.bind_some]; rw [if_pos (by omega)]; rw [if_pos (by omega), w64 (by omega)]
  rfl
theorem to_CueS_l0 (d : Nat) : ∀ (k : Nat) (x0 : List S40) (x5 : List S43) (i : Nat), x0.length - i = d → i ≤ x0.length → x0.length ≤ x5.length → x5.length ≤ 4000000 → x5.take i = (x0.take i).map conv_CueS → d + x5.length + 1 < k →
  laws_toCueS.l0 k x0 x5 (i : Int) = some (x0.map conv_CueS) := by
 induction d with
 | zero =>
  intro k x0 x5 i hd h1 h2 h3 h4 hk; obtain ⟨k, rfl⟩ : ∃ m, k = m + 1 := ⟨k - 1, by omega⟩; simp only [laws_toCueS.l0]; rw [if_neg (by omega), to_CueS_l1 (x5.length - x0.length) k x0 x5 x0.length rfl (Nat.le_refl _) h2 h3 (by omega)]
  have e : i = x0.length := by omega
  subst e; rw [h4, List.take_length]
 | succ d ih =>
  intro k x0 x5 i hd h1 h2 h3 h4 hk; obtain ⟨k, rfl⟩ : ∃ m, k = m + 1 := ⟨k - 1, by omega⟩
  have hi : i < x0.length := by omega
  have h5 : (x5.set i (conv_CueS x0[i])).take (i + 1) = (x0.take (i + 1)).map conv_CueS := by
   rw [take_set_snoc _ _ _ (by omega), h4, List.take_succ_eq_append_getElem hi, List.map_append]; rfl
  have hr := ih k x0 (x5.set i (conv_CueS x0[i])) (i + 1) (by omega) (by omega) Zcw Zcw h5 Zcw; rw [← hr]; simp only [laws_toCueS.l0, laws_toCue.f, Option.bind_some]; rw [if_pos (by omega), if_pos (by omega)]; rw [if_pos (by omega), w64 (by omega), rd_T40, getD_at _ _ _ hi]
  rfl
theorem to_CueS (l : List S40) (hl : l.length ≤ 1000000) : ∃ (L : List S43) (t : Int), L ≠ [] ∧ (l.map conv_CueS = L.take l.length ∧ l.length ≤ L.length) ∧ (l.map conv_CueS).length = l.length ∧ L.length ≤ 2000001 ∧
  laws_roomBehind.f ((l.map conv_CueS).length : Int) = some t ∧ wrap64 (((l.map conv_CueS).length : Int) + t) = (L.length : Int) ∧
  Evt (fun k => full_toCueS.f k l false = some L) ∧ Evt (fun k => laws_toCueS.f k l true = some (l.map conv_CueS)) := by
 obtain ⟨t, ht, h0, h1, h2⟩ := room_some l.length; have hw : wrap64 ((l.length : Int) + t) = (l.length : Int) + t := w64 (by omega)
 have hn : ((l.length : Int) + t).toNat = l.length + t.toNat := by omega
 have hm : (l.map conv_CueS).length = l.length := List.length_map _
 have hlen : (l.map conv_CueS ++ List.replicate (l.length + t.toNat - l.length) (⟨(-7000000000000000101), (-7000000000000000101), (⟨#[126, 115, 112, 97, 114, 101, 126]⟩ : ByteArray), (-7000000000000000101)⟩ : S43)).length = l.length + t.toNat := by rw [List.length_append, List.length_replicate, hm]; omega
 refine ⟨l.map conv_CueS ++ List.replicate (l.length + t.toNat - l.length) (⟨(-7000000000000000101), (-7000000000000000101), (⟨#[126, 115, 112, 97, 114, 101, 126]⟩ : ByteArray), (-7000000000000000101)⟩ : S43), t, ?_, ⟨?_, by omega⟩, hm, by omega, by rw [hm]; exact ht, by rw [hm, hw, hlen]; omega, ?_, ?_⟩
 ·intro e
  rw [e] at hlen
  simp at hlen
  have := h2 (by omega)
  omega
 ·rw [← hm, List.take_left]
 ·refine Evt.succ ⟨l.length + (l.length + t.toNat) + 2, fun k hk => ?_⟩
  show full_toCueS.f (k + 1) l false = _
  unfold full_toCueS.f
  rw [if_neg (by decide)]; simp only [full_toCueS.j0]; rw [if_neg (by decide), ht]; simp only [Option.bind_some]; rw [hw, if_pos (by omega), hn, if_pos (by omega)]; have z := full_CueS_l0 l.length k l (List.replicate (l.length + t.toNat) z43) 0 (by omega) (by omega) Zcx Zcx (by simp) Zcx; rw [List.length_replicate] at z; exact z
 ·refine Evt.succ ⟨l.length + (l.length + t.toNat) + 2, fun k hk => ?_⟩
  show laws_toCueS.f (k + 1) l true = _
  unfold laws_toCueS.f
  rw [if_pos rfl]; simp only [laws_toCueS.j0]
  by_cases e : l.length = 0
  ·have e2 : l = [] := List.length_eq_zero_iff.mp e
   subst e2
   rfl
  ·have e3 : ((l.length : Int) == 0) = false := by rw [beq_eq_false_iff_ne]; omega
   rw [e3, if_neg (by decide), ht]; simp only [Option.bind_some]; rw [hw, if_pos (by omega), hn, if_pos (by omega)]; exact to_CueS_l0 l.length k l (List.replicate (l.length + t.toNat) z43) 0 (by omega) (by omega) Zcx Zcx (by simp) Zcx
theorem eq_CueS_l0 (d : Nat) : ∀ (k : Nat) (xs : List S43) (i : Nat), xs.length - i = d → i ≤ xs.length → xs.length ≤ 4000000 → d < k → laws_eqCueS.l0 k xs xs (i : Int) = some true := by
 induction d with
 | zero =>
  intro k xs i hd h1 h2 hk; obtain ⟨k, rfl⟩ : ∃ m, k = m + 1 := ⟨k - 1, by omega⟩; simp only [laws_eqCueS.l0]; rw [if_neg (by omega)]
 | succ d ih =>
  intro k xs i hd h1 h2 hk; obtain ⟨k, rfl⟩ : ∃ m, k = m + 1 := ⟨k - 1, by omega⟩; have hr := ih k xs (i + 1) (by omega) (by omega) h2 (by omega); simp only [laws_eqCueS.l0, laws_eqCue.f, if_true, Option.bind_some]; rw [if_pos (by omega), if_pos (by omega), if_pos (by omega), w64 (by omega)]; exact hr
theorem eq_CueS (xs : List S43) (h : xs.length ≤ 4000000) : Evt (fun k => laws_eqCueS.f k xs xs = some true) := by
 refine ⟨xs.length + 1, fun k hk => ?_⟩; show laws_eqCueS.f k xs xs = _
 unfold laws_eqCueS.f
 rw [if_pos rfl]; exact eq_CueS_l0 xs.length k xs 0 (by omega) (by omega) h (by omega)
theorem sz_CueS_l0 (d : Nat) : ∀ (k : Nat) (l : List S40) (a : Int) (i : Nat), l.length - i = d → i ≤ l.length → l.length ≤ 1000000 → 0 ≤ a → a ≤ 1000000 → (∀ x ∈ l, x.f2.size ≤ maxLen) → d < k →
  ∃ s, laws_szCueS.l0 k l a (i : Int) = some s ∧ (∀ m, k ≤ m → laws_szCueS.l0 m l a (i : Int) = some s) ∧ (s < 0 ∨ (0 ≤ s ∧ s ≤ a ∧ ∀ j, i ≤ j → (h : j < l.length) → (l[j]).f2.size ≤ 1000000)) := by
 induction d with
 | zero =>
  intro k l a i hd h1 h2 h3 h4 hp hk
  have e : ∀ m, k ≤ m → laws_szCueS.l0 m l a (i : Int) = some a := fun m hm => by
   obtain ⟨m, rfl⟩ : ∃ q, m = q + 1 := ⟨m - 1, by omega⟩; simp only [laws_szCueS.l0]; rw [if_neg (by omega)]
  exact ⟨a, e k (Nat.le_refl _), e, .inr ⟨h3, Int.le_refl _, fun j h5 h6 => absurd h6 (by omega)⟩⟩
 | succ d ih =>
  intro k l a i hd h1 h2 h3 h4 hp hk
  have hi : i < l.length := by omega
  have hs := hp l[i] (List.getElem_mem hi); have hm : maxLen = 9223372036854775807 := rfl
  have er : rd_T40 l (i : Int) = l[i] := by unfold rd_T40; exact getD_at _ _ _ hi
  by_cases c : a - ((l[i]).f2.size : Int) < 0
  ·have e : ∀ m, k ≤ m → laws_szCueS.l0 m l a (i : Int) = some (-1) := fun m hm => by
    obtain ⟨m, rfl⟩ : ∃ q, m = q + 1 := ⟨m - 1, by omega⟩; simp only [laws_szCueS.l0, laws_szCue.f]; rw [if_pos (by omega), if_pos (by omega), er, w64 (n := a - ((l[i]).f2.size : Int)) (by omega), if_pos c]
    rfl
   exact ⟨-1, e k (Nat.le_refl _), e, .inl (by omega)⟩
  ·obtain ⟨s, _, e2, e3⟩ := ih (k - 1) l (a - ((l[i]).f2.size : Int)) (i + 1) (by omega) (by omega) h2 (by omega) (by omega) hp (by omega)
   have e : ∀ m, k ≤ m → laws_szCueS.l0 m l a (i : Int) = some s := fun m hm => by
    obtain ⟨m, rfl⟩ : ∃ q, m = q + 1 := ⟨m - 1, by omega⟩; simp only [laws_szCueS.l0, laws_szCue.f]; rw [if_pos (by omega), if_pos (by omega), er, w64 (n := a - ((l[i]).f2.size : Int)) (by omega), if_neg c, Option.bind_some, if_neg c, w64 (n := (i : Int) + 1) (by omega)]; exact e2 m (by omega)
   refine ⟨s, e k (Nat.le_refl _), e, ?_⟩
   rcases e3 with e3 | ⟨e3, e4, e5⟩
   ·exact .inl e3
   ·refine .inr ⟨e3, by omega, fun j h5 h6 => ?_⟩
    by_cases q : j = i
    ·subst q; omega
    ·exact e5 j (by omega) h6
theorem sz_CueS (l : List S40) (a : Int) (h0 : 0 ≤ a) (h1 : a ≤ 1000000) (hl : l.length ≤ maxLen) (hp : ∀ x ∈ l, x.f2.size ≤ maxLen) :
  ∃ s, Evt (fun k => laws_szCueS.f k l a = some s) ∧ (s < 0 ∨ (0 ≤ s ∧ s ≤ a ∧ l.length ≤ 1000000 ∧ ∀ x ∈ l, x.f2.size ≤ 1000000)) := by
 have hm : maxLen = 9223372036854775807 := rfl
 by_cases h : a - (l.length : Int) < 0
 ·refine ⟨-1, Evt.of fun k => ?_, .inl (by omega)⟩
  unfold laws_szCueS.f
  rw [w64 (by omega), if_pos h]
 ·obtain ⟨s, _, e2, e3⟩ := sz_CueS_l0 l.length (l.length + 1) l (a - (l.length : Int)) 0 (by omega) (by omega) (by omega) (by omega) (by omega) hp (by omega)
  refine ⟨s, ⟨l.length + 1, fun k hk => ?_⟩, ?_⟩
  ·show laws_szCueS.f k l a = _
   unfold laws_szCueS.f
   rw [w64 (by omega), if_neg h]; exact e2 k hk
  ·rcases e3 with e3 | ⟨e3, e4, e5⟩
   ·exact .inl e3
   ·refine .inr ⟨e3, by omega, by omega, fun x hx => ?_⟩
    obtain ⟨j, hj, rfl⟩ := List.getElem_of_mem hx; exact e5 j (by omega) hj
def seq_CueS : Nat → Int → List S43
 | 0, _ => []
 | d + 1, c => (⟨c, c + 1, mtext (c + 2), c + 3⟩ : S43) :: seq_CueS d (c + 4)
theorem seq_CueS_len : ∀ (d : Nat) (c : Int), (seq_CueS d c).length = d
 | 0, _ => rfl
 | d + 1, c => by unfold seq_CueS; rw [List.length_cons, seq_CueS_len d]
theorem mark_CueS_l0 (d : Nat) : ∀ (k : Nat) (xs : List S43) (c : Int) (i : Nat), xs.length - i = d → i ≤ xs.length → xs.length ≤ 4000000 → 0 ≤ c → c ≤ 1000000000 - 4 * (xs.length - i : Nat) → d + 40 < k →
  laws_markCueS.l0 k xs c (i : Int) = some (c + 4 * d, xs.take i ++ seq_CueS d c) := by
 induction d with
 | zero =>
  intro k xs c i hd h1 h2 h3 h4 hk; obtain ⟨k, rfl⟩ : ∃ m, k = m + 1 := ⟨k - 1, by omega⟩; simp only [laws_markCueS.l0, seq_CueS]; rw [if_neg (by omega), List.take_of_length_le (by omega), List.append_nil]
  congr 2; omega
 | succ d ih =>
  intro k xs c i hd h1 h2 h3 h4 hk; obtain ⟨k, rfl⟩ : ∃ m, k = m + 1 := ⟨k - 1, by omega⟩; have hr := ih k (xs.set i (⟨c, c + 1, mtext (c + 2), c + 3⟩ : S43)) (c + 4) (i + 1) Zcw Zcw Zcw (by omega) Zcw (by omega); rw [set_take_app _ _ _ _ (by omega)] at hr
  have e : c + 4 * ((d + 1 : Nat) : Int) = c + 4 + 4 * (d : Int) := by omega
  rw [e]; show _ = some (c + 4 + 4 * (d : Int), xs.take i ++ (⟨c, c + 1, mtext (c + 2), c + 3⟩ : S43) :: seq_CueS d (c + 4)); rw [← hr]
  have hc0 : 0 ≤ c := by omega
  have hc1 : c ≤ 1000000000 := by omega
  have mt : laws_markText.f k (c + 2) = some (mtext (c + 2)) := mtext_eq _ (by omega) (by omega) k (by omega)
  have g2 : (0 : Int) ≤ (i : Int) := by omega
  have wi : ∀ _ : Unit, wrap64 ((i : Int) + 1) = (i : Int) + 1 := fun _ => w64 (by omega)
  have ei : ((i + 1 : Nat) : Int) = (i : Int) + 1 := by omega
  have g1 : (i : Int) < (xs.length : Int) := by omega
  have rs : ∀ v : S43, rd_T43 (xs.set i v) (i : Int) = v := fun v => by unfold rd_T43; rw [Int.toNat_natCast, getD_set _ _ _ _ (by omega)]
  have w1 : wrap64 (c + 1) = c + 1 := w64c0 c hc0 hc1; have w2 : wrap64 (c + 1 + 1) = c + 2 := w64c c 1 2 hc0 hc1 (by decide) rfl; have w3 : wrap64 (c + 2 + 1) = c + 3 := w64c c 2 3 hc0 hc1 (by decide) rfl; have w4 : wrap64 (c + 3 + 1) = c + 4 := w64c c 3 4 hc0 hc1 (by decide) rfl; simp only [laws_markCueS.l0, Option.bind_some, if_pos g1, if_pos g2, w1, w2, w3, w4, mt, wi (), Int.toNat_natCast, set_set, rs, ei]
theorem mark_CueS (xs : List S43) (c : Int) (hx : xs.length ≤ 4000000) (h0 : 0 ≤ c) (h1 : c ≤ 900000000) : Evt (fun k => laws_markCueS.f k xs c = some (c + 4 * (xs.length : Int), seq_CueS xs.length c)) := by
 refine ⟨xs.length + 41, fun k hk => ?_⟩; show laws_markCueS.f k xs c = _
 unfold laws_markCueS.f
 exact mark_CueS_l0 xs.length k xs c 0 (by omega) (by omega) hx h0 (by omega) (by omega)
theorem held_CueS_l0 (d : Nat) : ∀ (k : Nat) (pre : List S43) (c : Int) (i : Nat), pre.length = i → pre.length + d ≤ 4000000 → 0 ≤ c → c ≤ 1000000000 - 4 * d → d + 40 < k →
  laws_heldCueS.l0 k (pre ++ seq_CueS d c) c (i : Int) = some (c + 4 * d) := by
 induction d with
 | zero =>
  intro k pre c i hd h1 h2 h3 hk; obtain ⟨k, rfl⟩ : ∃ m, k = m + 1 := ⟨k - 1, by omega⟩; simp only [laws_heldCueS.l0, seq_CueS, List.append_nil]; rw [if_neg (by omega)]
  congr 1; omega
 | succ d ih =>
  intro k pre c i hd h1 h2 h3 hk; obtain ⟨k, rfl⟩ : ∃ m, k = m + 1 := ⟨k - 1, by omega⟩; have hr := ih k (pre ++ [(⟨c, c + 1, mtext (c + 2), c + 3⟩ : S43)]) (c + 4) (i + 1) Zcy Zcy (by omega) (by omega) (by omega); rw [List.append_assoc, List.singleton_append] at hr
  have e : c + 4 * ((d + 1 : Nat) : Int) = c + 4 + 4 * (d : Int) := by omega
  have hlen : (pre ++ (⟨c, c + 1, mtext (c + 2), c + 3⟩ : S43) :: seq_CueS d (c + 4)).length = pre.length + (d + 1) := by rw [List.length_append, List.length_cons, seq_CueS_len]
  have hrd : rd_T43 (pre ++ (⟨c, c + 1, mtext (c + 2), c + 3⟩ : S43) :: seq_CueS d (c + 4)) (i : Int) = (⟨c, c + 1, mtext (c + 2), c + 3⟩ : S43) := by
   unfold rd_T43
   rw [Int.toNat_natCast, getD_app _ _ _ _ hd]
   rfl
  rw [e, ← hr]; show laws_heldCueS.l0 (k + 1) (pre ++ (⟨c, c + 1, mtext (c + 2), c + 3⟩ : S43) :: seq_CueS d (c + 4)) c (i : Int) = _
  have hc0 : 0 ≤ c := by omega
  have hc1 : c ≤ 1000000000 := by omega
  have mt : laws_markText.f k (c + 2) = some (mtext (c + 2)) := mtext_eq _ (by omega) (by omega) k (by omega)
  have g2 : (0 : Int) ≤ (i : Int) := by omega
  have wi : ∀ _ : Unit, wrap64 ((i : Int) + 1) = (i : Int) + 1 := fun _ => w64 (by omega)
  have ei : ((i + 1 : Nat) : Int) = (i : Int) + 1 := by omega
  have g1 : (i : Int) < ((pre ++ (⟨c, c + 1, mtext (c + 2), c + 3⟩ : S43) :: seq_CueS d (c + 4)).length : Int) := by omega
  have w1 : wrap64 (c + 1) = c + 1 := w64c0 c hc0 hc1; have w2 : wrap64 (c + 1 + 1) = c + 2 := w64c c 1 2 hc0 hc1 (by decide) rfl; have w3 : wrap64 (c + 2 + 1) = c + 3 := w64c c 2 3 hc0 hc1 (by decide) rfl; have w4 : wrap64 (c + 3 + 1) = c + 4 := w64c c 3 4 hc0 hc1 (by decide) rfl; simp only [laws_heldCueS.l0, Option.bind_some, if_pos g1, if_pos g2, hrd, w1, w2, w3, w4, mt, wi (), if_true, ei]
theorem held_CueS (n : Nat) (c : Int) (hx : n ≤ 4000000) (h0 : 0 ≤ c) (h1 : c ≤ 900000000) : Evt (fun k => laws_heldCueS.f k (seq_CueS n c) c = some (c + 4 * (n : Int))) := by
 refine ⟨n + 41, fun k hk => ?_⟩; show laws_heldCueS.f k (seq_CueS n c) c = _
 unfold laws_heldCueS.f
 exact held_CueS_l0 n k [] c 0 rfl (by simp; omega) h0 (by omega) (by omega)
theorem sz_Show (l0 : List S110) (l1 : List S105) (l2 : List S40) (n0 : l0.length ≤ maxLen) (n1 : l1.length ≤ maxLen) (p1 : ∀ x ∈ l1, x.f0.size ≤ maxLen) (n2 : l2.length ≤ maxLen) (p2 : ∀ x ∈ l2, x.f2.size ≤ maxLen) :
  ∃ s, Evt (fun k => laws_szShow.f k l0 l1 l2 1000000 = some s) ∧ (s < 0 ∨ (0 ≤ s ∧ s ≤ 1000000 ∧ l0.length ≤ 1000000 ∧ (l1.length ≤ 1000000 ∧ ∀ x ∈ l1, x.f0.size ≤ 1000000) ∧ l2.length ≤ 1000000 ∧ ∀ x ∈ l2, x.f2.size ≤ 1000000)) := by
 rcases sz_BarS l0 1000000 (by omega) (by omega) n0 with ⟨z0, e0⟩ | e0
 rotate_left
 ·refine ⟨-1, Evt.of fun k => ?_, .inl (by omega)⟩
  unfold laws_szShow.f
  rw [e0]; rfl
 ·obtain ⟨s1, e1, h1⟩ := sz_ArticleS l1 (1000000 - (l0.length : Int)) (by omega) (by omega) n1 p1
  rcases h1 with h1 | ⟨h1, h2, h3, h4⟩
  ·refine ⟨-1, e1.mono fun k hk => ?_, .inl (by omega)⟩
   unfold laws_szShow.f
   rw [e0]; simp only [Option.bind_some]; rw [if_neg (by omega), hk]; simp only [Option.bind_some]; rw [if_pos h1]
  ·obtain ⟨s2, e2, g1⟩ := sz_CueS l2 s1 h1 (by omega) n2 p2
   rcases g1 with g1 | ⟨g1, g2, g3, g4⟩
   ·refine ⟨-1, (e1.and e2).mono fun k hk => ?_, .inl (by omega)⟩
    unfold laws_szShow.f
    rw [e0]; simp only [Option.bind_some]; rw [if_neg (by omega), hk.1]; simp only [Option.bind_some]; rw [if_neg (by omega), hk.2]; simp only [Option.bind_some]; rw [if_pos g1]
   ·refine ⟨s2, (e1.and e2).mono fun k hk => ?_, .inr ⟨g1, by omega, by omega, ⟨h3, h4⟩, g3, g4⟩⟩
    unfold laws_szShow.f
    rw [e0]; simp only [Option.bind_some]; rw [if_neg (by omega), hk.1]; simp only [Option.bind_some]; rw [if_neg (by omega), hk.2]; simp only [Option.bind_some]; rw [if_neg (by omega)]
theorem full_Show {l0 : List S110} {l1 : List S105} {l2 : List S40} {L0 : List S108} {L1 : List S92} {L2 : List S43} (h0 : Evt (fun k => full_toBarS.f k l0 false = some L0)) (h1 : Evt (fun k => full_toArticleS.f k l1 false = some L1)) (h2 : Evt (fun k => full_toCueS.f k l2 false = some L2)) : Evt (fun k => full_toShow.f k l0 l1 l2 false = some (L0, L1, L2)) :=
 (h0.and (h1.and h2)).mono fun k h => by
  unfold full_toShow.f
  rw [h.1, h.2.1, h.2.2]; rfl
theorem bare_Show {l0 : List S110} {l1 : List S105} {l2 : List S40} {L0 : List S108} {L1 : List S92} {L2 : List S43} (h0 : Evt (fun k => laws_toBarS.f k l0 true = some L0)) (h1 : Evt (fun k => laws_toArticleS.f k l1 true = some L1)) (h2 : Evt (fun k => laws_toCueS.f k l2 true = some L2)) : Evt (fun k => laws_toShow.f k l0 l1 l2 true = some (L0, L1, L2)) :=
 (h0.and (h1.and h2)).mono fun k h => by
  unfold laws_toShow.f
  rw [h.1, h.2.1, h.2.2]; rfl
theorem mark_Show (A : List S108) (B : List S92) (C : List S43) (c : Int) (hA : A.length ≤ 1000010) (hB : B.length ≤ 1000010) (hC : C.length ≤ 1000010) (h0 : 0 ≤ c) (h1 : c ≤ 1000) : Evt (fun k => laws_markShow.f k A B C c = some (c + 2 * (A.length : Int) + 9 * (B.length : Int) + 4 * (C.length : Int), seq_BarS A.length c, seq_ArticleS B.length (c + 2 * (A.length : Int)), seq_CueS C.length (c + 2 * (A.length : Int) + 9 * (B.length : Int)))) :=
 ((mark_BarS A c (by omega) h0 (by omega)).and ((mark_ArticleS B (c + 2 * (A.length : Int)) (by omega) (by omega) (by omega)).and (mark_CueS C (c + 2 * (A.length : Int) + 9 * (B.length : Int)) (by omega) (by omega) (by omega)))).mono fun k h => by
  unfold laws_markShow.f
  rw [h.1]; simp only [Option.bind_some]; rw [h.2.1]; simp only [Option.bind_some]; rw [h.2.2]; rfl
theorem held_Show (n0 n1 n2 : Nat) (c : Int) (hA : n0 ≤ 1000010) (hB : n1 ≤ 1000010) (hC : n2 ≤ 1000010) (h0 : 0 ≤ c) (h1 : c ≤ 1000) : Evt (fun k => laws_heldShow.f k (seq_BarS n0 c) (seq_ArticleS n1 (c + 2 * (n0 : Int))) (seq_CueS n2 (c + 2 * (n0 : Int) + 9 * (n1 : Int))) c = some (c + 2 * (n0 : Int) + 9 * (n1 : Int) + 4 * (n2 : Int))) :=
 ((held_BarS n0 c (by omega) h0 (by omega)).and ((held_ArticleS n1 (c + 2 * (n0 : Int)) (by omega) (by omega) (by omega)).and (held_CueS n2 (c + 2 * (n0 : Int) + 9 * (n1 : Int)) (by omega) (by omega) (by omega)))).mono fun k h => by
  unfold laws_heldShow.f
  rw [h.1]; simp only [Option.bind_some]; rw [if_neg (by omega), h.2.1]; simp only [Option.bind_some]; rw [if_neg (by omega), h.2.2]; simp only [Option.bind_some]; rw [if_neg (by omega)]
theorem eq_Show (A : List S108) (B : List S92) (C : List S43) (hA : A.length ≤ 4000000) (hB : B.length ≤ 4000000) (hC : C.length ≤ 4000000) : Evt (fun k => laws_eqShow.f k A B C A B C = some true) :=
 ((eq_BarS A hA).and ((eq_ArticleS B hB).and (eq_CueS C hC))).mono fun k h => by
  unfold laws_eqShow.f
  rw [h.1, h.2.1, h.2.2]; rfl
theorem In_eq (n lo hi : Int) : spec_l01In.f n lo hi = some (inB n lo hi) := by
 unfold spec_l01In.f inB
 by_cases h : n ≥ lo
 ·rw [if_pos h]; congr 1; simp; omega
 ·rw [if_neg h]; congr 1; simp; omega
theorem Wi_eq (n lo hi : Int) : impl_within.f n lo hi = some (inB n lo hi) := by
 unfold impl_within.f inB
 by_cases h : lo ≤ n
 ·rw [if_pos h]; congr 1; simp; omega
 ·rw [if_neg h]; congr 1; simp; omega
def word (s : ByteArray) : Bool := allF (fun j => inB (bt s (j : Int)) 97 122) 0 s.size && inB (s.size : Int) 1 16
theorem spec_word (s : ByteArray) (hs : s.size ≤ 4000000) (k : Nat) (hk : s.size < k) : spec_IsWord.f k s = some (word s) := by
 refine all_loop (f := fun k i => spec_IsWord.l0 k s (i : Int)) s.size (fun k i hi => ?_) (fun k => ?_) s.size k 0 (by omega) (by omega) (by omega)
 ·show spec_IsWord.l0 (k + 1) s i = _
  simp only [spec_IsWord.l0]; rw [if_pos (by omega), if_pos (by omega), w64 (n := (i : Int) + 1) (by omega)]
  by_cases c1 : bt s (i : Int) < 97
  ·rw [if_pos c1, inB_false.2 (by omega), if_neg (by decide)]
  ·rw [if_neg c1]
   by_cases c2 : bt s (i : Int) > 122
   ·rw [if_pos c2, inB_false.2 (by omega), if_neg (by decide)]
   ·rw [if_neg c2, inB_true.2 (by omega), if_pos rfl]; rfl
 ·show spec_IsWord.l0 (k + 1) s _ = _
  simp only [spec_IsWord.l0]; rw [if_neg (by omega), In_eq]; rfl
theorem impl_word (s : ByteArray) (hs : s.size ≤ 4000000) (k : Nat) (hk : s.size + 1 < k) : impl_IsWord.f k s = some (word s) := by
 obtain ⟨k, rfl⟩ : ∃ m, k = m + 1 := ⟨k - 1, by omega⟩
 unfold impl_IsWord.f word
 simp only [impl_IsWord.j0]
 by_cases h1 : (s.size : Int) < 1
 ·rw [if_pos h1, if_pos trivial, inB_false.2 (by omega), Bool.and_false]
 ·rw [if_neg h1]
  by_cases h2 : (s.size : Int) > 16
  ·rw [if_pos (decide_eq_true h2), inB_false.2 (by omega), Bool.and_false]
  ·rw [if_neg (by simpa using h2), inB_true.2 (by omega)]
   refine all_loop (f := fun k i => impl_IsWord.l0 k s (i : Int)) s.size (fun k i hi => ?_) (fun k => ?_) s.size k 0 (by omega) (by omega) (by omega)
   ·show impl_IsWord.l0 (k + 1) s i = _
    simp only [impl_IsWord.l0]; rw [if_pos (by omega), if_pos (by omega), w64 (n := (i : Int) + 1) (by omega)]
    by_cases c1 : bt s (i : Int) < 97
    ·rw [if_pos c1, inB_false.2 (by omega), if_neg (by decide)]
    ·rw [if_neg c1]
     by_cases c2 : bt s (i : Int) > 122
     ·rw [if_pos c2, inB_false.2 (by omega), if_neg (by decide)]
     ·rw [if_neg c2, inB_true.2 (by omega), if_pos rfl]; rfl
   ·show impl_IsWord.l0 (k + 1) s _ = _
    simp only [impl_IsWord.l0]; rw [if_neg (by omega)]
def art (a : S92) : Bool := word a.f0 && (inB a.f1 0 3 && (inB a.f2 20 300 && (inB a.f3 0 10000 && (inB a.f4 0 a.f3 && (inB a.f5 1 50 && (inB a.f6 0 10000 && (inB a.f7 1 100000 && inB a.f8 0 3)))))))
theorem spec_art (a : S92) (hs : a.f0.size ≤ 4000000) (k : Nat) (hk : a.f0.size < k) : spec_IsArticle.f k a.f0 a.f1 a.f2 a.f3 a.f4 a.f5 a.f6 a.f7 a.f8 = some (art a) := by
 unfold spec_IsArticle.f art
 rw [spec_word a.f0 hs k hk]; simp only [In_eq, Option.bind_some]
 cases word a.f0 <;> cases inB a.f1 0 3 <;> cases inB a.f2 20 300 <;> cases inB a.f3 0 10000 <;> cases inB a.f4 0 a.f3 <;> cases inB a.f5 1 50 <;> cases inB a.f6 0 10000 <;> cases inB a.f7 1 100000 <;> rfl
theorem impl_art (a : S92) (hs : a.f0.size ≤ 4000000) (k : Nat) (hk : a.f0.size + 1 < k) : impl_IsArticle.f k a.f0 a.f1 a.f2 a.f3 a.f4 a.f5 a.f6 a.f7 a.f8 = some (art a) := by
 unfold impl_IsArticle.f art
 rw [impl_word a.f0 hs k hk]; simp only [Wi_eq, Option.bind_some]
 cases word a.f0 <;> cases inB a.f1 0 3 <;> cases inB a.f2 20 300 <;> cases inB a.f3 0 10000 <;> cases inB a.f4 0 a.f3 <;> cases inB a.f5 1 50 <;> cases inB a.f6 0 10000 <;> cases inB a.f7 1 100000 <;> rfl
def ar_at (xs : List S92) (i : Nat) : S92 := xs.getD i z92
theorem rd_art (xs : List S92) (i : Nat) : rd_T92 xs (i : Int) = ar_at xs i := by unfold rd_T92 ar_at; rw [Int.toNat_natCast]
def artAt (xs : List S92) (i : Nat) : Bool := art (ar_at xs i) && (decide (i = 0) || Op.bytesLess (ar_at xs (i - 1)).f0.toList (ar_at xs i).f0.toList)
def areArts (xs : List S92) : Bool := allF (artAt xs) 0 xs.length && decide ((xs.length : Int) ≤ 12)
def Small (B : Nat) (xs : List S92) : Prop := B ≤ 1000000 ∧ ∀ x ∈ xs, x.f0.size ≤ B
theorem small_at {B : Nat} {xs : List S92} (h : Small B xs) (i : Nat) (hi : i < xs.length) : (ar_at xs i).f0.size ≤ B := by
 unfold ar_at
 rw [List.getD_eq_getElem?_getD, List.getElem?_eq_getElem hi]; exact h.2 _ (List.getElem_mem hi)
theorem spec_arts (B : Nat) (xs : List S92) (hx : xs.length ≤ 4000000) (hB : Small B xs) (k : Nat) (hk : xs.length + B < k) : spec_AreArticles.f k xs = some (areArts xs) := by
 have loop : ∀ d k i, xs.length - i = d → i ≤ xs.length → d + B < k → spec_AreArticles.l0 k xs (i : Int) = some (allF (artAt xs) i d && decide ((xs.length : Int) ≤ 12)) := by
  intro d
  induction d with
  | zero =>
   intro k i hd hi hk; obtain ⟨k, rfl⟩ : ∃ m, k = m + 1 := ⟨k - 1, by omega⟩; simp only [spec_AreArticles.l0]; rw [if_neg (by omega)]
   rfl
  | succ d ih =>
   intro k i hd hi hk; obtain ⟨k, rfl⟩ : ∃ m, k = m + 1 := ⟨k - 1, by omega⟩; have hb := small_at hB i (by omega); have hB1 := hB.1; have nx := ih k (i + 1) (by omega) (by omega) (by omega); simp only [spec_AreArticles.l0]; rw [if_pos (by omega), if_pos (by omega), rd_art, spec_art _ (by omega) k (by omega), w64 (n := (i : Int) + 1) (by omega)]; simp only [Option.bind_some]
   unfold allF artAt
   cases ha : art (ar_at xs i) with
   | false => rfl
   | true =>
    rw [if_pos rfl, Bool.true_and]
    by_cases i0 : i = 0
    ·subst i0
     rw [if_neg (by omega), decide_eq_true rfl, Bool.true_or, Bool.true_and]; exact nx
    ·rw [if_pos (by omega), w64 (n := (i : Int) - 1) (by omega), if_pos (by omega), if_pos (by omega), show (i : Int) - 1 = ((i - 1 : Nat) : Int) by omega, rd_art, decide_eq_false i0, Bool.false_or]
     cases hl : Op.bytesLess (ar_at xs (i - 1)).f0.toList (ar_at xs i).f0.toList with
     | false => rfl
     | true => rw [if_pos rfl, Bool.true_and]; exact nx
 unfold spec_AreArticles.f
 exact loop xs.length k 0 (by omega) (by omega) hk
theorem impl_arts (B : Nat) (xs : List S92) (hx : xs.length ≤ 4000000) (hB : Small B xs) (k : Nat) (hk : xs.length + B + 1 < k) : impl_AreArticles.f k xs = some (areArts xs) := by
 have loop : ∀ d k i, xs.length - i = d → i ≤ xs.length → d + B + 1 < k → impl_AreArticles.l0 k xs xs (xs.length : Int) (i : Int) = some (allF (artAt xs) i d && true) := by
  intro d
  induction d with
  | zero =>
   intro k i hd hi hk; obtain ⟨k, rfl⟩ : ∃ m, k = m + 1 := ⟨k - 1, by omega⟩; simp only [impl_AreArticles.l0]; rw [if_neg (by omega)]
   rfl
  | succ d ih =>
   intro k i hd hi hk; obtain ⟨k, rfl⟩ : ∃ m, k = m + 1 := ⟨k - 1, by omega⟩; have hb := small_at hB i (by omega); have hB1 := hB.1; have nx := ih k (i + 1) (by omega) (by omega) (by omega); simp only [impl_AreArticles.l0]; rw [if_pos (by omega), if_pos (by omega), if_pos (by omega), rd_art, impl_art _ (by omega) k (by omega), w64 (n := (i : Int) + 1) (by omega)]; simp only [Option.bind_some]
   unfold allF artAt
   cases ha : art (ar_at xs i) with
   | false => rfl
   | true =>
    rw [if_pos rfl, Bool.true_and]
    by_cases i0 : i = 0
    ·subst i0
     rw [if_neg (by omega), decide_eq_true rfl, Bool.true_or, Bool.true_and]; exact nx
    ·rw [if_pos (by omega), w64 (n := (i : Int) - 1) (by omega), if_pos (by omega), if_pos (by omega), show (i : Int) - 1 = ((i - 1 : Nat) : Int) by omega, rd_art, decide_eq_false i0, Bool.false_or]
     cases hl : Op.bytesLess (ar_at xs (i - 1)).f0.toList (ar_at xs i).f0.toList with
     | false => rfl
     | true => rw [if_pos rfl, Bool.true_and]; exact nx
 unfold impl_AreArticles.f areArts
 by_cases c : (xs.length : Int) > 12
 ·rw [if_pos c, decide_eq_false (by omega), Bool.and_false]
 ·rw [if_neg c, decide_eq_true (by omega)]
  exact loop xs.length k 0 (by omega) (by omega) hk
def findF (xs : List S92) (s : ByteArray) : Nat → Nat → Int
 | _, 0 => -1
 | i, d + 1 => if (ar_at xs i).f0.toList = s.toList then (i : Int) else findF xs s (i + 1) d
def find (xs : List S92) (s : ByteArray) : Int := findF xs s 0 xs.length
theorem find_go (xs : List S92) (hx : xs.length ≤ 4000000) (s : ByteArray) : ∀ d k i, xs.length - i = d → i ≤ xs.length → d < k → spec_l03Find.l0 k xs s (i : Int) = some (findF xs s i d) ∧ impl_articleOf.l0 k s xs (xs.length : Int) (i : Int) = some (findF xs s i d) := by
 intro d
 induction d with
 | zero =>
  intro k i hd hi hk; obtain ⟨k, rfl⟩ : ∃ m, k = m + 1 := ⟨k - 1, by omega⟩; simp only [spec_l03Find.l0, impl_articleOf.l0]; rw [if_neg (by omega), if_neg (by omega)]; exact ⟨rfl, rfl⟩
 | succ d ih =>
  intro k i hd hi hk; obtain ⟨k, rfl⟩ : ∃ m, k = m + 1 := ⟨k - 1, by omega⟩; obtain ⟨a, b⟩ := ih k (i + 1) (by omega) (by omega) (by omega); have w : wrap64 ((i : Int) + 1) = ((i + 1 : Nat) : Int) := w64 (by omega)
  have g1 : (i : Int) < (xs.length : Int) := by clear w; omega
  have g2 : 0 ≤ (i : Int) := by clear w; omega
  simp only [spec_l03Find.l0, impl_articleOf.l0, if_pos g1, if_pos g2, rd_art, w]
  unfold findF
  by_cases c : (ar_at xs i).f0.toList = s.toList
  ·rw [if_pos c, if_pos c, if_pos c]; exact ⟨rfl, rfl⟩
  ·rw [if_neg c, if_neg c, if_neg c]; exact ⟨a, b⟩
theorem spec_find (xs : List S92) (hx : xs.length ≤ 4000000) (s : ByteArray) (k : Nat) (hk : xs.length < k) : spec_l03Find.f k xs s = some (find xs s) := (find_go xs hx s xs.length k 0 (by omega) (by omega) hk).1
theorem impl_find (xs : List S92) (hx : xs.length ≤ 4000000) (s : ByteArray) (k : Nat) (hk : xs.length < k) : impl_articleOf.f k xs s = some (find xs s) := (find_go xs hx s xs.length k 0 (by omega) (by omega) hk).2
theorem findF_range (xs : List S92) (s : ByteArray) : ∀ d i, findF xs s i d = -1 ∨ ((i : Int) ≤ findF xs s i d ∧ findF xs s i d < (i : Int) + d)
 | 0, _ => .inl rfl
 | d + 1, i => by
  unfold findF
  by_cases c : (ar_at xs i).f0.toList = s.toList
  ·rw [if_pos c]; exact .inr ⟨Int.le_refl _, by omega⟩
  ·rw [if_neg c]
   rcases findF_range xs s d (i + 1) with h | h
   ·exact .inl h
   ·exact .inr ⟨by omega, by omega⟩
theorem find_range (xs : List S92) (s : ByteArray) : find xs s = -1 ∨ (0 ≤ find xs s ∧ find xs s < (xs.length : Int)) := by
 have := findF_range xs s xs.length 0
 unfold find
 omega
def bt_at (xs : List S108) (i : Nat) : Int := (xs.getD i z108).f0
def ln_at (xs : List S108) (i : Nat) : Int := (xs.getD i z108).f1
def barAt (xs : List S108) (i : Nat) : Bool := inB (bt_at xs i) 1 16 && inB (ln_at xs i) 100 5000
def isScore (xs : List S108) : Bool := allF (barAt xs) 0 xs.length && inB (xs.length : Int) 1 20
theorem rd_bar (xs : List S108) (i : Nat) : rd_T108 xs (i : Int) = xs.getD i z108 := by unfold rd_T108; rw [Int.toNat_natCast]
theorem spec_score (xs : List S108) (hx : xs.length ≤ 4000000) (k : Nat) (hk : xs.length < k) : spec_IsScore.f k xs = some (isScore xs) := by
 refine all_loop (f := fun k i => spec_IsScore.l0 k xs (i : Int)) xs.length (fun k i hi => ?_) (fun k => ?_) xs.length k 0 (by omega) (by omega) (by omega)
 ·show spec_IsScore.l0 (k + 1) xs i = _
  simp only [spec_IsScore.l0, In_eq, Option.bind_some]; rw [if_pos (by omega), if_pos (by omega), w64 (by omega), rd_bar]
  unfold barAt bt_at ln_at
  cases inB (xs.getD i z108).f0 1 16 <;> cases inB (xs.getD i z108).f1 100 5000 <;> rfl
 ·show spec_IsScore.l0 (k + 1) xs _ = _
  simp only [spec_IsScore.l0, In_eq, Option.bind_some]; rw [if_neg (by omega)]
theorem impl_score (xs : List S108) (hx : xs.length ≤ 4000000) (k : Nat) (hk : xs.length + 1 < k) : impl_IsScore.f k xs = some (isScore xs) := by
 obtain ⟨k, rfl⟩ : ∃ m, k = m + 1 := ⟨k - 1, by omega⟩
 unfold impl_IsScore.f isScore
 simp only [impl_IsScore.j0]
 by_cases h1 : (xs.length : Int) < 1
 ·rw [if_pos h1, if_pos trivial, inB_false.2 (by omega), Bool.and_false]
 ·rw [if_neg h1]
  by_cases h2 : (xs.length : Int) > 20
  ·rw [if_pos (decide_eq_true h2), inB_false.2 (by omega), Bool.and_false]
  ·rw [if_neg (by simpa using h2), inB_true.2 (by omega)]
   refine all_loop (f := fun k i => impl_IsScore.l0 k xs (xs.length : Int) (i : Int)) xs.length (fun k i hi => ?_) (fun k => ?_) xs.length k 0 (by omega) (by omega) (by omega)
   ·show impl_IsScore.l0 (k + 1) xs (xs.length : Int) i = _
    simp only [impl_IsScore.l0, Wi_eq, Option.bind_some]; rw [if_pos (by omega), if_pos (by omega), if_pos (by omega), w64 (by omega), rd_bar]
    unfold barAt bt_at ln_at
    cases inB (xs.getD i z108).f0 1 16 <;> cases inB (xs.getD i z108).f1 100 5000 <;> rfl
   ·show impl_IsScore.l0 (k + 1) xs (xs.length : Int) _ = _
    simp only [impl_IsScore.l0]; rw [if_neg (by omega)]
theorem isScore_true {xs : List S108} (h : isScore xs = true) : 1 ≤ xs.length ∧ xs.length ≤ 20 ∧ ∀ i, i < xs.length → 1 ≤ bt_at xs i ∧ bt_at xs i ≤ 16 ∧ 100 ≤ ln_at xs i ∧ ln_at xs i ≤ 5000 := by
 unfold isScore at h
 rw [Bool.and_eq_true, allF_true, inB_true] at h; refine ⟨by omega, by omega, fun i hi => ?_⟩; have := h.1 i (by omega) (by omega)
 unfold barAt at this
 rw [Bool.and_eq_true, inB_true, inB_true] at this
 omega
def tm (xs : List S108) (i : Nat) : Int := foldF (fun j s => s + bt_at xs j * ln_at xs j) 0 i 0
theorem tm_succ (xs : List S108) (i : Nat) : tm xs (i + 1) = tm xs i + bt_at xs i * ln_at xs i := by
 unfold tm
 rw [foldF_snoc, Nat.zero_add]
theorem prod_le {a b : Int} (h : 1 ≤ a ∧ a ≤ 16 ∧ 100 ≤ b ∧ b ≤ 5000) : 100 ≤ a * b ∧ a * b ≤ 80000 := by
 have h1 : 1 * b ≤ a * b := Int.mul_le_mul_of_nonneg_right h.1 (by omega); have h2 : a * b ≤ 16 * b := Int.mul_le_mul_of_nonneg_right h.2.1 (by omega)
 omega
theorem tm_le {xs : List S108} (h : isScore xs = true) : ∀ i, i ≤ xs.length → 0 ≤ tm xs i ∧ tm xs i ≤ 80000 * i
 | 0, _ => by unfold tm foldF; omega
 | i + 1, hi => by
  have h1 := tm_le h i (by omega); have h2 := prod_le ((isScore_true h).2.2 i (by omega)); rw [tm_succ]
  omega
theorem spec_time {xs : List S108} (h : isScore xs = true) (bar : Nat) (hb : bar < xs.length) (beat : Int) (h0 : 0 ≤ beat ∧ beat ≤ 16) (k : Nat) (hk : bar < k) : spec_l07Time.f k xs (bar : Int) beat = some (tm xs bar + beat * ln_at xs bar) := by
 have hs := isScore_true h; have hl := hs.2.2 bar hb
 have hb2 : 0 ≤ beat * ln_at xs bar ∧ beat * ln_at xs bar ≤ 80000 := by
  have h1 : 0 * ln_at xs bar ≤ beat * ln_at xs bar := Int.mul_le_mul_of_nonneg_right h0.1 (by omega); have h2 : beat * ln_at xs bar ≤ 16 * ln_at xs bar := Int.mul_le_mul_of_nonneg_right h0.2 (by omega)
  omega
 refine fold_loop (f := fun k i s => spec_l07Time.l0 k xs (bar : Int) beat s (i : Int)) (step := fun j s => s + bt_at xs j * ln_at xs j) (I := fun i s => s = tm xs i) (e := fun s => some (s + beat * ln_at xs bar)) bar (fun k i s hi hI => ?_) (fun i s hi hI => ?_) (fun k s hI => ?_) bar k 0 0 (by omega) (by omega) rfl hk
 ·have h1 := tm_le h i (by omega)
  have h2 := prod_le (hs.2.2 i (by omega)); show spec_l07Time.l0 (k + 1) xs (bar : Int) beat s (i : Int) = spec_l07Time.l0 k xs (bar : Int) beat (s + bt_at xs i * ln_at xs i) ((i + 1 : Nat) : Int); simp only [spec_l07Time.l0]; rw [if_pos (by omega), if_pos (by omega), if_pos (by omega), rd_bar]; show spec_l07Time.l0 k xs (bar : Int) beat (wrap64 (s + wrap64 (bt_at xs i * ln_at xs i))) (wrap64 ((i : Int) + 1)) = _; rw [w64 (n := bt_at xs i * ln_at xs i) (by omega), w64 (n := s + _) (by omega), w64 (by omega)]
  rfl
 ·show s + bt_at xs i * ln_at xs i = tm xs (i + 1)
  rw [tm_succ, hI]
 ·have h1 := tm_le h bar (by omega)
  show spec_l07Time.l0 (k + 1) xs (bar : Int) beat s (bar : Int) = some (s + beat * ln_at xs bar); simp only [spec_l07Time.l0]; rw [if_neg (by omega), if_pos (by omega), if_pos (by omega), rd_bar]; show some (wrap64 (s + wrap64 (beat * ln_at xs bar))) = _; rw [w64 (n := beat * ln_at xs bar) (by omega), w64 (by omega)]
theorem impl_time {xs : List S108} (h : isScore xs = true) (bar : Nat) (beat : Int) (hb : bar < xs.length ∨ (bar = xs.length ∧ beat = 0)) (h0 : 0 ≤ beat ∧ beat ≤ 16) (k : Nat) (hk : bar < k) : impl_beatTime.f k xs (bar : Int) beat = some (tm xs bar + beat * ln_at xs bar) := by
 have hs := isScore_true h
 have hlen : (xs.take bar).length = bar := by rw [List.length_take]; omega
 unfold impl_beatTime.f
 rw [if_pos (by omega), if_pos (by omega), Int.toNat_natCast]; simp only [Option.bind_some]; rw [hlen]; refine fold_loop (f := fun k i s => impl_beatTime.l0 k xs (bar : Int) beat s (xs.take bar) (bar : Int) (i : Int)) (step := fun j s => s + bt_at xs j * ln_at xs j) (I := fun i s => s = tm xs i) (e := fun s => some (s + beat * ln_at xs bar)) bar (fun k i s hi hI => ?_) (fun i s hi hI => ?_) (fun k s hI => ?_) bar k 0 0 (by omega) (by omega) rfl hk
 ·have h1 := tm_le h i (by omega)
  have h2 := prod_le (hs.2.2 i (by omega)); show impl_beatTime.l0 (k + 1) xs (bar : Int) beat s (xs.take bar) (bar : Int) (i : Int) = impl_beatTime.l0 k xs (bar : Int) beat (s + bt_at xs i * ln_at xs i) (xs.take bar) (bar : Int) ((i + 1 : Nat) : Int); simp only [impl_beatTime.l0]; rw [if_pos (by omega), if_pos (by omega), if_pos (by rw [hlen]; omega), rd_bar, getD_take _ _ _ _ hi]; show impl_beatTime.l0 k xs (bar : Int) beat (wrap64 (s + wrap64 (bt_at xs i * ln_at xs i))) (xs.take bar) (bar : Int) (wrap64 ((i : Int) + 1)) = _; rw [w64 (n := bt_at xs i * ln_at xs i) (by omega), w64 (n := s + _) (by omega), w64 (by omega)]
  rfl
 ·show s + bt_at xs i * ln_at xs i = tm xs (i + 1)
  rw [tm_succ, hI]
 ·have h1 := tm_le h bar (by omega)
  show impl_beatTime.l0 (k + 1) xs (bar : Int) beat s (xs.take bar) (bar : Int) (bar : Int) = some (s + beat * ln_at xs bar); simp only [impl_beatTime.l0]; rw [if_neg (by omega)]
  by_cases hp : beat > 0
  ·have hlt : bar < xs.length := by omega
   have hl := hs.2.2 bar hlt
   have hb2 : 0 ≤ beat * ln_at xs bar ∧ beat * ln_at xs bar ≤ 80000 := by
    have h1 : 0 * ln_at xs bar ≤ beat * ln_at xs bar := Int.mul_le_mul_of_nonneg_right h0.1 (by omega); have h2 : beat * ln_at xs bar ≤ 16 * ln_at xs bar := Int.mul_le_mul_of_nonneg_right h0.2 (by omega)
    omega
   rw [if_pos hp, if_pos (by omega), if_pos (by omega), rd_bar]; show some (wrap64 (s + wrap64 (beat * ln_at xs bar))) = _; rw [w64 (n := beat * ln_at xs bar) (by omega), w64 (by omega)]
  ·have e : beat = 0 := by omega
   rw [if_neg hp, e, Int.zero_mul, Int.add_zero]
theorem index_eq (a n : Int) : impl_isIndex.f a n = some (inB a 0 (wrap64 (n - 1))) := by
 unfold impl_isIndex.f
 simp only [Wi_eq, Option.bind_some]
def hasBeat (xs : List S108) (bar beat : Int) : Bool := inB bar 0 ((xs.length : Int) - 1) && inB beat 0 (bt_at xs bar.toNat - 1)
theorem hasBeat_true {xs : List S108} {bar beat : Int} (h : hasBeat xs bar beat = true) : ∃ b : Nat, bar = b ∧ b < xs.length ∧ 0 ≤ beat ∧ beat ≤ bt_at xs b - 1 := by
 unfold hasBeat at h
 rw [Bool.and_eq_true, inB_true, inB_true] at h; exact ⟨bar.toNat, by omega, by omega, h.2⟩
theorem spec_has {xs : List S108} (h : isScore xs = true) (bar beat : Int) : spec_l07Has.f xs bar beat = some (hasBeat xs bar beat) := by
 have hs := isScore_true h
 unfold spec_l07Has.f hasBeat
 rw [w64 (n := (xs.length : Int) - 1) (by omega), In_eq]; simp only [Option.bind_some]
 cases g : inB bar 0 ((xs.length : Int) - 1) with
 | false => rfl
 | true =>
  rw [inB_true] at g; obtain ⟨b, rfl⟩ : ∃ n : Nat, bar = n := ⟨bar.toNat, by omega⟩; have hb := hs.2.2 b (by omega); rw [if_pos rfl, if_pos (by omega), if_pos (by omega), rd_bar]; show ((spec_l01In.f beat 0 (wrap64 (bt_at xs b - 1))).bind fun t => some t) = _; rw [w64 (by omega), In_eq]; rfl
theorem impl_has {xs : List S108} (h : isScore xs = true) (bar beat : Int) : impl_isBeat.f xs bar beat = some (hasBeat xs bar beat) := by
 have hs := isScore_true h
 unfold impl_isBeat.f hasBeat
 rw [index_eq, w64 (n := (xs.length : Int) - 1) (by omega)]; simp only [Option.bind_some]
 cases g : inB bar 0 ((xs.length : Int) - 1) with
 | false => rfl
 | true =>
  rw [inB_true] at g; obtain ⟨b, rfl⟩ : ∃ n : Nat, bar = n := ⟨bar.toNat, by omega⟩; have hb := hs.2.2 b (by omega); rw [if_pos rfl, if_pos (by omega), if_pos (by omega), rd_bar]; show ((impl_within.f beat 0 (wrap64 (bt_at xs b - 1))).bind fun t => some t) = _; rw [w64 (by omega), Wi_eq]; rfl
def cu_at (C : List S43) (i : Nat) : S43 := C.getD i z43
theorem rd_cue (C : List S43) (i : Nat) : rd_T43 C (i : Int) = cu_at C i := by unfold rd_T43 cu_at; rw [Int.toNat_natCast]
def arOf (B : List S92) (c : S43) : S92 := ar_at B (find B c.f2).toNat
def ftime (A : List S108) (B : List S92) (c : S43) : Int := tm A c.f0.toNat + c.f1 * ln_at A c.f0.toNat - (arOf B c).f3
theorem areArts_true {xs : List S92} (h : areArts xs = true) : xs.length ≤ 12 ∧ ∀ i, i < xs.length → art (ar_at xs i) = true := by
 unfold areArts at h
 rw [Bool.and_eq_true, allF_true, decide_eq_true_iff] at h; refine ⟨by omega, fun i hi => ?_⟩; have := h.1 i (by omega) (by omega)
 unfold artAt at this
 rw [Bool.and_eq_true] at this; exact this.1
theorem art_true {a : S92} (h : art a = true) : (0 ≤ a.f1 ∧ a.f1 ≤ 3) ∧ (20 ≤ a.f2 ∧ a.f2 ≤ 300) ∧ (0 ≤ a.f3 ∧ a.f3 ≤ 10000) ∧ (0 ≤ a.f4 ∧ a.f4 ≤ a.f3) ∧ (1 ≤ a.f5 ∧ a.f5 ≤ 50) ∧ (0 ≤ a.f6 ∧ a.f6 ≤ 10000) ∧ (1 ≤ a.f7 ∧ a.f7 ≤ 100000) ∧ 0 ≤ a.f8 ∧ a.f8 ≤ 3 := by
 unfold art at h
 simp only [Bool.and_eq_true, inB_true] at h; exact h.2
theorem arOf_ok {B : List S92} (hB : areArts B = true) {c : S43} (hc : 0 ≤ find B c.f2) : art (arOf B c) = true ∧ find B c.f2 < (B.length : Int) := by
 rcases find_range B c.f2 with h | h
 ·omega
 ·exact ⟨(areArts_true hB).2 _ (by omega), h.2⟩
theorem time_range {A : List S108} (hA : isScore A = true) {b : Nat} (hb : b < A.length) {e : Int} (he : 0 ≤ e ∧ e ≤ bt_at A b - 1) : 0 ≤ tm A b + e * ln_at A b ∧ tm A b + e * ln_at A b ≤ 2000000 := by
 have hs := isScore_true hA; have hl := hs.2.2 b hb; have ht := tm_le hA b (by omega); have h1 : 0 ≤ e * ln_at A b := Int.mul_nonneg he.1 (by omega); have h2 : e * ln_at A b ≤ 16 * ln_at A b := Int.mul_le_mul_of_nonneg_right (by omega) (by omega)
 omega
theorem spec_ftime {A : List S108} (hA : isScore A = true) {B : List S92} (hB : areArts B = true) (C : List S43) {c : S43} (hc : 0 ≤ find B c.f2) (hb : hasBeat A c.f0 c.f1 = true) (k : Nat) (hk : 100 ≤ k) : spec_l08Time.f k A B C c.f0 c.f1 c.f2 c.f3 = some (ftime A B c) := by
 obtain ⟨b, e, h1, h2, h3⟩ := hasBeat_true hb; have hs := isScore_true hA; have hl := hs.2.2 b h1; have hf := arOf_ok hB hc; have hr := time_range hA h1 ⟨h2, h3⟩; have ha := art_true hf.1; have hB12 := (areArts_true hB).1
 have ft : ftime A B c = tm A b + c.f1 * ln_at A b - (arOf B c).f3 := by unfold ftime; rw [e, Int.toNat_natCast]
 unfold spec_l08Time.f
 rw [e, spec_time hA b h1 c.f1 (by omega) k (by omega)]; simp only [Option.bind_some]; rw [spec_find B (by omega) c.f2 k (by omega)]; simp only [Option.bind_some]; rw [if_pos hc, if_pos hf.2, ft]
 have er : rd_T92 B (find B c.f2) = arOf B c := by
  have := rd_art B (find B c.f2).toNat; rw [show ((find B c.f2).toNat : Int) = find B c.f2 by omega] at this; exact this
 rw [er, w64 (by omega)]
theorem impl_ftime {A : List S108} (hA : isScore A = true) {B : List S92} (hB : areArts B = true) (C : List S43) (c : S43) (k : Nat) (hk : 100 ≤ k) : impl_firedAt.f k A B C c.f0 c.f1 c.f2 c.f3 = some (if 0 ≤ find B c.f2 ∧ hasBeat A c.f0 c.f1 = true then mx (-1) (ftime A B c) else -1) := by
 have hs := isScore_true hA; have hB12 := (areArts_true hB).1
 unfold impl_firedAt.f
 rw [impl_find B (by omega) c.f2 k (by omega)]; simp only [Option.bind_some]
 by_cases hc : 0 ≤ find B c.f2
 ·rw [if_neg (by omega), impl_has hA]
  simp only [Option.bind_some]
  by_cases hb : hasBeat A c.f0 c.f1 = true
  ·obtain ⟨b, e, h1, h2, h3⟩ := hasBeat_true hb
   have hl := hs.2.2 b h1; have hf := arOf_ok hB hc; have hr := time_range hA h1 ⟨h2, h3⟩; have ha := art_true hf.1
   have ft : ftime A B c = tm A b + c.f1 * ln_at A b - (arOf B c).f3 := by unfold ftime; rw [e, Int.toNat_natCast]
   have er : rd_T92 B (find B c.f2) = arOf B c := by
    have := rd_art B (find B c.f2).toNat; rw [show ((find B c.f2).toNat : Int) = find B c.f2 by omega] at this; exact this
   rw [if_pos hb, if_pos (show 0 ≤ find B c.f2 ∧ hasBeat A c.f0 c.f1 = true from ⟨hc, hb⟩), e, impl_time hA b c.f1 (.inl h1) (by omega) k (by omega)]; simp only [Option.bind_some]; rw [if_pos hc, if_pos hf.2, er, ft, w64 (by omega)]
  ·rw [if_neg hb, if_neg (show ¬ (0 ≤ find B c.f2 ∧ hasBeat A c.f0 c.f1 = true) from fun x => hb x.2)]
 ·rw [if_pos (by omega), if_neg (show ¬ (0 ≤ find B c.f2 ∧ hasBeat A c.f0 c.f1 = true) from fun x => hc x.1)]
def cueOk (A : List S108) (B : List S92) (c : S43) : Bool := hasBeat A c.f0 c.f1 && (decide (0 ≤ find B c.f2) && (inB c.f3 0 11 && decide (0 ≤ ftime A B c)))
def isShow (A : List S108) (B : List S92) (C : List S43) : Bool := isScore A && (areArts B && (decide ((C.length : Int) ≤ 20) && allF (fun i => cueOk A B (cu_at C i)) 0 C.length))
theorem isShow_true {A : List S108} {B : List S92} {C : List S43} (h : isShow A B C = true) : isScore A = true ∧ areArts B = true ∧ C.length ≤ 20 ∧ ∀ i, i < C.length → cueOk A B (cu_at C i) = true := by
 unfold isShow at h
 rw [Bool.and_eq_true, Bool.and_eq_true, Bool.and_eq_true, allF_true, decide_eq_true_iff] at h; exact ⟨h.1, h.2.1, by omega, fun i hi => h.2.2.2 i (by omega) (by omega)⟩
theorem spec_show (n : Nat) (A : List S108) (B : List S92) (C : List S43) (hA : A.length ≤ 1000000) (hB : B.length ≤ 1000000) (hC : C.length ≤ 1000000) (hS : Small n B) (k : Nat) (hk : A.length + B.length + C.length + n + 200 ≤ k) : spec_IsShow.f k A B C = some (isShow A B C) := by
 obtain ⟨k, rfl⟩ : ∃ m, k = m + 1 := ⟨k - 1, by omega⟩
 unfold spec_IsShow.f isShow
 rw [spec_score A (by omega) (k + 1) (by omega)]; simp only [Option.bind_some]
 cases a : isScore A with
 | false => rfl
 | true =>
  rw [if_pos rfl, spec_arts n B (by omega) hS (k + 1) (by omega)]; simp only [Option.bind_some]
  cases b : areArts B with
  | false => rfl
  | true =>
   rw [if_pos rfl]
   by_cases c : (C.length : Int) > 20
   ·rw [decide_eq_true c, decide_eq_false (by omega)]; rfl
   ·rw [decide_eq_false c, decide_eq_true (by omega)]
    simp only [spec_IsShow.j0, Bool.false_eq_true, if_false, Bool.true_and]; have hB12 := (areArts_true b).1
    have loop : ∀ d k i, C.length - i = d → i ≤ C.length → d + 110 ≤ k → spec_IsShow.l0 k (i : Int) A B C = some (allF (fun i => cueOk A B (cu_at C i)) i d) := by
     intro d
     induction d with
     | zero =>
      intro k i hd hi hk; obtain ⟨k, rfl⟩ : ∃ m, k = m + 1 := ⟨k - 1, by omega⟩; simp only [spec_IsShow.l0]; rw [if_neg (by omega)]
      rfl
     | succ d ih =>
      intro k i hd hi hk; obtain ⟨k, rfl⟩ : ∃ m, k = m + 1 := ⟨k - 1, by omega⟩; have nx := ih k (i + 1) (by omega) (by omega) (by omega); simp only [spec_IsShow.l0]; rw [if_pos (by omega), if_pos (by omega), rd_cue, spec_has a, spec_find B (by omega) _ k (by omega), In_eq, w64 (n := (i : Int) + 1) (by omega)]; simp only [Option.bind_some]
      unfold allF cueOk
      cases hb : hasBeat A (cu_at C i).f0 (cu_at C i).f1 with
      | false => rfl
      | true =>
       rw [if_pos rfl, Bool.true_and]
       by_cases hf : 0 ≤ find B (cu_at C i).f2
       ·rw [if_neg (by omega), decide_eq_true hf, Bool.true_and]
        cases hr : inB (cu_at C i).f3 0 11 with
        | false => rfl
        | true =>
         rw [if_pos rfl, Bool.true_and, spec_ftime a b C hf hb k (by omega)]; simp only [Option.bind_some]
         by_cases ht : ftime A B (cu_at C i) < 0
         ·rw [if_pos ht, decide_eq_false (by omega)]; rfl
         ·rw [if_neg ht, decide_eq_true (by omega), Bool.true_and]
          exact nx
       ·rw [if_pos (by omega), decide_eq_false hf]; rfl
    exact loop C.length k 0 (by omega) (by omega) (by omega)
theorem impl_show (n : Nat) (A : List S108) (B : List S92) (C : List S43) (hA : A.length ≤ 1000000) (hB : B.length ≤ 1000000) (hC : C.length ≤ 1000000) (hS : Small n B) (k : Nat) (hk : A.length + B.length + C.length + n + 200 ≤ k) : impl_IsShow.f k A B C = some (isShow A B C) := by
 obtain ⟨k, rfl⟩ : ∃ m, k = m + 1 := ⟨k - 1, by omega⟩
 unfold impl_IsShow.f isShow
 rw [impl_score A (by omega) (k + 1) (by omega)]; simp only [Option.bind_some]
 cases a : isScore A with
 | false => rfl
 | true =>
  rw [if_pos rfl, impl_arts n B (by omega) hS (k + 1) (by omega)]; simp only [Option.bind_some]
  cases b : areArts B with
  | false => rfl
  | true =>
   rw [if_pos rfl]
   by_cases c : (C.length : Int) > 20
   ·rw [decide_eq_true c, decide_eq_false (by omega)]; rfl
   ·rw [decide_eq_false c, decide_eq_true (by omega)]
    simp only [impl_IsShow.j0, Bool.false_eq_true, if_false, Bool.true_and]; have hB12 := (areArts_true b).1
    have loop : ∀ d k i, C.length - i = d → i ≤ C.length → d + 110 ≤ k → impl_IsShow.l0 k C (C.length : Int) (i : Int) A B C = some (allF (fun i => cueOk A B (cu_at C i)) i d) := by
     intro d
     induction d with
     | zero =>
      intro k i hd hi hk; obtain ⟨k, rfl⟩ : ∃ m, k = m + 1 := ⟨k - 1, by omega⟩; simp only [impl_IsShow.l0]; rw [if_neg (by omega)]
      rfl
     | succ d ih =>
      intro k i hd hi hk; obtain ⟨k, rfl⟩ : ∃ m, k = m + 1 := ⟨k - 1, by omega⟩; have nx := ih k (i + 1) (by omega) (by omega) (by omega); simp only [impl_IsShow.l0]; rw [if_pos (by omega), if_pos (by omega), if_pos (by omega), rd_cue, Wi_eq, impl_ftime a b C _ k (by omega), w64 (n := (i : Int) + 1) (by omega)]; simp only [Option.bind_some]
      unfold allF cueOk
      cases hr : inB (cu_at C i).f3 0 11 with
      | false =>
       rw [if_neg (by decide)]
       simp
      | true =>
       rw [if_pos rfl]
       cases hb : hasBeat A (cu_at C i).f0 (cu_at C i).f1 with
       | false =>
        rw [if_neg (show ¬ (0 ≤ find B (cu_at C i).f2 ∧ false = true) from fun x => absurd x.2 (by decide)), if_pos (by omega)]; rfl
       | true =>
        by_cases hf : 0 ≤ find B (cu_at C i).f2
        ·rw [if_pos (show 0 ≤ find B (cu_at C i).f2 ∧ true = true from ⟨hf, rfl⟩), decide_eq_true hf]
         by_cases ht : ftime A B (cu_at C i) < 0
         ·rw [if_pos (by unfold mx; split <;> omega), decide_eq_false (by omega)]; rfl
         ·rw [if_neg (by unfold mx; split <;> omega), decide_eq_true (by omega)]
          exact nx
        ·rw [if_neg (show ¬ (0 ≤ find B (cu_at C i).f2 ∧ true = true) from fun x => hf x.1), if_pos (by omega), decide_eq_false hf]; rfl
    exact loop C.length k 0 (by omega) (by omega) (by omega)
end Go.Proofs.Ytnlbaflbhicooaa.F
namespace Go.Proofs.Ytnlbaflbhicooaa.F
open Go.RowKit Go.Proofs.YtnlbaflbhicooaaW.PrintWords Go.Proofs.YtnlbaflbhicooaaW.PrintLast Go.Proofs.YtnlbaflbhicooaaW.PrintMore
attribute [local go_sem] max2_int min2_int max_two min_two max_three min_three max_four min_four
set_option linter.unusedVariables false
set_option linter.unusedSimpArgs false
end Go.Proofs.Ytnlbaflbhicooaa.F
namespace Go.Proofs.Ytnlbaflbhicooaa.F
open Go.RowKit Go.Proofs.YtnlbaflbhicooaaW.PrintWords Go.Proofs.YtnlbaflbhicooaaW.PrintLast Go.Proofs.YtnlbaflbhicooaaW.PrintMore
set_option linter.unusedVariables false
set_option linter.unusedSimpArgs false
def Frame (n0 : Nat) (A : List S108) (B : List S92) (C : List S43) : Prop := A.length ≤ 1000000 ∧ B.length ≤ 1000000 ∧ C.length ≤ 1000000 ∧ Small n0 B
theorem ss_ok {n0 : Nat} {A : List S108} {B : List S92} {C : List S43} (h : Frame n0 A B C) (k : Nat) (hk : 4000200 ≤ k) : spec_IsShow.f k A B C = some (isShow A B C) := spec_show n0 A B C h.1 h.2.1 h.2.2.1 h.2.2.2 k (by have := h.1; have := h.2.1; have := h.2.2.1; have := h.2.2.2.1; omega)
theorem si_ok {n0 : Nat} {A : List S108} {B : List S92} {C : List S43} (h : Frame n0 A B C) (k : Nat) (hk : 4000200 ≤ k) : impl_IsShow.f k A B C = some (isShow A B C) := impl_show n0 A B C h.1 h.2.1 h.2.2.1 h.2.2.2 k (by have := h.1; have := h.2.1; have := h.2.2.1; have := h.2.2.2.1; omega)
end Go.Proofs.Ytnlbaflbhicooaa.F
namespace Go.Proofs.Ytnlbaflbhicooaa.F
open Go.RowKit Go.Proofs.YtnlbaflbhicooaaW.PrintWords Go.Proofs.YtnlbaflbhicooaaW.PrintLast Go.Proofs.YtnlbaflbhicooaaW.PrintMore
attribute [local go_sem] max2_int min2_int max_two min_two max_three min_three max_four min_four
set_option linter.unusedVariables false
set_option linter.unusedSimpArgs false
end Go.Proofs.Ytnlbaflbhicooaa.F
namespace Go.Proofs.Ytnlbaflbhicooaa.F
open Go.RowKit Go.Proofs.YtnlbaflbhicooaaW.PrintWords Go.Proofs.YtnlbaflbhicooaaW.PrintLast Go.Proofs.YtnlbaflbhicooaaW.PrintMore
set_option linter.unusedVariables false
set_option linter.unusedSimpArgs false
theorem with_ok (A : List S108) (B : List S92) (C D : List S43) (hA : A.length ≤ 1000000) (hB : B.length ≤ 1000000) (hD : D.length ≤ 1000010) : spec_l08With.f A B C D = some (A, B, D) := by
 unfold spec_l08With.f
 simp only [Option.bind_some, List.nil_append, List.length_nil]; rw [if_pos (by omega), if_pos (by omega), if_pos (by omega)]
theorem copy_ok (A : List S108) (B : List S92) (C : List S43) (hA : A.length ≤ 1000000) (hB : B.length ≤ 1000000) (hC : C.length ≤ 1000000) : impl_copyShow.f A B C = some (A, B, C) := by
 unfold impl_copyShow.f
 simp only [Option.bind_some, List.nil_append, List.length_nil]; rw [if_pos (by omega), if_pos (by omega), if_pos (by omega)]
def addR (A : List S108) (B : List S92) (C : List S43) (c : S43) : List S108 × List S92 × List S43 × Int := if isShow A B C = true then (if (C.length : Int) = 20 then ([], [], [], 3) else (if isShow A B (C ++ [c]) = true then (A, B, C ++ [c], 0) else ([], [], [], 5))) else ([], [], [], 1)
theorem add_ok (n0 : Nat) {A : List S108} {B : List S92} {C : List S43} (hF : Frame n0 A B C) (x0 x1 : Int) (x2 : ByteArray) (x3 : Int) (k : Nat) (hk : 4000300 ≤ k) : spec_AddCue.f k A B C x0 x1 x2 x3 = some (addR A B C ⟨x0, x1, x2, x3⟩) ∧ impl_AddCue.f k A B C x0 x1 x2 x3 = some (addR A B C ⟨x0, x1, x2, x3⟩) := by
 unfold spec_AddCue.f impl_AddCue.f addR
 rw [ss_ok hF k (by omega), si_ok hF k (by omega)]; simp only [Option.bind_some]
 cases h : isShow A B C with
 | false => exact ⟨rfl, rfl⟩
 | true =>
  simp only [if_true]; have hC := (isShow_true h).2.2.1
  by_cases c : (C.length : Int) = 20
  ·rw [if_pos c, if_pos c, if_pos c]; exact ⟨rfl, rfl⟩
  ·have hl : (C ++ [(⟨x0, x1, x2, x3⟩ : S43)]).length = C.length + 1 := by rw [List.length_append, List.length_singleton]
   have hF2 : Frame n0 A B (C ++ [(⟨x0, x1, x2, x3⟩ : S43)]) := ⟨hF.1, hF.2.1, by omega, hF.2.2.2⟩; rw [if_neg c, if_neg c, if_neg c, copy_ok A B C hF.1 hF.2.1 hF.2.2.1]; simp only [Option.bind_some, List.nil_append, List.length_nil, List.length_singleton]; constructor
   ·rw [if_pos (show 0 + C.length < 3518437208883 by omega), if_pos (show C.length + 1 < 3518437208883 by omega), with_ok A B C _ hF.1 hF.2.1 (by rw [hl]; omega)]
    simp only [Option.bind_some]; rw [ss_ok hF2 k (by omega)]; simp only [Option.bind_some]
    cases isShow A B (C ++ [(⟨x0, x1, x2, x3⟩ : S43)]) <;> rfl
   ·rw [if_pos (show C.length < 3518437208883 by omega), si_ok hF2 k (by omega)]
    simp only [Option.bind_some]
    cases isShow A B (C ++ [(⟨x0, x1, x2, x3⟩ : S43)]) <;> rfl
theorem main_FnExactAddCue (A : List S108) (B : List S92) (C : List S43) (x0 x1 : Int) (x2 : ByteArray) (x3 : Int) (hA : A.length ≤ 1000000) (hB : B.length ≤ 1000000) (hC : C.length ≤ 1000000) (hS : ∀ x ∈ B, x.f0.size ≤ 1000000) (_ : ∀ x ∈ C, x.f2.size ≤ 1000000) (_ : x2.size ≤ 1000000) : ∃ q1 q2 q3 q4, q1.length ≤ 1000010 ∧ q2.length ≤ 1000010 ∧ q3.length ≤ 1000010 ∧ Evt (fun k => spec_AddCue.f k A B C x0 x1 x2 x3 = some (q1, q2, q3, q4)) ∧ Evt (fun k => impl_AddCue.f k A B C x0 x1 x2 x3 = some (q1, q2, q3, q4)) := by
 have hl : (addR A B C ⟨x0, x1, x2, x3⟩).1.length ≤ 1000010 ∧ (addR A B C ⟨x0, x1, x2, x3⟩).2.1.length ≤ 1000010 ∧ (addR A B C ⟨x0, x1, x2, x3⟩).2.2.1.length ≤ 1000010 := by
  unfold addR
  by_cases h : isShow A B C = true
  ·rw [if_pos h]
   by_cases c : (C.length : Int) = 20
   ·rw [if_pos c]; exact ⟨by simp, by simp, by simp⟩
   ·rw [if_neg c]
    by_cases d : isShow A B (C ++ [(⟨x0, x1, x2, x3⟩ : S43)]) = true
    ·rw [if_pos d]
     refine ⟨by show A.length ≤ _; omega, by show B.length ≤ _; omega, ?_⟩; show (C ++ [(⟨x0, x1, x2, x3⟩ : S43)]).length ≤ _; rw [List.length_append, List.length_singleton]; omega
    ·rw [if_neg d]; exact ⟨by simp, by simp, by simp⟩
  ·rw [if_neg h]; exact ⟨by simp, by simp, by simp⟩
 exact ⟨_, _, _, _, hl.1, hl.2.1, hl.2.2, ⟨4000300, fun k hk => (add_ok 1000000 ⟨hA, hB, hC, Nat.le_refl _, hS⟩ x0 x1 x2 x3 k hk).1⟩, ⟨4000300, fun k hk => (add_ok 1000000 ⟨hA, hB, hC, Nat.le_refl _, hS⟩ x0 x1 x2 x3 k hk).2⟩⟩
theorem pure_FnExactAddCue : Pure_FnExactAddCue := by
 intro l0_0 l0_1 l0_2 a1_0 a1_1 a1_2 a1_3 n0_0 p0_0 n0_1 p0_1 n0_2 p0_2 b1_0 b1_1 b1_2 b1_3; obtain ⟨s1, zs1, z1⟩ := sz_Show l0_0 l0_1 l0_2 n0_0 n0_1 (fun x hx => (p0_1 x hx).1) n0_2 (fun x hx => (p0_2 x hx).2.2.1)
 rcases z1 with z1 | ⟨z1, z1b, u0, ⟨u1, v1⟩, u2, v2⟩
 ·obtain ⟨k, hk⟩ := zs1.ex
  exact ⟨k, s1, hk, Or.inl z1⟩
 obtain ⟨s2, zs2, z2⟩ : ∃ s2, laws_szCue.f a1_0 a1_1 a1_2 a1_3 s1 = some s2 ∧ (s2 < 0 ∨ (0 ≤ s2 ∧ a1_2.size ≤ 1000000)) := by
  have hm : maxLen = 9223372036854775807 := rfl
  unfold laws_szCue.f
  rw [w64 (by omega)]
  by_cases c : s1 - (a1_2.size : Int) < 0
  ·rw [if_pos c]; exact ⟨_, rfl, .inl (by omega)⟩
  ·rw [if_neg c]; exact ⟨_, rfl, .inr ⟨by omega, by omega⟩⟩
 rcases z2 with z2 | ⟨z2, v3⟩
 ·obtain ⟨k, hk⟩ := zs1.ex
  exact ⟨k, s1, hk, Or.inr ⟨z1, s2, zs2, Or.inl z2⟩⟩
 obtain ⟨L0_0, t0_0, ne0_0, tk0_0, ln0_0, le0_0, rm0_0, jn0_0, fa0_0, ta0_0⟩ := to_BarS l0_0 (by omega); have eq0_0 := eq_BarS L0_0 (by omega); obtain ⟨L0_1, t0_1, ne0_1, tk0_1, ln0_1, le0_1, rm0_1, jn0_1, fa0_1, ta0_1⟩ := to_ArticleS l0_1 (by omega); have eq0_1 := eq_ArticleS L0_1 (by omega); obtain ⟨L0_2, t0_2, ne0_2, tk0_2, ln0_2, le0_2, rm0_2, jn0_2, fa0_2, ta0_2⟩ := to_CueS l0_2 (by omega); have eq0_2 := eq_CueS L0_2 (by omega); have fu0 := full_Show fa0_0 fa0_1 fa0_2; have to0 := bare_Show ta0_0 ta0_1 ta0_2; obtain ⟨q1, q2, q3, q4, ql0, ql1, ql2, sp, im⟩ := main_FnExactAddCue (l0_0.map conv_BarS) (l0_1.map conv_ArticleS) (l0_2.map conv_CueS) a1_0 a1_1 a1_2 a1_3 (by rw [ln0_0]; omega) (by rw [ln0_1]; omega) (by rw [ln0_2]; omega) (fun x hx => by obtain ⟨y, hy, rfl⟩ := List.mem_map.1 hx; exact v1 y hy) (fun x hx => by obtain ⟨y, hy, rfl⟩ := List.mem_map.1 hx; exact v2 y hy) v3; have er := eq_Show q1 q2 q3 (by omega) (by omega) (by omega); have mk1 := mark_Show (l0_0.map conv_BarS) (l0_1.map conv_ArticleS) (l0_2.map conv_CueS) (101) (by omega) (by omega) (by omega) (by omega) (by omega); have mg := mark_Show q1 q2 q3 101 (by omega) (by omega) (by omega) (by omega) (by omega); have hd := held_Show q1.length q2.length q3.length 101 (by omega) (by omega) (by omega) (by omega) (by omega); obtain ⟨k, hzs1, heq0_0, heq0_1, heq0_2, hfu0, hto0, hsp, him, her, hmk1, hmg, hhd⟩ := (zs1.and (eq0_0.and (eq0_1.and (eq0_2.and (fu0.and (to0.and (sp.and (im.and (er.and (mk1.and (mg.and hd))))))))))).ex; exact ⟨k, ⟨s1, hzs1, Or.inr ⟨z1, ⟨s2, zs2, Or.inr ⟨z2, ⟨q1, q2, q3, q4, L0_0, _, t0_0, L0_1, _, t0_1, L0_2, _, t0_2, _, _, _, _, _, _, _, _, { ne0_0 := ne0_0, tk0_0 := tk0_0, ln0_0 := ln0_0, rm0_0 := rm0_0, jn0_0 := jn0_0, eq0_0 := heq0_0, ne0_1 := ne0_1, tk0_1 := tk0_1, ln0_1 := ln0_1, rm0_1 := rm0_1, jn0_1 := jn0_1, eq0_1 := heq0_1, ne0_2 := ne0_2, tk0_2 := tk0_2, ln0_2 := ln0_2, rm0_2 := rm0_2, jn0_2 := jn0_2, eq0_2 := heq0_2, fu0 := hfu0, to0 := hto0, to1 := rfl, sp := hsp, im := him, er := her, mk1 := hmk1, mk10 := (by omega), mg := hmg, mg0 := (by omega), hd := hhd, hl0 := seq_BarS_len _ _, hl1 := seq_ArticleS_len _ _, hl2 := seq_CueS_len _ _ }⟩⟩⟩⟩⟩⟩
end Go.Proofs.Ytnlbaflbhicooaa.F
namespace Go.Proofs.Ytnlbaflbhicooaa.fnExactAddCue
open Go.ChangeShapes Go.WideShapes Go.ChangeAt Go.RowKit Go.Proofs.Ytnlbaflbhicooaa.F Go.Proofs.YtnlbaflbhicooaaW.PrintWords
open Go.ChangeMaps (open_string shut_string)
set_option linter.unusedVariables false
theorem own : ownKnob Try.prog.godebug = none := by kernel_rfl
theorem laidOut : laidOutB Try.prog = true := by kernel_rfl
set_option maxRecDepth 100000 in
theorem lifted (os : Os) (started : os.Started) (H : Type) (enc : TypeId × Value → H) :
  ReturnsInHanded {} Try.checked os 4 .any (Rows.fnExactAddCueSpec.pre6 enc Try.prog Try.f4 Rows.fnExactAddCueRow.domain false) (Rows.fnExactAddCueSpec.post enc Try.prog Try.f4 false true false false) := by
 refine returnsInHanded_of_change_sized (C := Try.checked) own started Zj Try.func4
  (ChangeSpec.witness6 (enc := enc) (C := Try.checked) false ⟨#[], #[.agg #[.slice none 0 0, .slice none 0 0, .slice none 0 0], .agg #[.int .i64 0, .int .i64 0, .string ByteArray.empty, .int .i64 0]], []⟩ 8 Zj Zj Zj Zj) ?_
 intro W base args ds gs before hval0 hW hcnd hsz0 _; have hval : ∀ (j : Nat) t v, Try.f4.params[j]? = some t → args[j]? = some v → Value.okWide Try.prog W .any base t v := hval0; have hW' := hW; obtain ⟨p, q, hA0, hV, rfl, hfz, hnd⟩ := hW; have hA : DataW.TrodAll enc Try.prog W 0 (fun _ => true) true Try.f4.params.toList args.toList ds p := hA0; rw [Try.params4] at hA hval; obtain ⟨v0, vs0, d0, ds0, p0, q0, hargs, rfl, rfl, h0, r0⟩ := trodAll_cons hA; obtain ⟨v1, vs1, d1, ds1, p1, q1, rfl, rfl, rfl, h1, r1⟩ := trodAll_cons r0; obtain ⟨rfl, rfl, rfl⟩ := trodAll_nil r1
 obtain rfl : args = #[v0, v1] := by cases args; simp_all
 obtain ⟨rfl, rfl⟩ := trodVars_none hV; have k0 := h0
 have lt0 : ∀ x ∈ p0, x.block < W.heap.size := by obtain ⟨m, hm⟩ := k0; exact DataW.trod_lt m _ _ _ hm
 obtain ⟨cs0, rfl, _⟩ := okWide_struct Try.underlying26 (hval 0 26 v0 rfl rfl)
 obtain ⟨A0_0, c0_0, l0_0, A0_1, c0_1, l0_1, A0_2, c0_2, l0_2, rfl, ⟨lc0_0, lm0_0, hC0_0, hP0_0⟩, ⟨lc0_1, lm0_1, hC0_1, hP0_1⟩, ⟨lc0_2, lm0_2, hC0_2, hP0_2⟩⟩ : ∃ (A0_0 : Option Addr) (c0_0 : Nat) (l0_0 : List S110) (A0_1 : Option Addr) (c0_1 : Nat) (l0_1 : List S105) (A0_2 : Option Addr) (c0_2 : Nat) (l0_2 : List S40), cs0 = #[.slice A0_0 l0_0.length c0_0, .slice A0_1 l0_1.length c0_1, .slice A0_2 l0_2.length c0_2] ∧ (l0_0.length ≤ c0_0 ∧ c0_0 ≤ maxLen ∧ Kd.C k110 W A0_0 l0_0.length l0_0 ∧ ∀ x ∈ l0_0, Pr110 x) ∧ (l0_1.length ≤ c0_1 ∧ c0_1 ≤ maxLen ∧ Kd.C k105 W A0_1 l0_1.length l0_1 ∧ ∀ x ∈ l0_1, Pr105 x) ∧ (l0_2.length ≤ c0_2 ∧ c0_2 ≤ maxLen ∧ Kd.C k40 W A0_2 l0_2.length l0_2 ∧ ∀ x ∈ l0_2, Pr40 x) := by
  obtain ⟨fuel, hf⟩ := h0; obtain ⟨z0_0, y0_0, x0_0, z0_1, y0_1, x0_1, z0_2, y0_2, x0_2, hcs, hp⟩ := open_V26 hf; simp only [Value.cells] at hcs; exact ⟨z0_0, y0_0, x0_0, z0_1, y0_1, x0_1, z0_2, y0_2, x0_2, by rw [← hcs], hp⟩
 have k1 := h1
 have lt1 : ∀ x ∈ p1, x.block < W.heap.size := by obtain ⟨m, hm⟩ := k1; exact DataW.trod_lt m _ _ _ hm
 obtain ⟨cs1, rfl, _⟩ := okWide_struct Try.underlying40 (hval 1 40 v1 rfl rfl)
 obtain ⟨a1_0, a1_1, a1_2, a1_3, rfl, w1_0, w1_1, w1_2, w1_3⟩ : ∃ (z0 : Int) (z1 : Int) (z2 : ByteArray) (z3 : Int), cs1 = #[.int .i64 z0, .int .i64 z1, .string z2, .int .i64 z3] ∧ I64 z0 ∧ I64 z1 ∧ z2.size ≤ maxLen ∧ I64 z3 := by
  obtain ⟨fuel, hf⟩ := h1; obtain ⟨z0, z1, z2, z3, hcs, hp⟩ := open_V40 hf; simp only [Value.cells] at hcs; exact ⟨z0, z1, z2, z3, by rw [← hcs], hp⟩
 obtain ⟨k, hk⟩ := pure_FnExactAddCue l0_0 l0_1 l0_2 a1_0 a1_1 a1_2 a1_3 (by omega) hP0_0 (by omega) hP0_1 (by omega) hP0_2 w1_0 w1_1 w1_2 w1_3; refine (law_FnExactAddCue k A0_0 c0_0 l0_0 A0_1 c0_1 l0_1 A0_2 c0_2 l0_2 a1_0 a1_1 a1_2 a1_3 W hC0_0 lc0_0 hC0_1 lc0_1 hC0_2 lc0_2 hk).mono fun e W' ⟨he, bel⟩ => ?_; subst he; exact ⟨_, rfl, _, _, _, [], _, [], hW', trodAll_mk1 (shut_bool Try.underlying4 _), (trodAll_cons_mk (Below.trod laidOut Zj (of_decide_eq_true Zj) k0 bel lt0) (trodAll_cons_mk (Below.trod laidOut Zj (of_decide_eq_true Zj) k1 bel lt1) trodAll_mk0)), rfl, bel.frame _, fun h => by cases h⟩
theorem over : Rows.fnExactAddCueRow.holds Try.pinned (OpenSpec.ofChange Rows.fnExactAddCueSpec) :=
 OpenClaim.holds_of_wide 4 Try.f4 rfl rfl rfl rfl rfl rfl rfl ⟨rfl, rfl, rfl, rfl, rfl⟩ rfl rfl rfl rfl rfl Zj Try.func4 GcFnExactAddCue.closed
  (of_decide_eq_true Zj) (by unfold Func.isWrapper; first | (rw [if_pos (by decide +kernel)]; kernel_rfl) | (rw [if_neg (by decide +kernel)]; exact ⟨rfl, rfl⟩))
  (fun os started H enc _ => lifted os started H enc)
theorem proved : Rows.FnExactAddCueSaid := over
end Go.Proofs.Ytnlbaflbhicooaa.fnExactAddCue
namespace Go.Proofs.Ytnlbaflbhicooaa
theorem fnExactAddCue_holds : Rows.FnExactAddCueSaid := fnExactAddCue.proved
#print axioms fnExactAddCue_holds
end Go.Proofs.Ytnlbaflbhicooaa
