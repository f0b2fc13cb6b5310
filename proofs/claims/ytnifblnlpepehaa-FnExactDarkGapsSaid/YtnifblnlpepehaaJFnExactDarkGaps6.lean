import Derived.Test.YtnifblnlpepehaaJFnExactDarkGaps5
import Derived.Below
import Derived.Deep.Draws
import Derived.Deep.AppendLies
import Derived.Maps.AppendAt
import Derived.OwnWalk
import Derived.Laws.BytesArg
import Derived.Laws.MakeOwn
import Derived.Laws.OwnMore
import Derived.Tactics
import Derived.Lib.ConvBytes
import Derived.Laws.Slices
import Derived.WalkKit
import Derived.KernelRfl
import Derived.RowKit3
import Derived.Deep.LoopGhost
import Derived.Deep.QuietTactic
import Derived.BigQuiet
import Derived.WideLaws
import Derived.Deep.DeepCutAuto
import Derived.Deep.CutBlock
import Derived.Deep.RegionHeld3
import Derived.Lib.AppendStr
import Derived.ArgAppend
import Derived.Laws.IdiomCopy
import Derived.RowKit
import Derived.OrdersHeld
import Derived.Laws.BitsLemmas
import Derived.Laws.StructEq
import Derived.Test.YtnifblnlpepehaaProg
import Derived.ChangeSlices
import Derived.OpenShut
import Derived.Laws.Cover1
namespace Go.Proofs.Ytnifblnlpepehaa.F
open Go.RowKit Go.Proofs.YtnifblnlpepehaaW.PrintWords Go.Proofs.YtnifblnlpepehaaW.PrintLast Go.Proofs.YtnifblnlpepehaaW.PrintMore
attribute [local go_sem] max2_int min2_int max_two min_two max_three min_three max_four min_four
set_option linter.unusedVariables false
set_option linter.unusedSimpArgs false
def impl_windowsOfCue.f (k : Nat) (l0_0 : List (S87)) (l0_1 : List (S91)) (l0_2 : List (S80)) (a1_0 : Int) (a1_1 : Int) (a1_2 : ByteArray) (a1_3 : Int) : Option ((List (List Int))) := (impl_articleFor.f k l0_0 l0_1 l0_2 a1_0 a1_1 a1_2 a1_3).bind fun bt326 => ((impl_firedAt.f k l0_0 l0_1 l0_2 a1_0 a1_1 a1_2 a1_3).bind fun t335 => ((impl_shotWindows.f k bt326.1 bt326.2.1 bt326.2.2.1 bt326.2.2.2.1 bt326.2.2.2.2.1 bt326.2.2.2.2.2.1 bt326.2.2.2.2.2.2.1 bt326.2.2.2.2.2.2.2.1 bt326.2.2.2.2.2.2.2.2 t335).bind fun t336 => (some t336)))
def impl_windowsOfCue.T1 : Bool × List (List Nat × List Nat) := (true, [([], []), ([], []), ([0, 1], [0, 1]), ([], []), ([], []), ([3, 4, 2], [3, 4]), ([2, 5, 5], [2, 5]), ([6, 6, 0, 1, 2, 3, 4, 5, 6], [6])])
def impl_windowsOfCue.B1 : List Nat := [0, 0, 3, 0, 0, 31, 63, 127]
theorem impl_windowsOfCue.tab1 : rtab .any (opsOf Try.f65 1) = impl_windowsOfCue.T1 := by kernel_rfl
theorem impl_windowsOfCue.bits1 : waitsOk impl_windowsOfCue.T1.2 impl_windowsOfCue.B1 = true := by kernel_rfl
set_option maxHeartbeats 8000000 in
set_option maxRecDepth 100000 in
theorem impl_windowsOfCue.calls (k : Nat) (A0_0 : Option Addr) (c0_0 : Nat) (l0_0 : List (S87)) (A0_1 : Option Addr) (c0_1 : Nat) (l0_1 : List (S91)) (A0_2 : Option Addr) (c0_2 : Nat) (l0_2 : List (S80)) (a1_0 : Int) (a1_1 : Int) (a1_2 : ByteArray) (a1_3 : Int) (r : List (List Int)) (w : World) (hr0_0 : Kd.C k87 w A0_0 l0_0.length l0_0) (hc0_0 : l0_0.length ≤ c0_0) (hr0_1 : Kd.C k91 w A0_1 l0_1.length l0_1) (hc0_1 : l0_1.length ≤ c0_1) (hr0_2 : Kd.C k80 w A0_2 l0_2.length l0_2) (hc0_2 : l0_2.length ≤ c0_2) (h : impl_windowsOfCue.f k l0_0 l0_1 l0_2 a1_0 a1_1 a1_2 a1_3 = some r) :
  Calls Try.prog 65 #[.agg #[.slice A0_0 l0_0.length c0_0, .slice A0_1 l0_1.length c0_1, .slice A0_2 l0_2.length c0_2], .agg #[.int .i64 a1_0, .int .i64 a1_1, .string a1_2, .int .i64 a1_3]] w fun e w' => ∃ v0_ : Value, e = .returned (v0_) ∧ Kd.S (Kd.slice 2 (Kd.int .i64)) 47 w' w.heap.size (fun _ => True) v0_ r ∧ Below w.heap.size w w' := by
 have hu35 := Try.underlying35; have hu80 := Try.underlying80; have HR0_0 := am_ hr0_0; have HC0_0 := am_ hc0_0; clear hr0_0 hc0_0; have HR0_1 := am_ hr0_1; have HC0_1 := am_ hc0_1; clear hr0_1 hc0_1; have HR0_2 := am_ hr0_2; have HC0_2 := am_ hc0_2; clear hr0_2 hc0_2; have HB := am_ (Below.refl w.heap.size w); have H : ((impl_articleFor.f k l0_0 l0_1 l0_2 a1_0 a1_1 a1_2 a1_3).bind fun bt326 => ((impl_firedAt.f k l0_0 l0_1 l0_2 a1_0 a1_1 a1_2 a1_3).bind fun t335 => ((impl_shotWindows.f k bt326.1 bt326.2.1 bt326.2.2.1 bt326.2.2.2.1 bt326.2.2.2.2.1 bt326.2.2.2.2.2.1 bt326.2.2.2.2.2.2.1 bt326.2.2.2.2.2.2.2.1 bt326.2.2.2.2.2.2.2.2 t335).bind fun t336 => (some t336)))) = some r := h; clear h; replace H := Option.bind_eq_some_iff.mp H; obtain ⟨⟨t326, t327, t328, t329, t330, t331, t332, t333, t334⟩, A30, H⟩ := H
 dsimp only at H
 have A3 := am_ A30; clear A30; replace H := Option.bind_eq_some_iff.mp H; obtain ⟨t335, A40, H⟩ := H; have A4 := am_ A40; clear A40; replace H := Option.bind_eq_some_iff.mp H; obtain ⟨t336, A50, H⟩ := H; have A5 := am_ A50; clear A50; obtain rfl := Option.some.inj H
 go_enter Try.func65, Try.ntmps65
 try go_wp2_with (first | ((with_reducible refine gate_dst (N := 2) rfl ?_); refine boxZ 2 #[.slice A0_0 l0_0.length c0_0, .slice A0_1 l0_1.length c0_1, .slice A0_2 l0_2.length c0_2] 35 ?_; intro gb324 hg w6 hbox hb; replace BK324 := am_ (hbox); replace GW324 := am_ ((Zc : w.heap.size ≤ gb324)); replace GE324 := GW324; replace HB := (bsZ Zd hb); clear hb hbox hg) | ((with_reducible refine gate_dst (N := 3) rfl ?_); refine boxZ 3 #[.int .i64 a1_0, .int .i64 a1_1, .string a1_2, .int .i64 a1_3] 80 ?_; intro gb325 hg w7 hbox hb; replace BK325 := am_ (hbox); replace GW325 := am_ (((Ze GE324) : w.heap.size ≤ gb325)); replace GE325 := GW325; replace HB := (bsZ (Zf GE324) hb); replace NB324_325 := am_ ((by rw [hg]; exact Nat.ne_of_lt (blk_lt (g := gb324) (b0Z BK324)) : gb324 ≠ gb325)); replace NB325_324 := am_ ((by rw [hg]; exact Nat.ne_of_gt (blk_lt (g := gb324) (b0Z BK324)) : gb325 ≠ gb324)); replace BK324 := (bkZ BK324 hb); clear hb hbox hg))
 replace BK324 := am_ (blk_drew BK324.out); replace BK325 := am_ (blk_drew BK325.out); replace HB := am_ (below_drew1 HB.out); refine start_ (n := 8) (S := fun w' => w'.cell? ⟨gb324, 0, none⟩ = some (.slice A0_0 l0_0.length c0_0) ∧ w'.cell? ⟨gb324, 1, none⟩ = some (.slice A0_1 l0_1.length c0_1) ∧ w'.cell? ⟨gb324, 2, none⟩ = some (.slice A0_2 l0_2.length c0_2) ∧ w'.cell? ⟨gb325, 0, none⟩ = some (.int .i64 a1_0) ∧ w'.cell? ⟨gb325, 1, none⟩ = some (.int .i64 a1_1) ∧ w'.cell? ⟨gb325, 2, none⟩ = some (.string a1_2) ∧ w'.cell? ⟨gb325, 3, none⟩ = some (.int .i64 a1_3)) (ds := []) (bT 8 0) Zi rfl rfl ⟨(blk_cell BK324.out 0).trans rfl, (blk_cell BK324.out 1).trans rfl, (blk_cell BK324.out 2).trans rfl, (blk_cell BK325.out 0).trans rfl, (blk_cell BK325.out 1).trans rfl, (blk_cell BK325.out 2).trans rfl, (blk_cell BK325.out 3).trans rfl⟩ (fun hHeld => ?_); refine with_tabW impl_windowsOfCue.tab1 impl_windowsOfCue.bits1 (fun HT_ HW_ => ?_); generalize w7.drew = w8 at BK324 BK325 HB hHeld ⊢; refine takeZ7 HT_ HW_ 0 (some 5) (bT 8 1) hHeld ?_; refine takeZ7 HT_ HW_ 1 (some 6) (bT 8 2) hHeld ?_; refine takeZ7 HT_ HW_ 3 (some 8) (bB 8 11) hHeld ?_; refine takeZ7 HT_ HW_ 4 (some 9) (bB 8 27) hHeld ?_; refine one_ (i := 2) (N := some 7) (bT 8 5) rfl rfl (one_of HT_.out Zi) (by decide) (fun K hK => ?_); refine goes_ Try.func81 Zi rfl #[.agg #[.slice A0_0 l0_0.length c0_0, .slice A0_1 l0_1.length c0_1, .slice A0_2 l0_2.length c0_2], .agg #[.int .i64 a1_0, .int .i64 a1_1, .string a1_2, .int .i64 a1_3]] (by rfl) rfl rfl Zr ?_
 with_reducible refine (impl_articleFor.calls k _ _ l0_0 _ _ l0_1 _ _ l0_2 a1_0 a1_1 a1_2 a1_3 t326 t327 t328 t329 t330 t331 t332 t333 t334 _ ?side1 ?side2 ?side3 ?side4 ?side5 ?side6 A3.out).mono ?_
 (case side1 => exact (Zz HR0_0))
 (case side2 => exact HC0_0.out)
 (case side3 => exact (Zz HR0_1))
 (case side4 => exact HC0_1.out)
 (case side5 => exact (Zz HR0_2))
 (case side6 => exact HC0_2.out)
 rintro e w9 ⟨rfl, hb⟩; refine ⟨_, rfl, ?_⟩; replace BK324 := (bkZ BK324 hb); replace BK325 := (bkZ BK325 hb); replace HB := (bsZ (Zh GE324 GE325) hb)
 (try clear hb)
 (try clear hb2)
 (try clear hk)
 (try clear hi)
 refine hK.out _ _ (Zbg BK324 BK325) (fun hHeld => ?_); clear hK K; refine normZ 7 ?_; refine one_ (i := 5) (N := some 10) (bT 8 6) rfl rfl (one_of HT_.out Zi) (by decide) (fun K hK => ?_); refine goes_ Try.func64 Zi rfl #[.agg #[.slice A0_0 l0_0.length c0_0, .slice A0_1 l0_1.length c0_1, .slice A0_2 l0_2.length c0_2], .agg #[.int .i64 a1_0, .int .i64 a1_1, .string a1_2, .int .i64 a1_3]] (by rfl) rfl rfl Zr ?_
 with_reducible refine (impl_firedAt.calls k _ _ l0_0 _ _ l0_1 _ _ l0_2 a1_0 a1_1 a1_2 a1_3 t335 _ ?side1 ?side2 ?side3 ?side4 ?side5 ?side6 A4.out).mono ?_
 (case side1 => exact (Zz HR0_0))
 (case side2 => exact HC0_0.out)
 (case side3 => exact (Zz HR0_1))
 (case side4 => exact HC0_1.out)
 (case side5 => exact (Zz HR0_2))
 (case side6 => exact HC0_2.out)
 rintro e w10 ⟨rfl, hb⟩; refine ⟨_, rfl, ?_⟩; replace BK324 := (bkZ BK324 hb); replace BK325 := (bkZ BK325 hb); replace HB := (bsZ (Zh GE324 GE325) hb)
 (try clear hb)
 (try clear hb2)
 (try clear hk)
 (try clear hi)
 refine hK.out _ _ (Zbg BK324 BK325) (fun hHeld => ?_); clear hK K; refine normZ 10 ?_; refine one_ (i := 6) (N := some 11) (bT 8 7) rfl rfl (one_of HT_.out Zi) (by decide) (fun K hK => ?_); refine goes_ Try.func80 Zi rfl #[.agg #[.string t326, .int .i64 t327, .int .i64 t328, .int .i64 t329, .int .i64 t330, .int .i64 t331, .int .i64 t332, .int .i64 t333, .int .i64 t334], .int .i64 t335] (by rfl) rfl rfl Zr ?_
 with_reducible refine (impl_shotWindows.calls k t326 t327 t328 t329 t330 t331 t332 t333 t334 t335 t336 _ A5.out).mono ?_
 rintro e w11 ⟨v337, rfl, ho0, hb⟩; refine ⟨_, rfl, ?_⟩; replace HO338 := am_ (Kd.S_lower ho0 (below_size (Zh GE324 GE325))); replace BK324 := (bkZ BK324 hb); replace BK325 := (bkZ BK325 hb); replace HB := (bsZ (Zh GE324 GE325) hb)
 (try clear hb)
 (try clear hb2)
 (try clear hk)
 (try clear hi)
 (try clear ho0)
 refine hK.out _ _ (Zbg BK324 BK325) (fun hHeld => ?_); clear hK K; refine normZ 11 ?_; refine pureZ HT_ 7 (some 4) (bT 8 8) ?_; refine done_ (done_of HT_.out Zi) ?_
 try go_wp2
 go_ret
 exact ⟨_, Zj, (Zam HO338), (Zh GE324 GE325)⟩
mutual
def impl_windowsOf.l0 : Nat → List (List Int) → List (S80) → Int → Int → List (S87) → List (S91) → List (S80) → Option ((List (List Int)))
 | 0, _, _, _, _, _, _, _ => none
 | k + 1, x3, x9, x10, x11, x340000, x340001, x340002 => if x11 < x10 then (if 0 ≤ x11 then (if x11 < (x9.length : Int) then ((impl_windowsOfCue.f k x340000 x340001 x340002 ((rd_T80 x9 x11).f0) ((rd_T80 x9 x11).f1) ((rd_T80 x9 x11).f2) ((rd_T80 x9 x11).f3)).bind fun t342 => (impl_windowsOf.l1 k x3 x11 x9 x10 x11 t342 (t342.length : Int) 0 x340000 x340001 x340002)) else (none)) else (none)) else (some x3)
def impl_windowsOf.l1 : Nat → List (List Int) → Int → List (S80) → Int → Int → List (List Int) → Int → Int → List (S87) → List (S91) → List (S80) → Option ((List (List Int)))
 | 0, _, _, _, _, _, _, _, _, _, _, _ => none
 | k + 1, x3, x4, x9, x10, x11, x18, x19, x20, x340000, x340001, x340002 => if x20 < x19 then (if 0 ≤ x20 then (if x20 < (x18.length : Int) then (if 0 < ((rd_L5 x18 x20).length : Int) then (if 1 < ((rd_L5 x18 x20).length : Int) then (if x3.length < 5864062014805 then (impl_windowsOf.l1 k (x3 ++ [(([rd (rd_L5 x18 x20) 0, rd (rd_L5 x18 x20) 1, x4] : List Int))]) x4 x9 x10 x11 x18 x19 (wrap64 (x20 + 1)) x340000 x340001 x340002) else (none)) else (none)) else (none)) else (none)) else (none)) else (impl_windowsOf.l0 k x3 x9 x10 (wrap64 (x11 + 1)) x340000 x340001 x340002)
end
def impl_windowsOf.f (k : Nat) (l0_0 : List (S87)) (l0_1 : List (S91)) (l0_2 : List (S80)) : Option ((List (List Int))) := impl_windowsOf.l0 k ([] : List (List Int)) l0_2 (l0_2.length : Int) 0 l0_0 l0_1 l0_2
def impl_windowsOf.T8 : Bool × List (List Nat × List Nat) := (true, [([], []), ([], []), ([1], [1]), ([2], [2]), ([], []), ([4], [4]), ([5], [5]), ([], []), ([3, 6, 7], [3, 6, 7]), ([8], [8]), ([0, 9], [0, 9]), ([10, 10, 0, 1, 2, 3, 4, 5, 6, 7, 8, 9, 10], [0, 10])])
def impl_windowsOf.B8 : List Nat := [0, 0, 2, 6, 0, 16, 48, 0, 254, 510, 1023, 2047]
theorem impl_windowsOf.tab8 : rtab .any (opsOf Try.f32 8) = impl_windowsOf.T8 := by kernel_rfl
theorem impl_windowsOf.bits8 : waitsOk impl_windowsOf.T8.2 impl_windowsOf.B8 = true := by kernel_rfl
set_option maxHeartbeats 8000000 in
set_option maxRecDepth 100000 in
theorem impl_windowsOf.calls (k : Nat) (A0_0 : Option Addr) (c0_0 : Nat) (l0_0 : List (S87)) (A0_1 : Option Addr) (c0_1 : Nat) (l0_1 : List (S91)) (A0_2 : Option Addr) (c0_2 : Nat) (l0_2 : List (S80)) (r : List (List Int)) (w : World) (hr0_0 : Kd.C k87 w A0_0 l0_0.length l0_0) (hc0_0 : l0_0.length ≤ c0_0) (hr0_1 : Kd.C k91 w A0_1 l0_1.length l0_1) (hc0_1 : l0_1.length ≤ c0_1) (hr0_2 : Kd.C k80 w A0_2 l0_2.length l0_2) (hc0_2 : l0_2.length ≤ c0_2) (h : impl_windowsOf.f k l0_0 l0_1 l0_2 = some r) :
  Calls Try.prog 32 #[.agg #[.slice A0_0 l0_0.length c0_0, .slice A0_1 l0_1.length c0_1, .slice A0_2 l0_2.length c0_2]] w fun e w' => ∃ v0_ : Value, e = .returned (v0_) ∧ Kd.S (Kd.slice 2 (Kd.int .i64)) 47 w' w.heap.size (fun _ => True) v0_ r ∧ Below w.heap.size w w' := by
 have hu35 := Try.underlying35; have hu80 := Try.underlying80; have HR0_0 := am_ hr0_0; have HC0_0 := am_ hc0_0; clear hr0_0 hc0_0; have HR0_1 := am_ hr0_1; have HC0_1 := am_ hc0_1; clear hr0_1 hc0_1; have HR0_2 := am_ hr0_2; have HC0_2 := am_ hc0_2; clear hr0_2 hc0_2; have HB := am_ (Below.refl w.heap.size w); have H : (impl_windowsOf.l0 k ([] : List (List Int)) l0_2 (l0_2.length : Int) 0 l0_0 l0_1 l0_2) = some r := h; clear h; have H' := am_ H; clear H
 go_enter Try.func32, Try.ntmps32
 go_wp2_with (first | ((with_reducible refine gate_dst (N := 1) rfl ?_); refine boxZ 1 #[.slice A0_0 l0_0.length c0_0, .slice A0_1 l0_1.length c0_1, .slice A0_2 l0_2.length c0_2] 35 ?_; intro gb339 hg w2 hbox hb; replace BK339 := am_ (hbox); replace GW339 := am_ ((Zc : w.heap.size ≤ gb339)); replace GE339 := GW339; replace HB := (bsZ Zd hb); clear hb hbox hg; refine ci3 BK339 ?_; intros))
 go_loopg [3, 11] k (fun kq v3 v11 w' => ∃ (x3_1 : List (List Int)) (x11_1 : Int), v11 = .int .i64 x11_1 ∧ Aside0 (impl_windowsOf.l0 kq x3_1 l0_2 (l0_2.length : Int) x11_1 l0_0 l0_1 l0_2 = some r) ∧ Aside0 (kq ≤ k) ∧ Aside0 (Kd.S (Kd.slice 2 (Kd.int .i64)) 47 w' w.heap.size (fun _ => True) v3 x3_1) ∧ Aside0 (w'.heap[gb339]? = some (.cells #[(.slice A0_0 l0_0.length c0_0), (.slice A0_1 l0_1.length c0_1), (.slice A0_2 l0_2.length c0_2)] 35 (0, 0))) ∧ Aside0 (Below w.heap.size w w'))
 case atStart => exact ⟨(([] : List (List Int))), (0), Za, H', ⟨Nat.le_refl _⟩, ⟨Zbd⟩, ⟨(Zai BK339)⟩, ⟨(Zf GE339)⟩⟩
 case round =>
  clear H'
  try clear p2
  try clear c3
  obtain ⟨x3_1, x11_1, rfl, HA, HK1, HO_3, BK339, HB⟩ := hrel
  cases gk with
  | zero => exact absurd HA.out (by simp [impl_windowsOf.l0])
  | succ k1 =>
   have H := HA.out; clear HA; simp only [impl_windowsOf.l0] at H
   by_cases c4 : x11_1 < (l0_2.length : Int)
   ·rw [if_pos c4] at H
    have c4b0 := decide_eq_true c4; clear c4
    by_cases c5 : 0 ≤ x11_1
    ·rw [if_pos c5] at H
     have c5b0 := decide_eq_true c5; clear c5
     by_cases c6 : x11_1 < (l0_2.length : Int)
     ·rw [if_pos c6] at H
      have c6b0 := decide_eq_true c6; clear c6; replace H := Option.bind_eq_some_iff.mp H; obtain ⟨t342, A70, H⟩ := H; have A7 := am_ A70; clear A70; have H' := am_ H; clear H; have p340 : 0 ≤ (x11_1 : Int) := of_decide_eq_true Zn; have q340 : x11_1 < (l0_2.length : Int) := of_decide_eq_true Zn; obtain ⟨ad340, e340, hx340_0, hx340_1, hx340_2, hx340_3⟩ := at_T80 HR0_2.out x11_1 p340 q340
      cases e340
      replace hx340_0 := cbH HB hx340_0; replace hx340_1 := cbH HB hx340_1; replace hx340_2 := cbH HB hx340_2; replace hx340_3 := cbH HB hx340_3; replace p340 := eq_true p340; replace q340 := eq_true q340
      go_wp2_with (first | ((with_reducible refine gate_dst (N := 5) rfl ?_); refine boxZ 5 #[.int .i64 0, .int .i64 0, .string (⟨#[]⟩ : ByteArray), .int .i64 0] 80 ?_; intro gb341 hg w8 hbox hb; replace HO_3 := am_ (Kd.S_below (Zam HO_3) hb); replace BK341 := am_ (hbox); replace GW341 := am_ (((Ze GE339) : w.heap.size ≤ gb341)); replace GE341 := GW341; replace HB := (bsZ (Zf GE339) hb); replace NB339_341 := am_ ((by rw [hg]; exact Nat.ne_of_lt (blk_lt (g := gb339) (b0Z BK339)) : gb339 ≠ gb341)); replace NB341_339 := am_ ((by rw [hg]; exact Nat.ne_of_gt (blk_lt (g := gb339) (b0Z BK339)) : gb341 ≠ gb339)); replace BK339 := (bkZ BK339 hb); clear hb hbox hg; have hnb9 := NB341_339.out; have hnc9 := NB339_341.out; refine ci4 BK341 ?_; intros; refine ci3 BK339 ?_; intros) | ((with_reducible refine gate_callee (f := 65) rfl ?_); refine gZ 18 Try.func65 #[.agg #[.slice A0_0 l0_0.length c0_0, .slice A0_1 l0_1.length c0_1, .slice (some ad340) l0_2.length c0_2], .agg #[.int .i64 ((rd_T80 l0_2 x11_1).f0), .int .i64 ((rd_T80 l0_2 x11_1).f1), .string ((rd_T80 l0_2 x11_1).f2), .int .i64 ((rd_T80 l0_2 x11_1).f3)]] ?_; (with_reducible refine (impl_windowsOfCue.calls k1 _ _ l0_0 _ _ l0_1 _ _ l0_2 ((rd_T80 l0_2 x11_1).f0) ((rd_T80 l0_2 x11_1).f1) ((rd_T80 l0_2 x11_1).f2) ((rd_T80 l0_2 x11_1).f3) t342 _ ?_ ?_ ?_ ?_ ?_ ?_ A7.out).mono ?_); exact Kd.C_below HR0_0.out (Zh GE339 GE341); exact HC0_0.out; exact Kd.C_below HR0_1.out (Zh GE339 GE341); exact HC0_1.out; exact Kd.C_below HR0_2.out (Zh GE339 GE341); exact HC0_2.out; rintro e w12 ⟨v343, rfl, ho0, hb⟩; refine ⟨_, rfl, ?_⟩; replace HO344 := am_ (Kd.S_lower (Kd.S_new' ho0 (Kd.S_lt (Zbh HO_3 BK341))) (below_size (Zh GE339 GE341))); replace HO_3 := am_ (Kd.S_elder' (Zbh HO_3 BK341) (Kd.S_base ho0) hb); replace BK339 := am_ (blk_below (g := gb339) (bfZ BK339 NB339_341) hb); replace BK341 := am_ (blk_below (g := gb341) (o := .cells #[.int .i64 ((rd_T80 l0_2 x11_1).f0), .int .i64 ((rd_T80 l0_2 x11_1).f1), .string ((rd_T80 l0_2 x11_1).f2), .int .i64 ((rd_T80 l0_2 x11_1).f3)] 80 (0, 0)) (bpZ BK341) hb); replace HB := (bsZ (Zh GE339 GE341) hb); clear hb ho0; obtain ⟨Ao13, co13, eo13⟩ := Kd.S_slice HO344.out; subst eo13))
      go_loopg [3, 20] k1 (fun kq v3 v20 w' => ∃ (x3_2 : List (List Int)) (x20_2 : Int), v20 = .int .i64 x20_2 ∧ Aside0 (impl_windowsOf.l1 kq x3_2 x11_1 l0_2 (l0_2.length : Int) x11_1 t342 (t342.length : Int) x20_2 l0_0 l0_1 l0_2 = some r) ∧ Aside0 (kq ≤ k1) ∧ Aside0 (Kd.S (Kd.slice 2 (Kd.int .i64)) 47 w' w.heap.size (fun k_ => some k_ ≠ ((.slice Ao13 t342.length co13) : Value).ownBlock) v3 x3_2) ∧ Aside0 (Kd.S (Kd.slice 2 (Kd.int .i64)) 47 w' w.heap.size (fun k_ => some k_ ≠ (v3 : Value).ownBlock) (.slice Ao13 t342.length co13) t342) ∧ Aside0 (w'.heap[gb339]? = some (.cells #[(.slice A0_0 l0_0.length c0_0), (.slice A0_1 l0_1.length c0_1), (.slice (some ad340) l0_2.length c0_2)] 35 (0, 0))) ∧ Aside0 (w'.heap[gb341]? = some (.cells #[.int .i64 ((rd_T80 l0_2 x11_1).f0), .int .i64 ((rd_T80 l0_2 x11_1).f1), .string ((rd_T80 l0_2 x11_1).f2), .int .i64 ((rd_T80 l0_2 x11_1).f3)] 80 (0, 0))) ∧ Aside0 (Below w.heap.size w w'))
      case atStart => exact ⟨(x3_1), (0), Za, H', ⟨Nat.le_refl _⟩, ⟨(Zbi HO_3)⟩, ⟨(Zbi HO344)⟩, ⟨(Zai BK339)⟩, ⟨(Zai BK341)⟩, ⟨(Zh GE339 GE341)⟩⟩
      case round =>
       clear H'
       try clear p2
       try clear c3
       try clear p3
       try clear q3
       try clear hx3
       try clear c4
       try clear c4b0
       try clear c5
       try clear c5b0
       try clear c6
       try clear c6b0
       try clear c9
       try clear hx340_0
       try clear hx340_1
       try clear hx340_2
       try clear hx340_3
       try clear p2
       try clear p340
       try clear q340
       obtain ⟨x3_2, x20_2, rfl, HA, HK2, HO_3, HO_18, BK339, BK341, HB⟩ := hrel
       cases gk with
       | zero => exact absurd HA.out (by simp [impl_windowsOf.l1])
       | succ k2 =>
        have H := HA.out; clear HA; simp only [impl_windowsOf.l1] at H
        by_cases c14 : x20_2 < (t342.length : Int)
        ·rw [if_pos c14] at H
         have c14b0 := decide_eq_true c14; clear c14
         by_cases c15 : 0 ≤ x20_2
         ·rw [if_pos c15] at H
          have c15b0 := decide_eq_true c15; clear c15
          by_cases c16 : x20_2 < (t342.length : Int)
          ·rw [if_pos c16] at H
           have c16b0 := decide_eq_true c16; clear c16
           by_cases c17 : 0 < ((rd_L5 t342 x20_2).length : Int)
           ·rw [if_pos c17] at H
            have c17b0 := decide_eq_true c17; have c17b1 : decide (0 < (rd_L5 t342 x20_2).length) = true := decide_eq_true (by omega); clear c17
            by_cases c18 : 1 < ((rd_L5 t342 x20_2).length : Int)
            ·rw [if_pos c18] at H
             have c18b0 := decide_eq_true c18; have c18b1 : decide (1 < (rd_L5 t342 x20_2).length) = true := decide_eq_true (by omega); clear c18; obtain ⟨y348, hy348⟩ : ∃ y_ : List Int, y_ = (([rd (rd_L5 t342 x20_2) 0, rd (rd_L5 t342 x20_2) 1, x11_1] : List Int)) := ⟨_, rfl⟩
             (first | (rw [← hy348] at H; with_reducible replace H := bindZ H) | rw [← hy348] at H | skip)
             have Ny348 := am_ hy348; clear hy348
             by_cases c19 : x3_2.length < 5864062014805
             ·rw [if_pos c19] at H
              have LMc19 := am_ c19; clear c19; obtain ⟨y351, hy351⟩ : ∃ y_ : List (List Int), y_ = (x3_2 ++ [y348]) := ⟨_, rfl⟩
              (first | (rw [← hy351] at H; with_reducible replace H := bindZ H) | rw [← hy351] at H | skip)
              have Ny351 := am_ hy351; clear hy351; have H' := am_ H; clear H; have p345 : 0 ≤ (x20_2 : Int) := of_decide_eq_true Zn; have q345 : x20_2 < (t342.length : Int) := of_decide_eq_true Zn; obtain ⟨ad345, A345_0, c345_0, e345, hx345_0, hl345_0, hi345_0⟩ := at_L5 (Kd.S_reads' HO_18.out).2.2 x20_2 p345 q345
              cases e345
              obtain ⟨ce345, hce345, hMe345, hcc345⟩ := Kd.S_get HO_18.out [] x20_2 p345 (by first | exact q345 | exact of_decide_eq_true Zn | (have e_ := (Kd.S_reads' HO_18.out).1; omega)); obtain ⟨ve345_0, rfl, ge345_0⟩ := hMe345; have hv345_0 := hcc345 0 _ rfl; rw [Nat.add_zero, show ((Kd.slice 2 (Kd.int .i64))).sz = 1 from rfl, Nat.mul_one] at hv345_0; replace hv345_0 := Option.some.inj (hv345_0.symm.trans hx345_0); rw [hv345_0] at ge345_0; have HL345_0 := am_ (show Kd.R (Kd.int .i64) 2 _ _ _ _ (rd_L5 t342 x20_2) from ge345_0); clear hv345_0 ge345_0; clear hcc345 hce345; have HR345_0 := am_ hi345_0; have HC345_0 := am_ hl345_0; clear hi345_0 hl345_0; replace p345 := eq_true p345; replace q345 := eq_true q345
              try go_wp2
              replace HO_3 := am_ (Kd.S_drew HO_3.out); replace HO_18 := am_ (Kd.S_drew HO_18.out); replace HL345_0 := am_ (Kd.R_drew HL345_0.out); replace BK339 := am_ (blk_drew BK339.out); replace BK341 := am_ (blk_drew BK341.out); replace HR345_0 := am_ (Kd.C_drew HR345_0.out); replace HB := am_ (below_drew1 HB.out); have p346 : 0 ≤ (0 : Int) := (by omega); have q346 : 0 < ((rd_L5 t342 x20_2).length : Int) := of_decide_eq_true Zn; obtain ⟨ad346, e346, hx346_0⟩ := Kd.at_int (Zar HR345_0) 0 p346 q346
              cases e346
              have qi346 : (0 < (rd_L5 t342 x20_2).length) = True := eq_true (by omega)
              (try rw [show ((0 : Int)).toNat = 0 from rfl] at hx346_0)
              (try rw [Addr.add_zero'] at hx346_0)
              replace p346 := eq_true p346; replace q346 := eq_true q346; have p347 : 0 ≤ (1 : Int) := (by omega); have q347 : 1 < ((rd_L5 t342 x20_2).length : Int) := of_decide_eq_true Zn; obtain ⟨ad347, e347, hx347_0⟩ := Kd.at_int (Zar HR345_0) 1 p347 q347; obtain rfl : ad346 = ad347 := (by injection e347)
              (try simp only [show (1 : Int).toNat = 1 from rfl, Nat.reduceMul, Nat.reduceEqDiff, Go.Addr.add, ↓reduceIte] at hx347_0)
              have qi347 : (1 < (rd_L5 t342 x20_2).length) = True := eq_true (by omega)
              (try rw [show ((1 : Int)).toNat = 1 from rfl] at hx347_0)
              replace p347 := eq_true p347; replace q347 := eq_true q347; refine start_ (n := 12) (S := fun w' => w'.cell? ad346 = some (.int .i64 (rd (rd_L5 t342 x20_2) 0)) ∧ w'.cell? ⟨ad346.block, ad346.off + 1, none⟩ = some (.int .i64 (rd (rd_L5 t342 x20_2) 1))) (ds := [9, 10]) (bT 12 0) Zi rfl rfl ⟨hx346_0, hx347_0⟩ (fun hHeld => ?_); refine with_tabW impl_windowsOf.tab8 impl_windowsOf.bits8 (fun HT_ HW_ => ?_); generalize wr.drew = w20 at HO_3 HO_18 HL345_0 BK339 BK341 HR345_0 HB hx346_0 hx347_0 hHeld ⊢; refine pureZ HT_ 0 (some 24) (bT 12 1) ?_; refine pureZ HT_ 1 (some 25) (bT 12 2) ?_; refine pureZ HT_ 2 (some 26) (bT 12 3) ?_; refine pureZ HT_ 4 (some 28) (bB 12 23) ?_; refine pureZ HT_ 5 (some 29) (bB 12 55) ?_; refine pureZ HT_ 7 (some 31) (bB 12 183) ?_; refine takeZ2 HT_ HW_ 3 (some 27) (bB 12 191) hHeld ?_; refine takeZ2 HT_ HW_ 6 (some 30) (bT 12 8) hHeld ?_; refine one_ (i := 8) (N := some 32) (bT 12 9) rfl rfl (one_of HT_.out Zi) (by decide) (fun K hK => ?_); refine Kd.R_lit_step (Kd.int .i64) _ 2 ?hg (N := 32) ?hd (xs := ([rd (rd_L5 t342 x20_2) 0, rd (rd_L5 t342 x20_2) 1, x11_1] : List Int)) (inner := [.int .i64 (rd (rd_L5 t342 x20_2) 0), .int .i64 (rd (rd_L5 t342 x20_2) 1), .int .i64 x11_1]) (ok := fun _ => True) (okp := fun _ => True) ?hr ?hp (fun _ hk => hk) trivial (Below.refl _ _) (Nat.le_refl _) (by simp) ?_; (case hd => rfl); (case hg => rfl); (case hr => first | (go_simp; done) | (go_simp; rfl)); (case hp => exact (Reps.one (show Kd.M (Kd.int .i64) _ _ _ (rd (rd_L5 t342 x20_2) 0) [.int .i64 (rd (rd_L5 t342 x20_2) 0)] from rfl) (Reps.one (show Kd.M (Kd.int .i64) _ _ _ (rd (rd_L5 t342 x20_2) 1) [.int .i64 (rd (rd_L5 t342 x20_2) 1)] from rfl) (Reps.one (show Kd.M (Kd.int .i64) _ _ _ x11_1 [.int .i64 x11_1] from rfl) (Reps.none _ _))))); intro v349 w21 ho22 hb hg_ hnew_; have HS0_ := (hb.cell (World.block_lt_of_cell? _ _ (hHeld.1))).trans (hHeld.1); have HS1_ := (hb.cell (World.block_lt_of_cell? _ _ (hHeld.2))).trans (hHeld.2); clear hg_ hnew_
              (first | rw [← Ny348.out] at ho22 | (simp only [Int.reduceToNat] at ho22; rw [← Ny348.out] at ho22))
              replace HO_3 := am_ (Kd.S_elder' (Zam HO_3) (Kd.R_base ho22) hb); replace HO_18 := am_ (Kd.S_elder' (Zam HO_18) (Kd.R_base ho22) hb); replace HO350 := am_ (Kd.R_lower (Kd.R_new' ho22 (Kd.R_lt (Zo HL345_0))) (below_size (Zh GE339 GE341))); replace HL345_0 := am_ (Kd.R_elder' (Zo HL345_0) (Kd.R_base ho22) hb); replace BK339 := (bkZ BK339 hb); replace BK341 := (bkZ BK341 hb); replace HR345_0 := am_ (Kd.C_below (Zar HR345_0) hb); replace HB := (bsZ (Zh GE339 GE341) hb); clear hb ho22; obtain ⟨Ao24, co24, eo24⟩ := Kd.R_slice HO350.out
              (first | subst eo24 | (injection eo24 with f1_ f2_ f3_; have f4_ := f1_.symm; have f5_ := f3_.symm; clear f1_ f2_ f3_; subst f4_; subst f5_))
              refine hK.out _ _ ⟨HS0_, HS1_⟩ (fun hHeld => ?_); clear hK K; refine normZ 32 ?_; refine last_ (i := 9) (N := some 33) (bT 12 10) rfl rfl (one_of HT_.out Zi) (by decide) (fun K hK => ?_); refine value_ (w1 := ?_) (v := ?_) (by rfl) rfl ?_ ?_; rotate_left 2
              ·go_simp
               constructor
               ·rfl
               ·rfl
              refine hK.out _ _ ?_; clear hK K; refine normZ 33 ?_; refine last_ (i := 10) (N := some 34) (bT 12 11) rfl rfl (one_of HT_.out Zi) (by decide) (fun K hK => ?_); refine Kd.S_append_step (Kd.slice 2 (Kd.int .i64)) (w0 := w) w.heap.size (by rfl) (.tmp 24) (.tmp 33) 28 47 (.slice none 0 0) 24 rfl Try.underlying28 info47 rfl (by decide) (by omega) u3 x3_2 y348 [.slice Ao24 y348.length co24] (fun k_ => some k_ ≠ (.slice (some ad345) t342.length co13 : Value).ownBlock) (fun k_ => some k_ = (.slice Ao24 y348.length co24 : Value).ownBlock) rfl rfl ?aP (fun k_ hk_ => ((Kd.R_mono (ok' := fun k_ => ((fun k_ => some k_ ≠ (.slice (some ad345) t342.length co13 : Value).ownBlock)) k_ ∧ some k_ ≠ (u3 : Value).ownBlock) (Kd.R_apart' (Kd.R_apart' (HO350.out) (Kd.S_typed HO_18.out) (by decide)) (Kd.S_typed HO_3.out) (by decide)) (fun k_ hk => ⟨hk.1.2, hk.2⟩))).1 k_ hk_.symm) ?aF ?aO ?aB ?aS ?aL ?_
              (case aP => exact Kd.M_row (Kd.R_mono (Kd.R_tight rfl (Kd.R_mono (ok' := fun k_ => ((fun k_ => some k_ ≠ (.slice (some ad345) t342.length co13 : Value).ownBlock)) k_ ∧ some k_ ≠ (u3 : Value).ownBlock) (Kd.R_apart' (Kd.R_apart' (HO350.out) (Kd.S_typed HO_18.out) (by decide)) (Kd.S_typed HO_3.out) (by decide)) (fun k_ hk => ⟨hk.1.2, hk.2⟩))) (fun _ h_ => h_)))
              (case aB => exact (Zh GE339 GE341))
              (case aF => exact (fun k_ hk => Kd.fresh' (Kd.S_lt (Zam HO_18)) k_ hk))
              (case aO => exact (by (with_reducible repeat (first | apply Kd.S_alloc | apply Kd.S_drewN | apply Kd.S_drew)); exact Kd.S_mono HO_3.out (fun k_ hk => ⟨hk.1, fun e_ => hk.2 e_⟩)))
              (case aS => exact (below_size (Zh GE339 GE341)))
              (case aL => have := LMc19.out; omega)
              intro v352 w23 ho hb hg hat; rw [← Ny351.out] at ho; replace HO_18 := am_ (Kd.S_after (ok := (fun k_ => some k_ ≠ (.slice Ao24 y348.length co24 : Value).ownBlock)) (by (with_reducible repeat (first | apply Kd.S_alloc | apply Kd.S_drewN | apply Kd.S_drew)); exact Kd.S_mono HO_18.out (fun _ hk => ⟨hk.2, hk.1⟩)) hg hat); replace BK339 := am_ (blk_grown (g := gb339) (b0Z BK339) hg (Kd.S_ne HO_3.out BK339.out (by decide))); replace BK341 := am_ (blk_grown (g := gb341) (b0Z BK341) hg (Kd.S_ne HO_3.out BK341.out (by decide))); replace HL345_0 := am_ (Kd.R_after (ok := (fun k_ => some k_ ≠ (.slice (some ad345) t342.length co13 : Value).ownBlock ∧ some k_ ≠ (.slice Ao24 y348.length co24 : Value).ownBlock)) (by (with_reducible repeat (first | apply Kd.R_alloc | apply Kd.R_drewN | apply Kd.R_drew)); exact Kd.R_mono HL345_0.out (fun _ hk => ⟨⟨hk.1.2, hk.2⟩, hk.1.1⟩)) hg hat); replace HB := am_ (hb); replace HO353 := am_ (ho); clear HO_3 HO350; clear ho hb hg hat; refine hK.out _ _ ?_; clear hK K; refine normZ 34 ?_; refine pureZ HT_ 11 (some 3) (bT 12 12) ?_; refine done_ (done_of HT_.out Zi) ?_
              try go_wp2
              go_roundg k2
              case measure => have := HK1.out; have := HK2.out; omega
              case rel => exact ⟨(y351), (wrap64 (x20_2 + 1)), Za, H', ⟨Zaq⟩, ⟨(Zam HO353)⟩, ⟨(Zbi HO_18)⟩, ⟨(Zai BK339)⟩, ⟨(Zai BK341)⟩, ⟨(Zh GE339 GE341)⟩⟩
             ·rw [if_neg c19] at H
              exact absurd H (by simp)
            ·rw [if_neg c18] at H
             exact absurd H (by simp)
           ·rw [if_neg c17] at H
            exact absurd H (by simp)
          ·rw [if_neg c16] at H
           exact absurd H (by simp)
         ·rw [if_neg c15] at H
          exact absurd H (by simp)
        ·rw [if_neg c14] at H
         have c14b0 := decide_eq_false c14; clear c14; have H' := am_ H; clear H
         go_wp2
         go_roundg k2
         case measure => have := HK1.out; have := HK2.out; omega
         case rel => exact ⟨(x3_2), (wrap64 (x11_1 + 1)), Za, H', ⟨Zaq⟩, ⟨(Zao HO_3)⟩, ⟨(Zai BK339)⟩, ⟨(Zh GE339 GE341)⟩⟩
     ·rw [if_neg c6] at H
      exact absurd H (by simp)
    ·rw [if_neg c5] at H
     exact absurd H (by simp)
   ·rw [if_neg c4] at H
    have c4b0 := decide_eq_false c4; clear c4; obtain rfl := Option.some.inj H
    go_wp2
    go_ret
    exact ⟨_, Zj, (Zam HO_3), (Zf GE339)⟩
mutual
def impl_DarkGaps.l0 : Nat → Int → List (List Int) → Int → Int → Option ((List (List Int)) × Int)
 | 0, _, _, _, _ => none
 | k + 1, x1, x6, x24, x25 => if x25 < x24 then (impl_DarkGaps.l1 k x1 x6 x25 x24 x25) else (impl_DarkGaps.l2 k x1 x6 ([] : List (List Int)) x6 (x6.length : Int) 0)
def impl_DarkGaps.l1 : Nat → Int → List (List Int) → Int → Int → Int → Option ((List (List Int)) × Int)
 | 0, _, _, _, _, _ => none
 | k + 1, x1, x6, x8, x24, x25 => if x8 > 0 then (if 0 ≤ (wrap64 (x8 - 1)) then (if (wrap64 (x8 - 1)) < (x6.length : Int) then (if 0 < ((rd_L5 x6 (wrap64 (x8 - 1))).length : Int) then (if 0 ≤ x8 then (if x8 < (x6.length : Int) then (if 0 < ((rd_L5 x6 x8).length : Int) then (if (rd (rd_L5 x6 (wrap64 (x8 - 1))) 0) > (rd (rd_L5 x6 x8) 0) then (impl_DarkGaps.l1 k x1 ((x6.set ((wrap64 (x8 - 1)) : Int).toNat (rd_L5 x6 x8)).set (x8 : Int).toNat (rd_L5 x6 (wrap64 (x8 - 1)))) (wrap64 (x8 - 1)) x24 x25) else (impl_DarkGaps.l0 k x1 x6 x24 (wrap64 (x25 + 1)))) else (none)) else (none)) else (none)) else (none)) else (none)) else (none)) else (impl_DarkGaps.l0 k x1 x6 x24 (wrap64 (x25 + 1)))
def impl_DarkGaps.l2 : Nat → Int → List (List Int) → List (List Int) → List (List Int) → Int → Int → Option ((List (List Int)) × Int)
 | 0, _, _, _, _, _, _ => none
 | k + 1, x1, x6, x9, x66, x67, x68 => if x68 < x67 then (if 0 ≤ x68 then (if x68 < (x66.length : Int) then (if x68 = 0 then (impl_DarkGaps.l2 k x1 x6 x9 x66 x67 (wrap64 (x68 + 1))) else (if 0 < (x6.length : Int) then (if 1 < ((rd_L5 x6 0).length : Int) then (if x68 ≤ (x6.length : Int) then ((some (x6.take (x68 : Int).toNat : List (List Int))).bind fun y371 => (impl_DarkGaps.l3 k x1 x6 x9 (rd_L5 x66 x68) (rd (rd_L5 x6 0) 1) x66 x67 x68 y371 (y371.length : Int) 0)) else (none)) else (none)) else (none))) else (none)) else (none)) else (some (x9, 0))
def impl_DarkGaps.l3 : Nat → Int → List (List Int) → List (List Int) → List Int → Int → List (List Int) → Int → Int → List (List Int) → Int → Int → Option ((List (List Int)) × Int)
 | 0, _, _, _, _, _, _, _, _, _, _, _ => none
 | k + 1, x1, x6, x9, x11, x12, x66, x67, x68, x82, x83, x84 => if x84 < x83 then (if 0 ≤ x84 then (if x84 < (x82.length : Int) then (if 1 < ((rd_L5 x82 x84).length : Int) then (impl_DarkGaps.l3 k x1 x6 x9 x11 (mx x12 (rd (rd_L5 x82 x84) 1)) x66 x67 x68 x82 x83 (wrap64 (x84 + 1))) else (none)) else (none)) else (none)) else (if 0 < (x11.length : Int) then (if (wrap64 ((wrap64 ((rd x11 0) - x12)) - 1)) ≥ x1 then (if x9.length < 5864062014805 then (impl_DarkGaps.l2 k x1 x6 (x9 ++ [(([wrap64 (x12 + 1), wrap64 ((rd x11 0) - 1)] : List Int))]) x66 x67 (wrap64 (x68 + 1))) else (none)) else (impl_DarkGaps.l2 k x1 x6 x9 x66 x67 (wrap64 (x68 + 1)))) else (none))
end
def impl_DarkGaps.f (k : Nat) (l0_0 : List (S87)) (l0_1 : List (S91)) (l0_2 : List (S80)) (a1 : Int) : Option ((List (List Int)) × Int) := (impl_IsShow.f k l0_0 l0_1 l0_2).bind fun t355 => (if t355 = true then ((impl_within.f a1 1 10000000).bind fun t356 => (if t356 = true then ((impl_windowsOf.f k l0_0 l0_1 l0_2).bind fun t357 => (impl_DarkGaps.l0 k a1 t357 (t357.length : Int) 0)) else (some (([] : List (List Int)), 2)))) else (some (([] : List (List Int)), 1)))
def impl_DarkGaps.T10 : Bool × List (List Nat × List Nat) := (true, [([], []), ([0], [0]), ([1], [1]), ([2], [2]), ([2], [2]), ([4, 2], [2, 4]), ([3, 5, 2], [2, 3, 5]), ([6, 2], [2, 6]), ([7, 2], [2, 7]), ([8, 2], [2, 8]), ([2], [2]), ([2], [2]), ([10, 11, 2], [2, 10, 11]), ([12, 2], [2, 12]), ([13, 2], [2, 13]), ([14, 2], [2, 14]), ([9, 15, 2], [2, 9, 15]), ([2, 16], [2, 16])])
def impl_DarkGaps.B10 : List Nat := [0, 1, 3, 7, 7, 23, 63, 127, 255, 511, 7, 7, 3079, 7175, 15367, 31751, 65535, 131071]
theorem impl_DarkGaps.tab10 : rtab .any (opsOf Try.f8 10) = impl_DarkGaps.T10 := by kernel_rfl
theorem impl_DarkGaps.bits10 : waitsOk impl_DarkGaps.T10.2 impl_DarkGaps.B10 = true := by kernel_rfl
def impl_DarkGaps.T12 : Bool × List (List Nat × List Nat) := (true, [([], []), ([], []), ([1], [1]), ([], []), ([], []), ([], []), ([], []), ([5, 6], [5, 6]), ([7], [7]), ([], []), ([], []), ([10], [10]), ([9, 11], [9, 11]), ([12], [12]), ([0, 2, 0, 1, 2, 5, 6, 7, 8, 13], [0, 2]), ([14, 8, 0, 1, 2, 5, 6, 7, 8, 13], [8, 14]), ([3, 4, 0, 1, 2, 3, 4, 5, 6, 7, 8, 9, 10, 11, 12, 13, 14, 15], [3, 4]), ([16, 13, 15, 0, 1, 2, 3, 4, 5, 6, 7, 8, 9, 10, 11, 12, 13, 14, 15], [13, 16])])
def impl_DarkGaps.B12 : List Nat := [0, 0, 2, 0, 0, 0, 0, 96, 224, 0, 0, 1024, 3584, 7680, 16359, 32743, 65535, 131071]
theorem impl_DarkGaps.tab12 : rtab .any (opsOf Try.f8 12) = impl_DarkGaps.T12 := by kernel_rfl
theorem impl_DarkGaps.bits12 : waitsOk impl_DarkGaps.T12.2 impl_DarkGaps.B12 = true := by kernel_rfl
set_option maxHeartbeats 8000000 in
set_option maxRecDepth 100000 in
theorem impl_DarkGaps.calls (k : Nat) (A0_0 : Option Addr) (c0_0 : Nat) (l0_0 : List (S87)) (A0_1 : Option Addr) (c0_1 : Nat) (l0_1 : List (S91)) (A0_2 : Option Addr) (c0_2 : Nat) (l0_2 : List (S80)) (a1 : Int) (r1 : List (List Int)) (r2 : Int) (w : World) (hr0_0 : Kd.C k87 w A0_0 l0_0.length l0_0) (hc0_0 : l0_0.length ≤ c0_0) (hr0_1 : Kd.C k91 w A0_1 l0_1.length l0_1) (hc0_1 : l0_1.length ≤ c0_1) (hr0_2 : Kd.C k80 w A0_2 l0_2.length l0_2) (hc0_2 : l0_2.length ≤ c0_2) (h : impl_DarkGaps.f k l0_0 l0_1 l0_2 a1 = some (r1, r2)) :
  Calls Try.prog 8 #[.agg #[.slice A0_0 l0_0.length c0_0, .slice A0_1 l0_1.length c0_1, .slice A0_2 l0_2.length c0_2], .int .i64 a1] w fun e w' => ∃ v0_ : Value, e = .returned (.tuple #[v0_, .int .i64 r2]) ∧ Kd.S (Kd.slice 2 (Kd.int .i64)) 47 w' w.heap.size (fun _ => True) v0_ r1 ∧ Below w.heap.size w w' := by
 have hu35 := Try.underlying35; have HR0_0 := am_ hr0_0; have HC0_0 := am_ hc0_0; clear hr0_0 hc0_0; have HR0_1 := am_ hr0_1; have HC0_1 := am_ hc0_1; clear hr0_1 hc0_1; have HR0_2 := am_ hr0_2; have HC0_2 := am_ hc0_2; clear hr0_2 hc0_2; have HB := am_ (Below.refl w.heap.size w); have H : ((impl_IsShow.f k l0_0 l0_1 l0_2).bind fun t355 => (if t355 = true then ((impl_within.f a1 1 10000000).bind fun t356 => (if t356 = true then ((impl_windowsOf.f k l0_0 l0_1 l0_2).bind fun t357 => (impl_DarkGaps.l0 k a1 t357 (t357.length : Int) 0)) else (some (([] : List (List Int)), 2)))) else (some (([] : List (List Int)), 1)))) = some (r1, r2) := h; clear h; replace H := Option.bind_eq_some_iff.mp H; obtain ⟨t355, A30, H⟩ := H; have A3 := am_ A30; clear A30; have HS_ := am_ H; clear H
 go_enter Try.func8, Try.ntmps8
 go_wp2_with (first | ((with_reducible refine gate_dst (N := 2) rfl ?_); refine boxZ 2 #[.slice A0_0 l0_0.length c0_0, .slice A0_1 l0_1.length c0_1, .slice A0_2 l0_2.length c0_2] 35 ?_; intro gb354 hg w8 hbox hb; replace BK354 := am_ (hbox); replace GW354 := am_ ((Zc : w.heap.size ≤ gb354)); replace GE354 := GW354; replace HB := (bsZ Zd hb); clear hb hbox hg; refine ci3 BK354 ?_; intros) | ((with_reducible refine gate_callee (f := 30) rfl ?_); refine gZ 16 Try.func30 #[.agg #[.slice A0_0 l0_0.length c0_0, .slice A0_1 l0_1.length c0_1, .slice A0_2 l0_2.length c0_2]] ?_; (with_reducible refine (impl_IsShow.calls k _ _ l0_0 _ _ l0_1 _ _ l0_2 t355 _ ?_ ?_ ?_ ?_ ?_ ?_ A3.out).mono ?_); exact (Zz HR0_0); exact HC0_0.out; exact (Zz HR0_1); exact HC0_1.out; exact (Zz HR0_2); exact HC0_2.out; rintro e w10 ⟨rfl, hb⟩; refine ⟨_, rfl, ?_⟩; replace BK354 := (bkZ BK354 hb); replace HB := (bsZ (Zf GE354) hb); clear hb; refine ?roundEnd))
 case roundEnd =>
  by_cases c4 : t355 = true
  ·have H := HS_.out
   clear HS_; subst c4; rw [if_pos rfl] at H; replace H := Option.bind_eq_some_iff.mp H; obtain ⟨t356, A50, H⟩ := H; have A5 := am_ A50; clear A50; have HS_ := am_ H; clear H
   by_cases c6 : t356 = true
   ·have H := HS_.out
    clear HS_; subst c6; rw [if_pos rfl] at H; replace H := Option.bind_eq_some_iff.mp H; obtain ⟨t357, A70, H⟩ := H; have A7 := am_ A70; clear A70; have H' := am_ H; clear H
    go_wp2_with (first | ((with_reducible refine gate_callee (f := 31) rfl ?_); refine gZ 19 Try.func31 #[.int .i64 a1, .int .i64 1, .int .i64 10000000] ?_; (with_reducible refine (impl_within.calls a1 1 10000000 true _ A5.out).mono ?_); rintro e w' ⟨rfl, ⟨nd, rfl⟩⟩; refine ⟨_, rfl, ?_⟩; refine ci3 BK354 ?_; intros) | ((with_reducible refine gate_callee (f := 32) rfl ?_); refine gZ 22 Try.func32 #[.agg #[.slice A0_0 l0_0.length c0_0, .slice A0_1 l0_1.length c0_1, .slice A0_2 l0_2.length c0_2]] ?_; (with_reducible refine (impl_windowsOf.calls k _ _ l0_0 _ _ l0_1 _ _ l0_2 t357 _ ?_ ?_ ?_ ?_ ?_ ?_ A7.out).mono ?_); exact (Zaa HR0_0 GE354); exact HC0_0.out; exact (Zaa HR0_1 GE354); exact HC0_1.out; exact (Zaa HR0_2 GE354); exact HC0_2.out; rintro e w12 ⟨v358, rfl, ho0, hb⟩; refine ⟨_, rfl, ?_⟩; replace HO359 := am_ (Kd.N_lower (Kd.N_mono (ok' := fun k_ => k_ ≠ gb354) (Kd.S_N (Kd.S_bound ho0)) (fun k_ hk_ => (Kd.freshB (g := gb354) (b0Z BK354) k_ hk_.2.1))) (below_size (Zf GE354))); replace BK354 := (bkZ BK354 hb); replace HB := (bsZ (Zf GE354) hb); clear hb ho0; obtain ⟨Ao13, co13, eo13⟩ := Kd.N_slice HO359.out; subst eo13))
    go_loopg [25] k (fun kq v25 w' => ∃ (x6_1 : List (List Int)) (x25_1 : Int), v25 = .int .i64 x25_1 ∧ Aside0 (impl_DarkGaps.l0 kq a1 x6_1 (t357.length : Int) x25_1 = some (r1, r2)) ∧ Aside0 (kq ≤ k) ∧ Aside0 (Kd.N (Kd.slice 2 (Kd.int .i64)) 47 w' w.heap.size (fun k_ => k_ ≠ gb354) (.slice Ao13 t357.length co13) x6_1) ∧ Aside0 (w'.heap[gb354]? = some (.cells #[(.slice A0_0 l0_0.length c0_0), (.slice A0_1 l0_1.length c0_1), (.slice A0_2 l0_2.length c0_2)] 35 (0, 0))) ∧ Aside0 (Below w.heap.size w w'))
    case atStart => exact ⟨(t357), (0), Za, H', ⟨Nat.le_refl _⟩, ⟨(Zap HO359)⟩, ⟨(Zai BK354)⟩, ⟨(Zf GE354)⟩⟩
    case round =>
     clear H'
     try clear p2
     try clear c3
     try clear c4
     try clear c6
     try clear c8
     obtain ⟨x6_1, x25_1, rfl, HA, HK1, HO_6, BK354, HB⟩ := hrel; have hl6_1 := (Kd.N_reads' HO_6.out).1; rw [hl6_1] at HO_6
     (try simp only [hl6_1])
     (try simp only [hl6_1] at BK354)
     cases gk with
     | zero => exact absurd HA.out (by simp [impl_DarkGaps.l0])
     | succ k1 =>
      have H := HA.out; clear HA; simp only [impl_DarkGaps.l0] at H
      (try simp only [hl6_1] at H)
      by_cases c14 : x25_1 < (x6_1.length : Int)
      ·rw [if_pos c14] at H
       have c14b0 := decide_eq_true c14; clear c14; have H' := am_ H; clear H
       go_wp2
       go_loopg [8] k1 (fun kq v8 w' => ∃ (x6_2 : List (List Int)) (x8_2 : Int), v8 = .int .i64 x8_2 ∧ Aside0 (impl_DarkGaps.l1 kq a1 x6_2 x8_2 (x6_1.length : Int) x25_1 = some (r1, r2)) ∧ Aside0 (kq ≤ k1) ∧ Aside0 (Kd.N (Kd.slice 2 (Kd.int .i64)) 47 w' w.heap.size (fun k_ => k_ ≠ gb354) (.slice Ao13 x6_1.length co13) x6_2) ∧ Aside0 (w'.heap[gb354]? = some (.cells #[(.slice A0_0 l0_0.length c0_0), (.slice A0_1 l0_1.length c0_1), (.slice A0_2 l0_2.length c0_2)] 35 (0, 0))) ∧ Aside0 (Below w.heap.size w w'))
       case atStart => exact ⟨(x6_1), (x25_1), Za, H', ⟨Nat.le_refl _⟩, ⟨(Zbj HO_6)⟩, ⟨(Zbk BK354)⟩, ⟨(Zf GE354)⟩⟩
       case round =>
        clear H'
        try clear c1
        try clear p2
        try clear c3
        try clear c4
        try clear c6
        try clear c8
        try clear c14
        try clear c14b0
        try clear p2
        obtain ⟨x6_2, x8_2, rfl, HA, HK2, HO_6, BK354, HB⟩ := hrel; have hl6_2 := (Kd.N_reads' HO_6.out).1; rw [hl6_2] at HO_6
        (try simp only [hl6_2])
        (try simp only [hl6_2] at BK354)
        cases gk with
        | zero => exact absurd HA.out (by simp [impl_DarkGaps.l1])
        | succ k2 =>
         have H := HA.out; clear HA; simp only [impl_DarkGaps.l1] at H
         by_cases c15 : x8_2 > 0
         ·rw [if_pos c15] at H
          have c15b0 : decide (0 < x8_2) = true := decide_eq_true c15; clear c15; obtain ⟨ji16, hji16⟩ : ∃ j_ : Int, (wrap64 (x8_2 - 1)) = j_ := ⟨_, rfl⟩
          replace H : (if 0 ≤ (ji16) then (if (ji16) < (x6_2.length : Int) then (if 0 < ((rd_L5 x6_2 (ji16)).length : Int) then (if 0 ≤ x8_2 then (if x8_2 < (x6_2.length : Int) then (if 0 < ((rd_L5 x6_2 x8_2).length : Int) then (if (rd (rd_L5 x6_2 (ji16)) 0) > (rd (rd_L5 x6_2 x8_2) 0) then (impl_DarkGaps.l1 k2 a1 ((x6_2.set ((ji16) : Int).toNat (rd_L5 x6_2 x8_2)).set (x8_2 : Int).toNat (rd_L5 x6_2 (ji16))) ji16 (x6_1.length : Int) x25_1) else (impl_DarkGaps.l0 k2 a1 x6_2 (x6_1.length : Int) (wrap64 (x25_1 + 1)))) else (none)) else (none)) else (none)) else (none)) else (none)) else (none)) = some (r1, r2) := by first | (rw [hji16] at H; exact H) | (simp only [hji16] at H ⊢; exact H)
          have hji16w : (IntKind.i64.wrap (x8_2 - 1)) = ji16 := (i64_w _).trans hji16
          by_cases c17 : 0 ≤ (ji16)
          ·rw [if_pos c17] at H
           have c17b0 := decide_eq_true c17; clear c17
           by_cases c18 : (ji16) < (x6_2.length : Int)
           ·rw [if_pos c18] at H
            have c18b0 := decide_eq_true c18; clear c18
            by_cases c19 : 0 < ((rd_L5 x6_2 (ji16)).length : Int)
            ·rw [if_pos c19] at H
             have c19b0 := decide_eq_true c19; have c19b1 : decide (0 < (rd_L5 x6_2 (ji16)).length) = true := decide_eq_true (by omega); clear c19
             by_cases c20 : 0 ≤ x8_2
             ·rw [if_pos c20] at H
              have c20b0 := decide_eq_true c20; clear c20
              by_cases c21 : x8_2 < (x6_2.length : Int)
              ·rw [if_pos c21] at H
               have c21b0 := decide_eq_true c21; clear c21
               by_cases c22 : 0 < ((rd_L5 x6_2 x8_2).length : Int)
               ·rw [if_pos c22] at H
                have c22b0 := decide_eq_true c22; have c22b1 : decide (0 < (rd_L5 x6_2 x8_2).length) = true := decide_eq_true (by omega); clear c22
                by_cases c23 : (rd (rd_L5 x6_2 (ji16)) 0) > (rd (rd_L5 x6_2 x8_2) 0)
                ·rw [if_pos c23] at H
                 have c23b0 : decide ((rd (rd_L5 x6_2 x8_2) 0) < (rd (rd_L5 x6_2 (ji16)) 0)) = true := decide_eq_true c23; clear c23; obtain ⟨y366, hy366⟩ : ∃ y_ : List (List Int), y_ = (x6_2.set ((ji16) : Int).toNat (rd_L5 x6_2 x8_2)) := ⟨_, rfl⟩
                 (first | (rw [← hy366] at H; with_reducible replace H := bindZ H) | rw [← hy366] at H | skip)
                 have Ny366 := am_ hy366; clear hy366; obtain ⟨y367, hy367⟩ : ∃ y_ : List (List Int), y_ = (y366.set (x8_2 : Int).toNat (rd_L5 x6_2 (ji16))) := ⟨_, rfl⟩
                 (first | (rw [← hy367] at H; with_reducible replace H := bindZ H) | rw [← hy367] at H | skip)
                 have Ny367 := am_ hy367; clear hy367; have H' := am_ H; clear H
                 try go_wp2
                 replace HO_6 := am_ (Kd.N_drew HO_6.out); replace BK354 := am_ (blk_drew BK354.out); replace HB := am_ (below_drew1 HB.out); have p360 : 0 ≤ ((ji16) : Int) := of_decide_eq_true Zn; have q360 : (ji16) < (x6_2.length : Int) := of_decide_eq_true Zn; obtain ⟨ad360, A360_0, c360_0, e360, hx360_0, hl360_0, hi360_0⟩ := at_L5 (Kd.N_reads' HO_6.out).2.2 (ji16) p360 q360
                 cases e360
                 obtain ⟨ce360, hce360, hMe360, hcc360⟩ := Kd.N_get HO_6.out [] (ji16) p360 (by first | exact q360 | exact of_decide_eq_true Zn | (have e_ := (Kd.N_reads' HO_6.out).1; omega)); obtain ⟨ua360_0, uc360_0, rfl, ul360_0, ge360_0⟩ := Kd.FK_slice_open hMe360; have hv360_0 := hcc360 0 _ rfl; rw [Nat.add_zero, show ((Kd.slice 2 (Kd.int .i64))).sz = 1 from rfl, Nat.mul_one] at hv360_0; replace hv360_0 := Option.some.inj (hv360_0.symm.trans hx360_0); injection hv360_0 with hva_ hvn_ hvc_; rw [hva_] at ge360_0; rw [hvc_] at ul360_0; have HL360_0 := am_ (show Kd.V (Kd.int .i64) 2 _ w.heap.size _ _ (rd_L5 x6_2 (ji16)) from Kd.V_mk ul360_0 ge360_0); clear hva_ hvn_ hvc_ ge360_0 ul360_0; clear hcc360 hce360; have HR360_0 := am_ hi360_0; have HC360_0 := am_ hl360_0; clear hi360_0 hl360_0; replace p360 := eq_true p360; replace q360 := eq_true q360; have p361 : 0 ≤ (0 : Int) := (by omega); have q361 : 0 < ((rd_L5 x6_2 (ji16)).length : Int) := of_decide_eq_true Zn; obtain ⟨ad361, e361, hx361_0⟩ := Kd.at_int (Zar HR360_0) 0 p361 q361
                 cases e361
                 have qi361 : (0 < (rd_L5 x6_2 (ji16)).length) = True := eq_true (by omega)
                 (try rw [show ((0 : Int)).toNat = 0 from rfl] at hx361_0)
                 (try rw [Addr.add_zero'] at hx361_0)
                 replace p361 := eq_true p361; replace q361 := eq_true q361; have p362 : 0 ≤ (x8_2 : Int) := of_decide_eq_true Zn; have q362 : x8_2 < (x6_2.length : Int) := of_decide_eq_true Zn; obtain ⟨ad362, A362_0, c362_0, e362, hx362_0, hl362_0, hi362_0⟩ := at_L5 (Kd.N_reads' HO_6.out).2.2 x8_2 p362 q362; obtain rfl : ad360 = ad362 := (by injection e362); obtain ⟨ce362, hce362, hMe362, hcc362⟩ := Kd.N_get HO_6.out [] x8_2 p362 (by first | exact q362 | exact of_decide_eq_true Zn | (have e_ := (Kd.N_reads' HO_6.out).1; omega)); obtain ⟨ua362_0, uc362_0, rfl, ul362_0, ge362_0⟩ := Kd.FK_slice_open hMe362; have hv362_0 := hcc362 0 _ rfl; rw [Nat.add_zero, show ((Kd.slice 2 (Kd.int .i64))).sz = 1 from rfl, Nat.mul_one] at hv362_0; replace hv362_0 := Option.some.inj (hv362_0.symm.trans hx362_0); injection hv362_0 with hva_ hvn_ hvc_; rw [hva_] at ge362_0; rw [hvc_] at ul362_0; have HL362_0 := am_ (show Kd.V (Kd.int .i64) 2 _ w.heap.size _ _ (rd_L5 x6_2 x8_2) from Kd.V_mk ul362_0 ge362_0); clear hva_ hvn_ hvc_ ge362_0 ul362_0; clear hcc362 hce362; have HR362_0 := am_ hi362_0; have HC362_0 := am_ hl362_0; clear hi362_0 hl362_0; replace p362 := eq_true p362; replace q362 := eq_true q362; have p363 : 0 ≤ (0 : Int) := (by omega); have q363 : 0 < ((rd_L5 x6_2 x8_2).length : Int) := of_decide_eq_true Zn; obtain ⟨ad363, e363, hx363_0⟩ := Kd.at_int (Zar HR362_0) 0 p363 q363
                 cases e363
                 have qi363 : (0 < (rd_L5 x6_2 x8_2).length) = True := eq_true (by omega)
                 (try rw [show ((0 : Int)).toNat = 0 from rfl] at hx363_0)
                 (try rw [Addr.add_zero'] at hx363_0)
                 replace p363 := eq_true p363; replace q363 := eq_true q363; refine start_ (n := 18) (S := fun w' => w'.cell? (ad360.add ((ji16)).toNat) = some (.slice (some ad361) (rd_L5 x6_2 (ji16)).length c360_0) ∧ w'.cell? ad361 = some (.int .i64 (rd (rd_L5 x6_2 (ji16)) 0)) ∧ w'.cell? (ad360.add (x8_2).toNat) = some (.slice (some ad363) (rd_L5 x6_2 x8_2).length c362_0) ∧ w'.cell? ad363 = some (.int .i64 (rd (rd_L5 x6_2 x8_2) 0))) (ds := []) (bT 18 0) Zi rfl rfl ⟨hx360_0, hx361_0, hx362_0, hx363_0⟩ (fun hHeld => ?_); refine with_tabW impl_DarkGaps.tab10 impl_DarkGaps.bits10 (fun HT_ HW_ => ?_); generalize wr.drew = w26 at HO_6 BK354 HB HL360_0 HL362_0 HR360_0 HR362_0 hx360_0 hx361_0 hx362_0 hx363_0 hHeld ⊢; refine pureZ HT_ 0 (some 29) (bT 18 1) ?_; refine pureZ HT_ 1 (some 30) (bT 18 2) ?_; refine pureZ HT_ 2 (some 31) (bT 18 3) ?_; refine pureZ HT_ 3 (some 32) (bT 18 4) ?_; refine pureZ HT_ 4 (some 33) (bT 18 5) ?_; refine pureZ HT_ 5 (some 34) (bT 18 6) ?_; refine pureZ HT_ 6 (some 35) (bT 18 7) ?_; refine pureZ HT_ 10 (some 39) (bB 18 1151) ?_; refine pureZ HT_ 11 (some 40) (bB 18 3199) ?_; refine pureZ HT_ 12 (some 41) (bB 18 7295) ?_; refine takeZ4 HT_ HW_ 7 (some 36) (bB 18 7423) hHeld ?_; refine pureZ HT_ 8 (some 37) (bB 18 7679) ?_; refine takeZ4 HT_ HW_ 9 (some 38) (bT 18 13) hHeld ?_; refine takeZ4 HT_ HW_ 13 (some 42) (bT 18 14) hHeld ?_; refine pureZ HT_ 14 (some 43) (bT 18 15) ?_; refine takeZ4 HT_ HW_ 15 (some 44) (bT 18 16) hHeld ?_; refine pureZ HT_ 16 (some 45) (bT 18 17) ?_; refine pureZ HT_ 17 (some 46) (bT 18 18) ?_; refine done_ (done_of HT_.out Zi) ?_
                 try go_wp2
                 replace HO_6 := am_ (Kd.N_drew HO_6.out); replace HL360_0 := am_ (Kd.V_drew HL360_0.out); replace HL362_0 := am_ (Kd.V_drew HL362_0.out); replace BK354 := am_ (blk_drew BK354.out); replace HR360_0 := am_ (Kd.C_drew HR360_0.out); replace HR362_0 := am_ (Kd.C_drew HR362_0.out); replace HB := am_ (below_drew1 HB.out); have p364 : 0 ≤ (x8_2 : Int) := of_decide_eq_true Zn; have q364 : x8_2 < (x6_2.length : Int) := of_decide_eq_true Zn; obtain ⟨ad364, A364_0, c364_0, e364, hx364_0, hl364_0, hi364_0⟩ := at_L5 (Kd.N_reads' HO_6.out).2.2 x8_2 p364 q364; obtain rfl : ad360 = ad364 := (by injection e364); obtain ⟨ce364, hce364, hMe364, hcc364⟩ := Kd.N_get HO_6.out [] x8_2 p364 (by first | exact q364 | exact of_decide_eq_true Zn | (have e_ := (Kd.N_reads' HO_6.out).1; omega)); obtain ⟨ua364_0, uc364_0, rfl, ul364_0, ge364_0⟩ := Kd.FK_slice_open hMe364; have hv364_0 := hcc364 0 _ rfl; rw [Nat.add_zero, show ((Kd.slice 2 (Kd.int .i64))).sz = 1 from rfl, Nat.mul_one] at hv364_0; replace hv364_0 := Option.some.inj (hv364_0.symm.trans hx364_0); injection hv364_0 with hva_ hvn_ hvc_; rw [hva_] at ge364_0; rw [hvc_] at ul364_0; have HL364_0 := am_ (show Kd.V (Kd.int .i64) 2 _ w.heap.size _ _ (rd_L5 x6_2 x8_2) from Kd.V_mk ul364_0 ge364_0); clear hva_ hvn_ hvc_ ge364_0 ul364_0; clear hcc364 hce364; have HR364_0 := am_ hi364_0; have HC364_0 := am_ hl364_0; clear hi364_0 hl364_0; replace p364 := eq_true p364; replace q364 := eq_true q364; have p365 : 0 ≤ ((ji16) : Int) := of_decide_eq_true Zn; have q365 : (ji16) < (x6_2.length : Int) := of_decide_eq_true Zn; obtain ⟨ad365, A365_0, c365_0, e365, hx365_0, hl365_0, hi365_0⟩ := at_L5 (Kd.N_reads' HO_6.out).2.2 (ji16) p365 q365; obtain rfl : ad360 = ad365 := (by injection e365); obtain ⟨ce365, hce365, hMe365, hcc365⟩ := Kd.N_get HO_6.out [] (ji16) p365 (by first | exact q365 | exact of_decide_eq_true Zn | (have e_ := (Kd.N_reads' HO_6.out).1; omega)); obtain ⟨ua365_0, uc365_0, rfl, ul365_0, ge365_0⟩ := Kd.FK_slice_open hMe365; have hv365_0 := hcc365 0 _ rfl; rw [Nat.add_zero, show ((Kd.slice 2 (Kd.int .i64))).sz = 1 from rfl, Nat.mul_one] at hv365_0; replace hv365_0 := Option.some.inj (hv365_0.symm.trans hx365_0); injection hv365_0 with hva_ hvn_ hvc_; rw [hva_] at ge365_0; rw [hvc_] at ul365_0; have HL365_0 := am_ (show Kd.V (Kd.int .i64) 2 _ w.heap.size _ _ (rd_L5 x6_2 (ji16)) from Kd.V_mk ul365_0 ge365_0); clear hva_ hvn_ hvc_ ge365_0 ul365_0; clear hcc365 hce365; have HR365_0 := am_ hi365_0; have HC365_0 := am_ hl365_0; clear hi365_0 hl365_0; replace p365 := eq_true p365; replace q365 := eq_true q365; have p24 : 0 ≤ ((ji16) : Int) := of_decide_eq_true Zn; have q24 : ((ji16) : Int) < ((x6_2.length : Int) : Int) := of_decide_eq_true Zn; obtain ⟨go24, co24, eo24, gb24, gl24, cl24, HG24⟩ := Kd.N_form HO_6.out (by omega)
                 (first | cases eo24 | (injection eo24 with ea_ en_ ec_; (first | subst ea_ | (injection ea_ with ea_; subst ea_)); subst ec_; clear en_))
                 have GB24 := am_ gb24; have GG24 := am_ HG24; clear gb24 gl24 HG24
                 (first | simp only [add_plain] at hx360_0 | skip)
                 (first | simp only [add_plain] at hx362_0 | skip)
                 (first | simp only [add_plain] at hx364_0 | skip)
                 (first | simp only [add_plain] at hx365_0 | skip)
                 obtain ⟨ce24, hcl24, hM24, hcc24, hfr24⟩ := Kd.N_elem HO_6.out [] ((ji16) : Int) p24 q24; obtain ⟨ua24_0, uc24_0, rfl, ul24_0, ge24_0⟩ := Kd.FK_slice_open hM24; have hx24_0 := hcc24 0 _ rfl; have hf24_0 := hfr24 0
                 (try simp only [World.setCells] at hx24_0 hf24_0)
                 (try simp only [show ((Kd.slice 2 (Kd.int .i64))).sz = 1 from rfl, Nat.mul_one, Nat.add_zero] at hx24_0)
                 (try simp only [show ((Kd.slice 2 (Kd.int .i64))).sz = 1 from rfl, Nat.mul_one, Nat.add_zero] at hf24_0)
                 clear hcl24 hcc24 hfr24 hM24; replace p24 := eq_true p24; replace q24 := eq_true q24; have HX28 := am_ (show Kd.N (Kd.slice 2 (Kd.int .i64)) 47 _ w.heap.size (fun k_ => k_ ≠ gb354) (.slice (some ⟨go24, 0, none⟩) x6_2.length co13) x6_2 from (Kd.N_mono (HO_6.out) (fun k_ hk => hk))); obtain ⟨ce28, hcl28, hM28, hcc28, hfr28⟩ := Kd.N_elem HX28.out [] ((ji16) : Int) (of_decide_eq_true Zn) (by have h_ : ((ji16) : Int) < ((x6_2.length : Int) : Int) := of_decide_eq_true Zn; first | exact h_ | (have e_ := (Kd.N_reads' HO_6.out).1; omega) | simpa using h_); obtain ⟨ua28_0, uc28_0, rfl, ul28_0, ge28_0⟩ := Kd.FK_slice_open hM28; have HP28 := (Kd.N_seg HX28.out ((ji16) : Int) (of_decide_eq_true Zn) (by have h_ : ((ji16) : Int) < ((x6_2.length : Int) : Int) := of_decide_eq_true Zn; first | exact h_ | (have e_ := (Kd.N_reads' HO_6.out).1; omega) | simpa using h_) (seg := [.slice A364_0 (rd_L5 x6_2 x8_2).length c364_0]) (j := 0) hcl28 hcc28 (show 1 ≤ 1 from (by decide)) (x' := rd_L5 x6_2 x8_2) (Kd.FK_slice_mk (Kd.V_reads' (Kd.V_mono (ok' := (fun k_ => ((fun k_ => k_ ≠ gb354)) k_ ∧ k_ ≠ go24)) (HL364_0.out) (fun k_ hk => ⟨hk.1, fun e_ => (hk.2) (by rw [e_]; rfl)⟩))).2.1 (Kd.V_F (Kd.V_mono (ok' := (fun k_ => ((fun k_ => k_ ≠ gb354)) k_ ∧ k_ ≠ go24)) (HL364_0.out) (fun k_ hk => ⟨hk.1, fun e_ => (hk.2) (by rw [e_]; rfl)⟩)))) (fun _ hk => hk)).1
                 (try simp only [show ((Kd.slice 2 (Kd.int .i64))).sz = 1 from rfl, Nat.mul_one, Nat.add_zero] at HP28)
                 rw [← Ny366.out] at HP28; have HQ28 := am_ HP28; clear hcl28 hcc28 hfr28 hM28 HP28; have p25 : 0 ≤ (x8_2 : Int) := of_decide_eq_true Zn; have q25 : (x8_2 : Int) < ((x6_2.length : Int) : Int) := of_decide_eq_true Zn; obtain ⟨ce25, hcl25, hM25, hcc25, hfr25⟩ := Kd.N_elem HQ28.out [] (x8_2 : Int) p25 q25; obtain ⟨ua25_0, uc25_0, rfl, ul25_0, ge25_0⟩ := Kd.FK_slice_open hM25; have hx25_0 := hcc25 0 _ rfl; have hf25_0 := hfr25 0
                 (try simp only [World.setCells] at hx25_0 hf25_0)
                 (try simp only [show ((Kd.slice 2 (Kd.int .i64))).sz = 1 from rfl, Nat.mul_one, Nat.add_zero] at hx25_0)
                 (try simp only [show ((Kd.slice 2 (Kd.int .i64))).sz = 1 from rfl, Nat.mul_one, Nat.add_zero] at hf25_0)
                 clear hcl25 hcc25 hfr25 hM25; replace p25 := eq_true p25; replace q25 := eq_true q25; have HX29 := am_ (show Kd.N (Kd.slice 2 (Kd.int .i64)) 47 _ w.heap.size (fun k_ => k_ ≠ gb354) (.slice (some ⟨go24, 0, none⟩) x6_2.length co13) y366 from (Kd.N_mono (HQ28.out) (fun k_ hk => hk))); obtain ⟨ce29, hcl29, hM29, hcc29, hfr29⟩ := Kd.N_elem HX29.out [] (x8_2 : Int) (of_decide_eq_true Zn) (by have h_ : (x8_2 : Int) < ((x6_2.length : Int) : Int) := of_decide_eq_true Zn; first | exact h_ | (have e_ := (Kd.N_reads' HO_6.out).1; omega) | simpa using h_); obtain ⟨ua29_0, uc29_0, rfl, ul29_0, ge29_0⟩ := Kd.FK_slice_open hM29; have HP29 := (Kd.N_seg HX29.out (x8_2 : Int) (of_decide_eq_true Zn) (by have h_ : (x8_2 : Int) < ((x6_2.length : Int) : Int) := of_decide_eq_true Zn; first | exact h_ | (have e_ := (Kd.N_reads' HO_6.out).1; omega) | simpa using h_) (seg := [.slice A365_0 (rd_L5 x6_2 (ji16)).length c365_0]) (j := 0) hcl29 hcc29 (show 1 ≤ 1 from (by decide)) (x' := rd_L5 x6_2 (ji16)) (Kd.FK_slice_mk (Kd.V_reads' (Kd.V_mono (ok' := (fun k_ => ((fun k_ => k_ ≠ gb354)) k_ ∧ k_ ≠ go24)) ((Kd.V_far (p := ⟨go24, ((ji16) : Int).toNat, none⟩) (Kd.V_mono HL365_0.out (fun k_ hk => (⟨hk, fun e_ => hk.2 (by rw [e_]; rfl)⟩ : _ ∧ k_ ≠ go24))) (fun _ hk => hk.2) (.slice A364_0 (rd_L5 x6_2 x8_2).length c364_0))) (fun k_ hk => ⟨hk.1.1, fun e_ => (hk.1.2) (by rw [e_]; rfl)⟩))).2.1 (Kd.V_F (Kd.V_mono (ok' := (fun k_ => ((fun k_ => k_ ≠ gb354)) k_ ∧ k_ ≠ go24)) ((Kd.V_far (p := ⟨go24, ((ji16) : Int).toNat, none⟩) (Kd.V_mono HL365_0.out (fun k_ hk => (⟨hk, fun e_ => hk.2 (by rw [e_]; rfl)⟩ : _ ∧ k_ ≠ go24))) (fun _ hk => hk.2) (.slice A364_0 (rd_L5 x6_2 x8_2).length c364_0))) (fun k_ hk => ⟨hk.1.1, fun e_ => (hk.1.2) (by rw [e_]; rfl)⟩)))) (fun _ hk => hk)).1
                 (try simp only [show ((Kd.slice 2 (Kd.int .i64))).sz = 1 from rfl, Nat.mul_one, Nat.add_zero] at HP29)
                 rw [← Ny367.out] at HP29; have HQ29 := am_ HP29; clear hcl29 hcc29 hfr29 hM29 HP29; refine start_ (n := 18) (S := fun w' => w'.cell? ⟨go24, (x8_2).toNat, none⟩ = some (.slice A364_0 (rd_L5 x6_2 x8_2).length c364_0) ∧ w'.cell? ⟨go24, ((ji16)).toNat, none⟩ = some (.slice A365_0 (rd_L5 x6_2 (ji16)).length c365_0)) (ds := [15, 17]) (bT 18 0) Zi rfl rfl ⟨hx364_0, hx365_0⟩ (fun hHeld => ?_); refine with_tabW impl_DarkGaps.tab12 impl_DarkGaps.bits12 (fun HT_ HW_ => ?_); generalize w26.drew = w27 at HO_6 HL360_0 HL362_0 BK354 HR360_0 HR362_0 HB GG24 HL364_0 HL365_0 HQ28 HQ29 HR364_0 HR365_0 hf24_0 hf25_0 hx24_0 hx25_0 hx360_0 hx362_0 hx364_0 hx365_0 hHeld ⊢; refine pureZ HT_ 0 (some 49) (bT 18 1) ?_; refine pureZ HT_ 1 (some 50) (bT 18 2) ?_; refine pureZ HT_ 2 (some 51) (bT 18 3) ?_; refine pureZ HT_ 3 (some 52) (bT 18 4) ?_; refine pureZ HT_ 4 (some 53) (bT 18 5) ?_; refine pureZ HT_ 5 (some 54) (bT 18 6) ?_; refine pureZ HT_ 6 (some 55) (bT 18 7) ?_; refine pureZ HT_ 7 (some 56) (bT 18 8) ?_; refine pureZ HT_ 9 (some 58) (bB 18 767) ?_; refine pureZ HT_ 10 (some 59) (bB 18 1791) ?_; refine pureZ HT_ 11 (some 60) (bB 18 3839) ?_; refine pureZ HT_ 12 (some 61) (bB 18 7935) ?_; refine takeZ2 HT_ HW_ 8 (some 57) (bT 18 13) hHeld ?_; refine takeZ2 HT_ HW_ 13 (some 62) (bT 18 14) hHeld ?_; refine pureZ HT_ 14 (some 63) (bT 18 15) ?_; refine last_ (i := 15) (N := none) (bT 18 16) rfl rfl (one_of HT_.out Zi) (by decide) (fun K hK => ?_); refine skip_ (w1 := ?_) (by rfl) rfl ?_ ?_; rotate_left
                 ·go_simp
                  rfl
                 refine hK.out _ _ ?_; clear hK K; refine pureZ HT_ 16 (some 64) (bT 18 17) ?_; refine last_ (i := 17) (N := none) (bT 18 18) rfl rfl (one_of HT_.out Zi) (by decide) (fun K hK => ?_); refine skip_ (w1 := ?_) (by rfl) rfl ?_ ?_; rotate_left
                 ·go_simp
                  rfl
                 refine hK.out _ _ ?_; clear hK K; refine done_ (done_of HT_.out Zi) ?_
                 try go_wp2
                 (try simp only [← hl6_2])
                 go_roundg k2
                 case measure => have := HK1.out; have := HK2.out; omega
                 case rel => exact ⟨(y367), (ji16), (by first | rfl | (simp; done) | (simp only [← hji16] <;> (first | rfl | simp)) | (simp [*]; done)), H', ⟨Zaq⟩, ⟨by (try simp only [hl6_1]); (try simp only [hl6_2]); (with_reducible repeat (first | apply Kd.N_alloc | apply Kd.N_drewN | apply Kd.N_drew)); exact HQ29.out⟩, ⟨by (try simp only [hl6_1]); (try simp only [hl6_2]); (with_reducible repeat (first | refine blk_drewN ?_ _ | refine blk_drew ?_ | refine blk_alloc ?_ _)); refine blk_far ?_ (by have h_ := Kd.N_away HO_6.out (fun _ hk => hk); intro e_; exact h_ (by rw [e_]; rfl)) _; (with_reducible repeat (first | refine blk_drewN ?_ _ | refine blk_drew ?_ | refine blk_alloc ?_ _)); refine blk_far ?_ (by have h_ := Kd.N_away HO_6.out (fun _ hk => hk); intro e_; exact h_ (by rw [e_]; rfl)) _; (with_reducible repeat (first | refine blk_drewN ?_ _ | refine blk_drew ?_ | refine blk_alloc ?_ _)); exact BK354.out⟩, ⟨by repeat (first | (with_reducible first | exact HB.out | apply below_alloc | apply pw_below_drewN | apply below_drew1 | refine below_set ?_ GB24.out | refine below_set ?_ GB24.out | refine below_set ?_ GE354.out) | exact HB.out)⟩⟩
                ·rw [if_neg c23] at H
                 have c23b0 : decide ((rd (rd_L5 x6_2 x8_2) 0) < (rd (rd_L5 x6_2 (ji16)) 0)) = false := decide_eq_false c23; clear c23; have H' := am_ H; clear H
                 try go_wp2
                 replace HO_6 := am_ (Kd.N_drew HO_6.out); replace BK354 := am_ (blk_drew BK354.out); replace HB := am_ (below_drew1 HB.out); have p360 : 0 ≤ ((ji16) : Int) := of_decide_eq_true Zn; have q360 : (ji16) < (x6_2.length : Int) := of_decide_eq_true Zn; obtain ⟨ad360, A360_0, c360_0, e360, hx360_0, hl360_0, hi360_0⟩ := at_L5 (Kd.N_reads' HO_6.out).2.2 (ji16) p360 q360
                 cases e360
                 obtain ⟨ce360, hce360, hMe360, hcc360⟩ := Kd.N_get HO_6.out [] (ji16) p360 (by first | exact q360 | exact of_decide_eq_true Zn | (have e_ := (Kd.N_reads' HO_6.out).1; omega)); obtain ⟨ua360_0, uc360_0, rfl, ul360_0, ge360_0⟩ := Kd.FK_slice_open hMe360; have hv360_0 := hcc360 0 _ rfl; rw [Nat.add_zero, show ((Kd.slice 2 (Kd.int .i64))).sz = 1 from rfl, Nat.mul_one] at hv360_0; replace hv360_0 := Option.some.inj (hv360_0.symm.trans hx360_0); injection hv360_0 with hva_ hvn_ hvc_; rw [hva_] at ge360_0; rw [hvc_] at ul360_0; have HL360_0 := am_ (show Kd.V (Kd.int .i64) 2 _ w.heap.size _ _ (rd_L5 x6_2 (ji16)) from Kd.V_mk ul360_0 ge360_0); clear hva_ hvn_ hvc_ ge360_0 ul360_0; clear hcc360 hce360; have HR360_0 := am_ hi360_0; have HC360_0 := am_ hl360_0; clear hi360_0 hl360_0; replace p360 := eq_true p360; replace q360 := eq_true q360; have p361 : 0 ≤ (0 : Int) := (by omega); have q361 : 0 < ((rd_L5 x6_2 (ji16)).length : Int) := of_decide_eq_true Zn; obtain ⟨ad361, e361, hx361_0⟩ := Kd.at_int (Zar HR360_0) 0 p361 q361
                 cases e361
                 have qi361 : (0 < (rd_L5 x6_2 (ji16)).length) = True := eq_true (by omega)
                 (try rw [show ((0 : Int)).toNat = 0 from rfl] at hx361_0)
                 (try rw [Addr.add_zero'] at hx361_0)
                 replace p361 := eq_true p361; replace q361 := eq_true q361; have p362 : 0 ≤ (x8_2 : Int) := of_decide_eq_true Zn; have q362 : x8_2 < (x6_2.length : Int) := of_decide_eq_true Zn; obtain ⟨ad362, A362_0, c362_0, e362, hx362_0, hl362_0, hi362_0⟩ := at_L5 (Kd.N_reads' HO_6.out).2.2 x8_2 p362 q362; obtain rfl : ad360 = ad362 := (by injection e362); obtain ⟨ce362, hce362, hMe362, hcc362⟩ := Kd.N_get HO_6.out [] x8_2 p362 (by first | exact q362 | exact of_decide_eq_true Zn | (have e_ := (Kd.N_reads' HO_6.out).1; omega)); obtain ⟨ua362_0, uc362_0, rfl, ul362_0, ge362_0⟩ := Kd.FK_slice_open hMe362; have hv362_0 := hcc362 0 _ rfl; rw [Nat.add_zero, show ((Kd.slice 2 (Kd.int .i64))).sz = 1 from rfl, Nat.mul_one] at hv362_0; replace hv362_0 := Option.some.inj (hv362_0.symm.trans hx362_0); injection hv362_0 with hva_ hvn_ hvc_; rw [hva_] at ge362_0; rw [hvc_] at ul362_0; have HL362_0 := am_ (show Kd.V (Kd.int .i64) 2 _ w.heap.size _ _ (rd_L5 x6_2 x8_2) from Kd.V_mk ul362_0 ge362_0); clear hva_ hvn_ hvc_ ge362_0 ul362_0; clear hcc362 hce362; have HR362_0 := am_ hi362_0; have HC362_0 := am_ hl362_0; clear hi362_0 hl362_0; replace p362 := eq_true p362; replace q362 := eq_true q362; have p363 : 0 ≤ (0 : Int) := (by omega); have q363 : 0 < ((rd_L5 x6_2 x8_2).length : Int) := of_decide_eq_true Zn; obtain ⟨ad363, e363, hx363_0⟩ := Kd.at_int (Zar HR362_0) 0 p363 q363
                 cases e363
                 have qi363 : (0 < (rd_L5 x6_2 x8_2).length) = True := eq_true (by omega)
                 (try rw [show ((0 : Int)).toNat = 0 from rfl] at hx363_0)
                 (try rw [Addr.add_zero'] at hx363_0)
                 replace p363 := eq_true p363; replace q363 := eq_true q363; refine start_ (n := 18) (S := fun w' => w'.cell? (ad360.add ((ji16)).toNat) = some (.slice (some ad361) (rd_L5 x6_2 (ji16)).length c360_0) ∧ w'.cell? ad361 = some (.int .i64 (rd (rd_L5 x6_2 (ji16)) 0)) ∧ w'.cell? (ad360.add (x8_2).toNat) = some (.slice (some ad363) (rd_L5 x6_2 x8_2).length c362_0) ∧ w'.cell? ad363 = some (.int .i64 (rd (rd_L5 x6_2 x8_2) 0))) (ds := []) (bT 18 0) Zi rfl rfl ⟨hx360_0, hx361_0, hx362_0, hx363_0⟩ (fun hHeld => ?_); refine with_tabW impl_DarkGaps.tab10 impl_DarkGaps.bits10 (fun HT_ HW_ => ?_); generalize wr.drew = w30 at HO_6 BK354 HB HL360_0 HL362_0 HR360_0 HR362_0 hx360_0 hx361_0 hx362_0 hx363_0 hHeld ⊢; refine pureZ HT_ 0 (some 29) (bT 18 1) ?_; refine pureZ HT_ 1 (some 30) (bT 18 2) ?_; refine pureZ HT_ 2 (some 31) (bT 18 3) ?_; refine pureZ HT_ 3 (some 32) (bT 18 4) ?_; refine pureZ HT_ 4 (some 33) (bT 18 5) ?_; refine pureZ HT_ 5 (some 34) (bT 18 6) ?_; refine pureZ HT_ 6 (some 35) (bT 18 7) ?_; refine pureZ HT_ 10 (some 39) (bB 18 1151) ?_; refine pureZ HT_ 11 (some 40) (bB 18 3199) ?_; refine pureZ HT_ 12 (some 41) (bB 18 7295) ?_; refine takeZ4 HT_ HW_ 7 (some 36) (bB 18 7423) hHeld ?_; refine pureZ HT_ 8 (some 37) (bB 18 7679) ?_; refine takeZ4 HT_ HW_ 9 (some 38) (bT 18 13) hHeld ?_; refine takeZ4 HT_ HW_ 13 (some 42) (bT 18 14) hHeld ?_; refine pureZ HT_ 14 (some 43) (bT 18 15) ?_; refine takeZ4 HT_ HW_ 15 (some 44) (bT 18 16) hHeld ?_; refine pureZ HT_ 16 (some 45) (bT 18 17) ?_; refine pureZ HT_ 17 (some 46) (bT 18 18) ?_; refine done_ (done_of HT_.out Zi) ?_
                 try go_wp2
                 (try simp only [← hl6_1, ← hl6_2])
                 go_roundg k2
                 case measure => have := HK1.out; have := HK2.out; omega
                 case rel => exact ⟨(x6_2), (wrap64 (x25_1 + 1)), Za, (by (try simp only [hl6_1]); exact H'), ⟨Zaq⟩, ⟨by (try simp only [hl6_1]); (try simp only [hl6_2]); (with_reducible repeat (first | apply Kd.N_alloc | apply Kd.N_drewN | apply Kd.N_drew)); exact HO_6.out⟩, ⟨by (try simp only [hl6_1]); (try simp only [hl6_2]); (with_reducible repeat (first | refine blk_drewN ?_ _ | refine blk_drew ?_ | refine blk_alloc ?_ _)); exact BK354.out⟩, ⟨(Zf GE354)⟩⟩
               ·rw [if_neg c22] at H
                exact absurd H (by simp)
              ·rw [if_neg c21] at H
               exact absurd H (by simp)
             ·rw [if_neg c20] at H
              exact absurd H (by simp)
            ·rw [if_neg c19] at H
             exact absurd H (by simp)
           ·rw [if_neg c18] at H
            exact absurd H (by simp)
          ·rw [if_neg c17] at H
           exact absurd H (by simp)
         ·rw [if_neg c15] at H
          have c15b0 : decide (0 < x8_2) = false := decide_eq_false c15; clear c15; have H' := am_ H; clear H
          try go_wp2
          replace HO_6 := am_ (Kd.N_drew HO_6.out); replace BK354 := am_ (blk_drew BK354.out); replace HB := am_ (below_drew1 HB.out); refine start_ (n := 18) (S := fun w' => True) (ds := []) (bT 18 0) Zi rfl rfl trivial (fun hHeld => ?_); refine with_tabW impl_DarkGaps.tab10 impl_DarkGaps.bits10 (fun HT_ HW_ => ?_); generalize wr.drew = w31 at HO_6 BK354 HB hHeld ⊢; refine pureZ HT_ 0 (some 29) (bT 18 1) ?_; refine pureZ HT_ 1 (some 30) (bT 18 2) ?_; refine pureZ HT_ 2 (some 31) (bT 18 3) ?_; refine pureU HT_ 3 (some 32) (bT 18 4) ?_; refine pureU HT_ 4 (some 33) (bT 18 5) ?_; refine pureU HT_ 5 (some 34) (bT 18 6) ?_; refine pureU HT_ 6 (some 35) (bT 18 7) ?_; refine pureU HT_ 7 (some 36) (bT 18 8) ?_; refine pureU HT_ 8 (some 37) (bT 18 9) ?_; refine pureU HT_ 9 (some 38) (bT 18 10) ?_; refine pureU HT_ 10 (some 39) (bT 18 11) ?_; refine pureU HT_ 11 (some 40) (bT 18 12) ?_; refine pureU HT_ 12 (some 41) (bT 18 13) ?_; refine pureU HT_ 13 (some 42) (bT 18 14) ?_; refine pureU HT_ 14 (some 43) (bT 18 15) ?_; refine pureU HT_ 15 (some 44) (bT 18 16) ?_; refine pureU HT_ 16 (some 45) (bT 18 17) ?_; refine pureZ HT_ 17 (some 46) (bT 18 18) ?_; refine done_ (done_of HT_.out Zi) ?_
          try go_wp2
          (try simp only [← hl6_1, ← hl6_2])
          go_roundg k2
          case measure => have := HK1.out; have := HK2.out; omega
          case rel => exact ⟨(x6_2), (wrap64 (x25_1 + 1)), Za, (by (try simp only [hl6_1]); exact H'), ⟨Zaq⟩, ⟨by (try simp only [hl6_1]); (try simp only [hl6_2]); (with_reducible repeat (first | apply Kd.N_alloc | apply Kd.N_drewN | apply Kd.N_drew)); exact HO_6.out⟩, ⟨by (try simp only [hl6_1]); (try simp only [hl6_2]); (with_reducible repeat (first | refine blk_drewN ?_ _ | refine blk_drew ?_ | refine blk_alloc ?_ _)); exact BK354.out⟩, ⟨(Zf GE354)⟩⟩
      ·rw [if_neg c14] at H
       have c14b0 := decide_eq_false c14; clear c14; have H' := am_ H; clear H
       go_wp2
       go_loopg [9, 68] k1 (fun kq v9 v68 w' => ∃ (x9_2 : List (List Int)) (x68_2 : Int), v68 = .int .i64 x68_2 ∧ Aside0 (impl_DarkGaps.l2 kq a1 x6_1 x9_2 x6_1 (x6_1.length : Int) x68_2 = some (r1, r2)) ∧ Aside0 (kq ≤ k1) ∧ Aside0 (Kd.N (Kd.slice 2 (Kd.int .i64)) 47 w' w.heap.size (fun k_ => some k_ ≠ (v9 : Value).ownBlock ∧ k_ ≠ gb354) (.slice Ao13 x6_1.length co13) x6_1) ∧ Aside0 (Kd.S (Kd.slice 2 (Kd.int .i64)) 47 w' w.heap.size (fun k_ => some k_ ≠ ((.slice Ao13 x6_1.length co13) : Value).ownBlock ∧ some k_ ≠ ((.slice Ao13 x6_1.length co13) : Value).ownBlock) v9 x9_2) ∧ Aside0 (Kd.N (Kd.slice 2 (Kd.int .i64)) 47 w' w.heap.size (fun k_ => some k_ ≠ (v9 : Value).ownBlock ∧ k_ ≠ gb354) (.slice Ao13 x6_1.length co13) x6_1) ∧ Aside0 (w'.heap[gb354]? = some (.cells #[(.slice A0_0 l0_0.length c0_0), (.slice A0_1 l0_1.length c0_1), (.slice A0_2 l0_2.length c0_2)] 35 (0, 0))) ∧ Aside0 (Below w.heap.size w w'))
       case atStart => exact ⟨(([] : List (List Int))), (0), Za, H', ⟨Nat.le_refl _⟩, ⟨by (try simp only [hl6_1]); (with_reducible repeat (first | apply Kd.N_alloc | apply Kd.N_drewN | apply Kd.N_drew)); exact Kd.N_mono HO_6.out (fun _ hk => ⟨(by simp [Value.ownBlock]), hk⟩)⟩, ⟨by (try simp only [hl6_1]); first | exact Kd.S_nil _ _ _ _ _ | exact Kd.N_nil _ _ _ _ _ | exact Kd.V_nil _ _ _ _ _ | exact Kd.Q_nil _ _ _ _ _ | exact Kd.R_nil _ _ _ _ _⟩, ⟨by (try simp only [hl6_1]); (with_reducible repeat (first | apply Kd.N_alloc | apply Kd.N_drewN | apply Kd.N_drew)); exact Kd.N_mono HO_6.out (fun _ hk => ⟨(by simp [Value.ownBlock]), hk⟩)⟩, ⟨(Zbk BK354)⟩, ⟨(Zf GE354)⟩⟩
       case round =>
        clear H'
        try clear c1
        try clear c2
        try clear p2
        try clear q2
        try clear hx2
        try clear hf2
        try clear c3
        try clear p3
        try clear q3
        try clear hx3
        try clear qi3
        try clear p6
        try clear c14
        try clear c14b0
        try clear c15
        try clear c15b0
        try clear c17
        try clear c18
        try clear c19
        try clear c20
        try clear c21
        try clear c22
        try clear c23
        try clear c23b0
        try clear c24
        try clear p24
        try clear q24
        try clear hx24
        try clear hf24
        try clear c25
        try clear p25
        try clear q25
        try clear hx25
        try clear hf25
        try clear c28
        try clear c29
        try clear hx24_0
        try clear hx25_0
        try clear hx360_0
        try clear hx361_0
        try clear hx362_0
        try clear hx363_0
        try clear hx364_0
        try clear hx365_0
        try clear p24
        try clear p25
        try clear p360
        try clear p361
        try clear p362
        try clear p363
        try clear p364
        try clear p365
        try clear q24
        try clear q25
        try clear q360
        try clear q361
        try clear q362
        try clear q363
        try clear q364
        try clear q365
        obtain ⟨x9_2, x68_2, rfl, HA, HK2, HO_6, HO_9, HO_66, BK354, HB⟩ := hrel
        cases gk with
        | zero => exact absurd HA.out (by simp [impl_DarkGaps.l2])
        | succ k2 =>
         have H := HA.out; clear HA; simp only [impl_DarkGaps.l2] at H
         by_cases c32 : x68_2 < (x6_1.length : Int)
         ·rw [if_pos c32] at H
          have c32b0 := decide_eq_true c32; clear c32
          by_cases c33 : 0 ≤ x68_2
          ·rw [if_pos c33] at H
           have c33b0 := decide_eq_true c33; clear c33
           by_cases c34 : x68_2 < (x6_1.length : Int)
           ·rw [if_pos c34] at H
            have c34b0 := decide_eq_true c34; clear c34
            by_cases c35 : x68_2 = 0
            ·rw [if_pos c35] at H
             have c35b0 := beq_iff_eq.mpr c35; have c35b1 := bne_eq_false_iff_eq.mpr c35; clear c35; have H' := am_ H; clear H; have p368 : 0 ≤ (x68_2 : Int) := of_decide_eq_true Zn; have q368 : x68_2 < (x6_1.length : Int) := of_decide_eq_true Zn; obtain ⟨ad368, A368_0, c368_0, e368, hx368_0, hl368_0, hi368_0⟩ := at_L5 (Kd.N_reads' HO_66.out).2.2 x68_2 p368 q368
             cases e368
             obtain ⟨ce368, hce368, hMe368, hcc368⟩ := Kd.N_get HO_66.out [] x68_2 p368 (by first | exact q368 | exact of_decide_eq_true Zn | (have e_ := (Kd.N_reads' HO_66.out).1; omega)); obtain ⟨ua368_0, uc368_0, rfl, ul368_0, ge368_0⟩ := Kd.FK_slice_open hMe368; have hv368_0 := hcc368 0 _ rfl; rw [Nat.add_zero, show ((Kd.slice 2 (Kd.int .i64))).sz = 1 from rfl, Nat.mul_one] at hv368_0; replace hv368_0 := Option.some.inj (hv368_0.symm.trans hx368_0); injection hv368_0 with hva_ hvn_ hvc_; rw [hva_] at ge368_0; rw [hvc_] at ul368_0; have HL368_0 := am_ (show Kd.V (Kd.int .i64) 2 _ w.heap.size _ _ (rd_L5 x6_1 x68_2) from Kd.V_mk ul368_0 ge368_0); clear hva_ hvn_ hvc_ ge368_0 ul368_0; clear hcc368 hce368; have HR368_0 := am_ hi368_0; have HC368_0 := am_ hl368_0; clear hi368_0 hl368_0; replace p368 := eq_true p368; replace q368 := eq_true q368
             go_wp2
             go_roundg k2
             case measure => have := HK1.out; have := HK2.out; omega
             case rel => exact ⟨(x9_2), (wrap64 (x68_2 + 1)), Za, H', ⟨Zaq⟩, ⟨(Zbj HO_6)⟩, ⟨(Zbl HO_9)⟩, ⟨(Zbj HO_66)⟩, ⟨(Zbk BK354)⟩, ⟨(Zf GE354)⟩⟩
            ·rw [if_neg c35] at H
             have c35b0 := beq_eq_false_iff_ne.mpr c35; have c35b1 := bne_iff_ne.mpr c35
             by_cases c36 : 0 < (x6_1.length : Int)
             ·rw [if_pos c36] at H
              have c36b0 := decide_eq_true c36; have c36b1 : decide (0 < x6_1.length) = true := decide_eq_true (by omega); clear c36
              by_cases c37 : 1 < ((rd_L5 x6_1 0).length : Int)
              ·rw [if_pos c37] at H
               have c37b0 := decide_eq_true c37; have c37b1 : decide (1 < (rd_L5 x6_1 0).length) = true := decide_eq_true (by omega); clear c37; have c38b0 := eq_true (of_decide_eq_true Zn : 0 ≤ x68_2)
               by_cases c39 : x68_2 ≤ (x6_1.length : Int)
               ·rw [if_pos c39] at H
                have c39b0 := eq_true c39; have c39b1 := decide_eq_true c39; clear c39; obtain ⟨y371, hy371⟩ : ∃ y_ : List (List Int), y_ = (x6_1.take (x68_2 : Int).toNat) := ⟨_, rfl⟩
                (first | (rw [← hy371] at H; with_reducible replace H := bindZ H) | rw [← hy371] at H | skip)
                have Ny371 := am_ hy371; clear hy371; have H' := am_ H; clear H; have p368 : 0 ≤ (x68_2 : Int) := of_decide_eq_true Zn; have q368 : x68_2 < (x6_1.length : Int) := of_decide_eq_true Zn; obtain ⟨ad368, A368_0, c368_0, e368, hx368_0, hl368_0, hi368_0⟩ := at_L5 (Kd.N_reads' HO_66.out).2.2 x68_2 p368 q368
                cases e368
                obtain ⟨ce368, hce368, hMe368, hcc368⟩ := Kd.N_get HO_66.out [] x68_2 p368 (by first | exact q368 | exact of_decide_eq_true Zn | (have e_ := (Kd.N_reads' HO_66.out).1; omega)); obtain ⟨ua368_0, uc368_0, rfl, ul368_0, ge368_0⟩ := Kd.FK_slice_open hMe368; have hv368_0 := hcc368 0 _ rfl; rw [Nat.add_zero, show ((Kd.slice 2 (Kd.int .i64))).sz = 1 from rfl, Nat.mul_one] at hv368_0; replace hv368_0 := Option.some.inj (hv368_0.symm.trans hx368_0); injection hv368_0 with hva_ hvn_ hvc_; rw [hva_] at ge368_0; rw [hvc_] at ul368_0; have HL368_0 := am_ (show Kd.V (Kd.int .i64) 2 _ w.heap.size _ _ (rd_L5 x6_1 x68_2) from Kd.V_mk ul368_0 ge368_0); clear hva_ hvn_ hvc_ ge368_0 ul368_0; clear hcc368 hce368; have HR368_0 := am_ hi368_0; have HC368_0 := am_ hl368_0; clear hi368_0 hl368_0; replace p368 := eq_true p368; replace q368 := eq_true q368; have p369 : 0 ≤ (0 : Int) := (by omega); have q369 : 0 < (x6_1.length : Int) := of_decide_eq_true Zn; obtain ⟨ad369, A369_0, c369_0, e369, hx369_0, hl369_0, hi369_0⟩ := at_L5 (Kd.N_reads' HO_6.out).2.2 0 p369 q369; obtain rfl : ad368 = ad369 := (by injection e369); obtain ⟨ce369, hce369, hMe369, hcc369⟩ := Kd.N_get HO_6.out [] 0 p369 (by first | exact q369 | exact of_decide_eq_true Zn | (have e_ := (Kd.N_reads' HO_6.out).1; omega)); obtain ⟨ua369_0, uc369_0, rfl, ul369_0, ge369_0⟩ := Kd.FK_slice_open hMe369; have hv369_0 := hcc369 0 _ rfl; rw [Nat.add_zero, show ((Kd.slice 2 (Kd.int .i64))).sz = 1 from rfl, Nat.mul_one] at hv369_0; replace hv369_0 := Option.some.inj (hv369_0.symm.trans hx369_0); injection hv369_0 with hva_ hvn_ hvc_; rw [hva_] at ge369_0; rw [hvc_] at ul369_0; have HL369_0 := am_ (show Kd.V (Kd.int .i64) 2 _ w.heap.size _ _ (rd_L5 x6_1 0) from Kd.V_mk ul369_0 ge369_0); clear hva_ hvn_ hvc_ ge369_0 ul369_0; clear hcc369 hce369; have qi369 : (0 < x6_1.length) = True := eq_true (by omega)
                (try rw [show ((0 : Int)).toNat = 0 from rfl] at hx369_0)
                (try rw [Addr.add_zero'] at hx369_0)
                have HR369_0 := am_ hi369_0; have HC369_0 := am_ hl369_0; clear hi369_0 hl369_0; replace p369 := eq_true p369; replace q369 := eq_true q369; have p370 : 0 ≤ (1 : Int) := (by omega); have q370 : 1 < ((rd_L5 x6_1 0).length : Int) := of_decide_eq_true Zn; obtain ⟨ad370, e370, hx370_0⟩ := Kd.at_int (Zar HR369_0) 1 p370 q370
                cases e370
                (try simp only [show (1 : Int).toNat = 1 from rfl, Nat.reduceMul, Nat.reduceEqDiff, Go.Addr.add, ↓reduceIte] at hx370_0)
                have qi370 : (1 < (rd_L5 x6_1 0).length) = True := eq_true (by omega)
                (try rw [show ((1 : Int)).toNat = 1 from rfl] at hx370_0)
                replace p370 := eq_true p370; replace q370 := eq_true q370; have q40 : (x68_2 : Int) ≤ ((x6_1.length : Int) : Int) := of_decide_eq_true Zn; obtain ⟨i040, hi040, _, hsz40, _⟩ := info_parts info47; have hroom40 : x6_1.length ≤ co13 := (Kd.N_reads' HO_6.out).2.1; have hC40 : Kd.F (Kd.slice 2 (Kd.int .i64)) _ _ (some ad368) x6_1.length x6_1 := (Kd.V_at (base := w.heap.size) (Kd.N_V HO_6.out)).2.2; have hcut40 := cut_to (P := Try.prog) 28 47 .i64 Try.underlying28 hi040 (some ad368) x6_1.length co13 x68_2 (of_decide_eq_true Zn) q40 hroom40; have hr40 := Kd.F_take (m := (x68_2 : Int).toNat) hC40 (by omega); have hy40 : y371.length = (x68_2 : Int).toNat := (by rw [Ny371.out, List.length_take]; omega); rw [← Ny371.out] at hr40; rw [← hy40] at hcut40; have HO375 := am_ (show Kd.V (Kd.slice 2 (Kd.int .i64)) 47 _ w.heap.size _ (.slice (some ad368) y371.length co13) y371 from Kd.V_mk (by omega) hr40); have HC375 := am_ (show y371.length ≤ co13 from (by omega)); clear hr40 hC40 hroom40 hi040 hsz40; have KY40 := am_ hy40; clear hy40; replace q40 := eq_true q40
                go_wp2
                go_loopg [12, 84] k2 (fun kq v12 v84 w' => ∃ (x12_3 : Int) (x84_3 : Int), v12 = .int .i64 x12_3 ∧ v84 = .int .i64 x84_3 ∧ Aside0 (impl_DarkGaps.l3 kq a1 x6_1 x9_2 (rd_L5 x6_1 x68_2) x12_3 x6_1 (x6_1.length : Int) x68_2 y371 (y371.length : Int) x84_3 = some (r1, r2)) ∧ Aside0 (kq ≤ k2) ∧ Aside0 (Kd.N (Kd.slice 2 (Kd.int .i64)) 47 w' w.heap.size (fun k_ => some k_ ≠ (u9 : Value).ownBlock ∧ k_ ≠ gb354) (.slice (some ad368) x6_1.length co13) x6_1) ∧ Aside0 (Kd.S (Kd.slice 2 (Kd.int .i64)) 47 w' w.heap.size (fun k_ => some k_ ≠ ((.slice (some ad368) x6_1.length co13) : Value).ownBlock ∧ some k_ ≠ ((.slice (some ad368) x6_1.length co13) : Value).ownBlock) u9 x9_2) ∧ Aside0 (Kd.N (Kd.slice 2 (Kd.int .i64)) 47 w' w.heap.size (fun k_ => some k_ ≠ (u9 : Value).ownBlock ∧ k_ ≠ gb354) (.slice (some ad368) x6_1.length co13) x6_1) ∧ Aside0 (Kd.V (Kd.slice 2 (Kd.int .i64)) 47 w' w.heap.size (fun k_ => some k_ ≠ (u9 : Value).ownBlock ∧ k_ ≠ gb354) (.slice (some ad368) y371.length co13) y371) ∧ Aside0 (w'.heap[gb354]? = some (.cells #[(.slice A0_0 l0_0.length c0_0), (.slice A0_1 l0_1.length c0_1), (.slice A0_2 l0_2.length c0_2)] 35 (0, 0))) ∧ Aside0 (Kd.C (Kd.int .i64) w' A368_0 (rd_L5 x6_1 x68_2).length (rd_L5 x6_1 x68_2)) ∧ Aside0 (Kd.C (Kd.int .i64) w' (some ad370) (rd_L5 x6_1 0).length (rd_L5 x6_1 0)) ∧ Aside0 (Below w.heap.size w w'))
                case atStart => exact ⟨(rd (rd_L5 x6_1 0) 1), (0), Za, Za, H', ⟨Nat.le_refl _⟩, ⟨(Zbj HO_6)⟩, ⟨(Zbl HO_9)⟩, ⟨(Zbj HO_66)⟩, ⟨by (try simp only [hl6_1]); (with_reducible repeat (first | apply Kd.V_alloc | apply Kd.V_drewN | apply Kd.V_drew)); exact HO375.out⟩, ⟨(Zbk BK354)⟩, ⟨(Zar HR368_0)⟩, ⟨(Zar HR369_0)⟩, ⟨(Zf GE354)⟩⟩
                case round =>
                 clear H'
                 try clear c1
                 try clear c2
                 try clear p2
                 try clear q2
                 try clear hx2
                 try clear hf2
                 try clear c3
                 try clear p3
                 try clear q3
                 try clear hx3
                 try clear qi3
                 try clear q4
                 try clear p6
                 try clear c14
                 try clear c14b0
                 try clear c15
                 try clear c15b0
                 try clear c17
                 try clear c18
                 try clear c19
                 try clear c20
                 try clear c21
                 try clear c22
                 try clear c23
                 try clear c23b0
                 try clear c24
                 try clear p24
                 try clear q24
                 try clear hx24
                 try clear hf24
                 try clear c25
                 try clear p25
                 try clear q25
                 try clear hx25
                 try clear hf25
                 try clear c28
                 try clear c29
                 try clear c32
                 try clear c32b0
                 try clear c33
                 try clear c33b0
                 try clear c34
                 try clear c34b0
                 try clear c35
                 try clear c35b0
                 try clear c35b1
                 try clear c36
                 try clear c36b0
                 try clear c36b1
                 try clear p36
                 try clear q36
                 try clear hx36
                 try clear qi36
                 try clear c37
                 try clear c37b0
                 try clear c37b1
                 try clear p37
                 try clear q37
                 try clear hx37
                 try clear qi37
                 try clear c38
                 try clear c38b0
                 try clear c39
                 try clear c39b0
                 try clear c39b1
                 try clear q40
                 try clear hx24_0
                 try clear hx25_0
                 try clear hx360_0
                 try clear hx361_0
                 try clear hx362_0
                 try clear hx363_0
                 try clear hx364_0
                 try clear hx365_0
                 try clear hx368_0
                 try clear hx369_0
                 try clear hx370_0
                 try clear p2
                 try clear p24
                 try clear p25
                 try clear p3
                 try clear p360
                 try clear p361
                 try clear p362
                 try clear p363
                 try clear p364
                 try clear p365
                 try clear p368
                 try clear p369
                 try clear p370
                 try clear p6
                 try clear q2
                 try clear q24
                 try clear q25
                 try clear q3
                 try clear q360
                 try clear q361
                 try clear q362
                 try clear q363
                 try clear q364
                 try clear q365
                 try clear q368
                 try clear q369
                 try clear q370
                 try clear q40
                 obtain ⟨x12_3, x84_3, rfl, rfl, HA, HK3, HO_6, HO_9, HO_66, HO_82, BK354, HR368_0, HR369_0, HB⟩ := hrel
                 cases gk with
                 | zero => exact absurd HA.out (by simp [impl_DarkGaps.l3])
                 | succ k3 =>
                  have H := HA.out; clear HA; simp only [impl_DarkGaps.l3] at H
                  by_cases c41 : x84_3 < (y371.length : Int)
                  ·rw [if_pos c41] at H
                   have c41b0 := decide_eq_true c41; clear c41
                   by_cases c42 : 0 ≤ x84_3
                   ·rw [if_pos c42] at H
                    have c42b0 := decide_eq_true c42; clear c42
                    by_cases c43 : x84_3 < (y371.length : Int)
                    ·rw [if_pos c43] at H
                     have c43b0 := decide_eq_true c43; clear c43
                     by_cases c44 : 1 < ((rd_L5 y371 x84_3).length : Int)
                     ·rw [if_pos c44] at H
                      have c44b0 := decide_eq_true c44; have c44b1 : decide (1 < (rd_L5 y371 x84_3).length) = true := decide_eq_true (by omega); clear c44; obtain ⟨ji45, hji45⟩ : ∃ j_ : Int, (mx x12_3 (rd (rd_L5 y371 x84_3) 1)) = j_ := ⟨_, rfl⟩
                      replace H : (impl_DarkGaps.l3 k3 a1 x6_1 x9_2 (rd_L5 x6_1 x68_2) ji45 x6_1 (x6_1.length : Int) x68_2 y371 (y371.length : Int) (wrap64 (x84_3 + 1))) = some (r1, r2) := by first | (rw [hji45] at H; exact H) | (simp only [hji45] at H ⊢; exact H)
                      have hji45_ : (if x12_3 < (rd (rd_L5 y371 x84_3) 1) then (rd (rd_L5 y371 x84_3) 1) else x12_3) = ji45 := hji45; have H' := am_ H; clear H; have p376 : 0 ≤ (x84_3 : Int) := of_decide_eq_true Zn; have q376 : x84_3 < (y371.length : Int) := of_decide_eq_true Zn; obtain ⟨ad376, A376_0, c376_0, e376, hx376_0, hl376_0, hi376_0⟩ := at_L5 (Kd.V_reads' HO_82.out).2.2 x84_3 p376 q376; obtain rfl : ad368 = ad376 := (by injection e376); obtain ⟨ce376, hce376, hMe376, hcc376⟩ := Kd.V_get HO_82.out [] x84_3 p376 (by first | exact q376 | exact of_decide_eq_true Zn | (have e_ := (Kd.V_reads' HO_82.out).1; omega)); obtain ⟨ua376_0, uc376_0, rfl, ul376_0, ge376_0⟩ := Kd.FK_slice_open hMe376; have hv376_0 := hcc376 0 _ rfl; rw [Nat.add_zero, show ((Kd.slice 2 (Kd.int .i64))).sz = 1 from rfl, Nat.mul_one] at hv376_0; replace hv376_0 := Option.some.inj (hv376_0.symm.trans hx376_0); injection hv376_0 with hva_ hvn_ hvc_; rw [hva_] at ge376_0; rw [hvc_] at ul376_0; have HL376_0 := am_ (show Kd.V (Kd.int .i64) 2 _ w.heap.size _ _ (rd_L5 y371 x84_3) from Kd.V_mk ul376_0 ge376_0); clear hva_ hvn_ hvc_ ge376_0 ul376_0; clear hcc376 hce376; have HR376_0 := am_ hi376_0; have HC376_0 := am_ hl376_0; clear hi376_0 hl376_0; replace p376 := eq_true p376; replace q376 := eq_true q376; have p377 : 0 ≤ (1 : Int) := (by omega); have q377 : 1 < ((rd_L5 y371 x84_3).length : Int) := of_decide_eq_true Zn; obtain ⟨ad377, e377, hx377_0⟩ := Kd.at_int (Zar HR376_0) 1 p377 q377
                      cases e377
                      (try simp only [show (1 : Int).toNat = 1 from rfl, Nat.reduceMul, Nat.reduceEqDiff, Go.Addr.add, ↓reduceIte] at hx377_0)
                      have qi377 : (1 < (rd_L5 y371 x84_3).length) = True := eq_true (by omega)
                      (try rw [show ((1 : Int)).toNat = 1 from rfl] at hx377_0)
                      replace p377 := eq_true p377; replace q377 := eq_true q377
                      go_wp2
                      go_roundg k3
                      case measure => have := HK1.out; have := HK2.out; have := HK3.out; omega
                      case rel => exact ⟨(ji45), (wrap64 (x84_3 + 1)), (by first | rfl | (simp; done) | (simp only [← hji45] <;> (first | rfl | simp)) | (simp [*]; done)), Za, H', ⟨by have := HK1.out; have := HK2.out; have := HK3.out; omega⟩, ⟨(Zbj HO_6)⟩, ⟨(Zbl HO_9)⟩, ⟨(Zbj HO_66)⟩, ⟨by (try simp only [hl6_1]); (with_reducible repeat (first | apply Kd.V_alloc | apply Kd.V_drewN | apply Kd.V_drew)); exact HO_82.out⟩, ⟨(Zbk BK354)⟩, ⟨(Zar HR368_0)⟩, ⟨(Zar HR369_0)⟩, ⟨(Zf GE354)⟩⟩
                     ·rw [if_neg c44] at H
                      exact absurd H (by simp)
                    ·rw [if_neg c43] at H
                     exact absurd H (by simp)
                   ·rw [if_neg c42] at H
                    exact absurd H (by simp)
                  ·rw [if_neg c41] at H
                   have c41b0 := decide_eq_false c41; clear c41
                   by_cases c46 : 0 < ((rd_L5 x6_1 x68_2).length : Int)
                   ·rw [if_pos c46] at H
                    have c46b0 := decide_eq_true c46; have c46b1 : decide (0 < (rd_L5 x6_1 x68_2).length) = true := decide_eq_true (by omega); clear c46
                    by_cases c47 : (wrap64 ((wrap64 ((rd (rd_L5 x6_1 x68_2) 0) - x12_3)) - 1)) ≥ a1
                    ·rw [if_pos c47] at H
                     have c47b0 : decide (a1 ≤ (wrap64 ((wrap64 ((rd (rd_L5 x6_1 x68_2) 0) - x12_3)) - 1))) = true := decide_eq_true c47; clear c47; obtain ⟨y380, hy380⟩ : ∃ y_ : List Int, y_ = (([wrap64 (x12_3 + 1), wrap64 ((rd (rd_L5 x6_1 x68_2) 0) - 1)] : List Int)) := ⟨_, rfl⟩
                     (first | (rw [← hy380] at H; with_reducible replace H := bindZ H) | rw [← hy380] at H | skip)
                     have Ny380 := am_ hy380; clear hy380
                     by_cases c48 : x9_2.length < 5864062014805
                     ·rw [if_pos c48] at H
                      have LMc48 := am_ c48; clear c48; obtain ⟨y383, hy383⟩ : ∃ y_ : List (List Int), y_ = (x9_2 ++ [y380]) := ⟨_, rfl⟩
                      (first | (rw [← hy383] at H; with_reducible replace H := bindZ H) | rw [← hy383] at H | skip)
                      have Ny383 := am_ hy383; clear hy383; have H' := am_ H; clear H; have p378 : 0 ≤ (0 : Int) := (by omega); have q378 : 0 < ((rd_L5 x6_1 x68_2).length : Int) := of_decide_eq_true Zn; obtain ⟨ad378, e378, hx378_0⟩ := Kd.at_int HR368_0.out 0 p378 q378
                      cases e378
                      have qi378 : (0 < (rd_L5 x6_1 x68_2).length) = True := eq_true (by omega)
                      (try rw [show ((0 : Int)).toNat = 0 from rfl] at hx378_0)
                      (try rw [Addr.add_zero'] at hx378_0)
                      replace p378 := eq_true p378; replace q378 := eq_true q378; have p379 : 0 ≤ (0 : Int) := (by omega); have q379 : 0 < ((rd_L5 x6_1 x68_2).length : Int) := of_decide_eq_true Zn; obtain ⟨ad379, e379, hx379_0⟩ := Kd.at_int HR368_0.out 0 p379 q379; obtain rfl : ad378 = ad379 := (by injection e379); have qi379 : (0 < (rd_L5 x6_1 x68_2).length) = True := eq_true (by omega)
                      (try rw [show ((0 : Int)).toNat = 0 from rfl] at hx379_0)
                      (try rw [Addr.add_zero'] at hx379_0)
                      replace p379 := eq_true p379; replace q379 := eq_true q379
                      go_wp2_with (first | ((with_reducible refine gate_dst (N := 109) rfl ?_); refine Kd.R_lit (Kd.int .i64) _ 2 ?hg (N := 109) ?hd (xs := ([wrap64 (x12_3 + 1), wrap64 ((rd (rd_L5 x6_1 x68_2) 0) - 1)] : List Int)) (inner := [.int .i64 (wrap64 (x12_3 + 1)), .int .i64 (wrap64 ((rd (rd_L5 x6_1 x68_2) 0) - 1))]) (ok := fun _ => True) (okp := fun _ => True) ?hr ?hp (fun _ hk => hk) trivial (Below.refl _ _) (Nat.le_refl _) (by simp) ?_; (case hd => rfl); (case hg => rfl); (case hr => first | (go_simp; done) | (go_simp; rfl)); (case hp => exact (Reps.one (show Kd.M (Kd.int .i64) _ _ _ (wrap64 (x12_3 + 1)) [.int .i64 (wrap64 (x12_3 + 1))] from rfl) (Reps.one (show Kd.M (Kd.int .i64) _ _ _ (wrap64 ((rd (rd_L5 x6_1 x68_2) 0) - 1)) [.int .i64 (wrap64 ((rd (rd_L5 x6_1 x68_2) 0) - 1))] from rfl) (Reps.none _ _)))); intro v381 w49 ho50 hb hg_ hnew_; clear hg_ hnew_; (first | rw [← Ny380.out] at ho50 | (simp only [Int.reduceToNat] at ho50; rw [← Ny380.out] at ho50)); replace HO_6 := am_ (Kd.N_elder' (Zap HO_6) (Kd.R_base ho50) hb); replace HO_9 := am_ (Kd.S_elder' (Zam HO_9) (Kd.R_base ho50) hb); replace HO_66 := am_ (Kd.N_elder' (Zap HO_66) (Kd.R_base ho50) hb); replace HO_82 := am_ (Kd.V_elder' (Zay HO_82) (Kd.R_base ho50) hb); replace HO382 := am_ (Kd.R_lower ho50 (below_size (Zf GE354))); replace BK354 := (bkZ BK354 hb); replace HR368_0 := am_ (Kd.C_below (Zar HR368_0) hb); replace HR369_0 := am_ (Kd.C_below (Zar HR369_0) hb); replace HB := (bsZ (Zf GE354) hb); clear hb ho50; obtain ⟨Ao52, co52, eo52⟩ := Kd.R_slice HO382.out; subst eo52) | ((with_reducible refine gate_builtin (b := .append) (xs := #[.tmp 102, .tmp 110]) rfl ?_); at_builtin; refine Kd.S_append (Kd.slice 2 (Kd.int .i64)) (w0 := w) w.heap.size rfl (.tmp 102) (.tmp 110) 28 47 (.slice none 0 0) 24 rfl Try.underlying28 info47 rfl (by decide) (by omega) u9 x9_2 y380 [.slice Ao52 y380.length co52] (fun k_ => some k_ ≠ (.slice (some ad368) x6_1.length co13 : Value).ownBlock ∧ some k_ ≠ (.slice (some ad368) x6_1.length co13 : Value).ownBlock) (fun k_ => some k_ = (.slice Ao52 y380.length co52 : Value).ownBlock) rfl rfl ?aP (fun k_ hk_ => ((Kd.R_mono (ok' := fun k_ => ((fun k_ => some k_ ≠ (.slice (some ad368) x6_1.length co13 : Value).ownBlock ∧ some k_ ≠ (.slice (some ad368) x6_1.length co13 : Value).ownBlock)) k_ ∧ some k_ ≠ (u9 : Value).ownBlock) (Kd.R_apart' (Kd.R_apart' (Kd.R_apart' (HO382.out) (Kd.N_typed HO_6.out) (by decide)) (Kd.N_typed HO_66.out) (by decide)) (Kd.S_typed HO_9.out) (by decide)) (fun k_ hk => ⟨⟨hk.1.1.2, hk.1.2⟩, hk.2⟩))).1 k_ hk_.symm) ?aF ?aO ?aB ?aS ?aL ?_; (case aP => exact Kd.M_row (Kd.R_mono (Kd.R_tight rfl (Kd.R_mono (ok' := fun k_ => ((fun k_ => some k_ ≠ (.slice (some ad368) x6_1.length co13 : Value).ownBlock ∧ some k_ ≠ (.slice (some ad368) x6_1.length co13 : Value).ownBlock)) k_ ∧ some k_ ≠ (u9 : Value).ownBlock) (Kd.R_apart' (Kd.R_apart' (Kd.R_apart' (HO382.out) (Kd.N_typed HO_6.out) (by decide)) (Kd.N_typed HO_66.out) (by decide)) (Kd.S_typed HO_9.out) (by decide)) (fun k_ hk => ⟨⟨hk.1.1.2, hk.1.2⟩, hk.2⟩))) (fun _ h_ => h_))); (case aB => exact (Zf GE354)); (case aF => exact (fun k_ hk => ⟨Kd.fresh' (Kd.N_lt (Zap HO_6)) k_ hk, Kd.fresh' (Kd.N_lt (Zap HO_66)) k_ hk⟩)); (case aO => exact (by (with_reducible repeat (first | apply Kd.S_alloc | apply Kd.S_drewN | apply Kd.S_drew)); exact Kd.S_mono HO_9.out (fun k_ hk => ⟨⟨hk.1.1, hk.1.2⟩, fun e_ => hk.2 e_⟩))); (case aS => exact (below_size (Zf GE354))); (case aL => have := LMc48.out; omega); intro v384 w51 ho hb hg hat; rw [← Ny383.out] at ho; replace HO_6 := am_ (Kd.N_afterv (ok := (fun k_ => some k_ ≠ (.slice Ao52 y380.length co52 : Value).ownBlock ∧ k_ ≠ gb354)) (by (with_reducible repeat (first | apply Kd.N_alloc | apply Kd.N_drewN | apply Kd.N_drew)); exact Kd.N_mono HO_6.out (fun _ hk => ⟨⟨hk.2, hk.1.2⟩, hk.1.1⟩)) hg hat); replace HO_66 := am_ (Kd.N_afterv (ok := (fun k_ => some k_ ≠ (.slice Ao52 y380.length co52 : Value).ownBlock ∧ k_ ≠ gb354)) (by (with_reducible repeat (first | apply Kd.N_alloc | apply Kd.N_drewN | apply Kd.N_drew)); exact Kd.N_mono HO_66.out (fun _ hk => ⟨⟨hk.2, hk.1.2⟩, hk.1.1⟩)) hg hat); replace HO_82 := am_ (Kd.V_afterv (ok := (fun k_ => some k_ ≠ (.slice Ao52 y380.length co52 : Value).ownBlock ∧ k_ ≠ gb354)) (by (with_reducible repeat (first | apply Kd.V_alloc | apply Kd.V_drewN | apply Kd.V_drew)); exact Kd.V_mono HO_82.out (fun _ hk => ⟨⟨hk.2, hk.1.2⟩, hk.1.1⟩)) hg hat); replace BK354 := am_ (blk_grown (g := gb354) (b0Z BK354) hg (Kd.S_ne HO_9.out BK354.out (by decide))); replace HB := am_ (hb); replace HO385 := am_ (ho); clear HO_9 HO382; clear ho hb hg hat))
                      go_roundg k3
                      case measure => have := HK1.out; have := HK2.out; have := HK3.out; omega
                      case rel => exact ⟨(y383), (wrap64 (x68_2 + 1)), Za, H', ⟨by have := HK1.out; have := HK2.out; have := HK3.out; omega⟩, ⟨by (try simp only [hl6_1]); (with_reducible repeat (first | apply Kd.N_alloc | apply Kd.N_drewN | apply Kd.N_drew)); exact Kd.N_mono HO_6.out (fun _ hk => ⟨hk.2, hk.1.2⟩)⟩, ⟨(Zbj HO385)⟩, ⟨by (try simp only [hl6_1]); (with_reducible repeat (first | apply Kd.N_alloc | apply Kd.N_drewN | apply Kd.N_drew)); exact Kd.N_mono HO_66.out (fun _ hk => ⟨hk.2, hk.1.2⟩)⟩, ⟨(Zbk BK354)⟩, ⟨(Zf GE354)⟩⟩
                     ·rw [if_neg c48] at H
                      exact absurd H (by simp)
                    ·rw [if_neg c47] at H
                     have c47b0 : decide (a1 ≤ (wrap64 ((wrap64 ((rd (rd_L5 x6_1 x68_2) 0) - x12_3)) - 1))) = false := decide_eq_false c47; clear c47; have H' := am_ H; clear H; have p378 : 0 ≤ (0 : Int) := (by omega); have q378 : 0 < ((rd_L5 x6_1 x68_2).length : Int) := of_decide_eq_true Zn; obtain ⟨ad378, e378, hx378_0⟩ := Kd.at_int HR368_0.out 0 p378 q378
                     cases e378
                     have qi378 : (0 < (rd_L5 x6_1 x68_2).length) = True := eq_true (by omega)
                     (try rw [show ((0 : Int)).toNat = 0 from rfl] at hx378_0)
                     (try rw [Addr.add_zero'] at hx378_0)
                     replace p378 := eq_true p378; replace q378 := eq_true q378
                     go_wp2
                     go_roundg k3
                     case measure => have := HK1.out; have := HK2.out; have := HK3.out; omega
                     case rel => exact ⟨(x9_2), (wrap64 (x68_2 + 1)), Za, H', ⟨by have := HK1.out; have := HK2.out; have := HK3.out; omega⟩, ⟨(Zbj HO_6)⟩, ⟨(Zbl HO_9)⟩, ⟨(Zbj HO_66)⟩, ⟨(Zbk BK354)⟩, ⟨(Zf GE354)⟩⟩
                   ·rw [if_neg c46] at H
                    exact absurd H (by simp)
               ·rw [if_neg c39] at H
                exact absurd H (by simp)
              ·rw [if_neg c37] at H
               exact absurd H (by simp)
             ·rw [if_neg c36] at H
              exact absurd H (by simp)
           ·rw [if_neg c34] at H
            exact absurd H (by simp)
          ·rw [if_neg c33] at H
           exact absurd H (by simp)
         ·rw [if_neg c32] at H
          have c32b0 := decide_eq_false c32; clear c32; simp only [Option.some.injEq, Prod.mk.injEq] at H; obtain ⟨rfl, rfl⟩ := H
          go_wp2
          go_ret2
          exact ⟨_, Zj, (Zao HO_9), (Zf GE354)⟩
   ·have H := HS_.out
    clear HS_; replace c6 := Bool.eq_false_iff.mpr c6; subst c6; rw [if_neg (show ¬ (false = true) by decide)] at H; simp only [Option.some.injEq, Prod.mk.injEq] at H; obtain ⟨rfl, rfl⟩ := H
    go_wp2_with (first | ((with_reducible refine gate_callee (f := 31) rfl ?_); refine gZ 19 Try.func31 #[.int .i64 a1, .int .i64 1, .int .i64 10000000] ?_; (with_reducible refine (impl_within.calls a1 1 10000000 false _ A5.out).mono ?_); rintro e w' ⟨rfl, ⟨nd, rfl⟩⟩; refine ⟨_, rfl, ?_⟩))
    go_ret2
    exact ⟨_, Zj, Zbd, (Zf GE354)⟩
  ·have H := HS_.out
   clear HS_; replace c4 := Bool.eq_false_iff.mpr c4; subst c4; rw [if_neg (show ¬ (false = true) by decide)] at H; simp only [Option.some.injEq, Prod.mk.injEq] at H; obtain ⟨rfl, rfl⟩ := H
   go_wp2_with (first | fail)
   go_ret2
   exact ⟨_, Zj, Zbd, (Zf GE354)⟩
end Go.Proofs.Ytnifblnlpepehaa.F
namespace Go.Proofs.Ytnifblnlpepehaa.F
open Go.RowKit Go.Proofs.YtnifblnlpepehaaW.PrintWords Go.Proofs.YtnifblnlpepehaaW.PrintLast Go.Proofs.YtnifblnlpepehaaW.PrintMore
set_option linter.unusedVariables false
set_option linter.unusedSimpArgs false
structure Ok_FnExactDarkGaps (k : Nat) (l0_0 : List S89) (l0_1 : List S74) (l0_2 : List S77) (a1 : Int) (L0_0 : List S87) (M0_0 : List S87) (t0_0 : Int) (L0_1 : List S91) (M0_1 : List S91) (t0_1 : Int) (L0_2 : List S80) (M0_2 : List S80) (t0_2 : Int) (q1 : List (List Int)) (q2 : Int) (k1 : Int) (M0_0k : List (S87)) (M0_1k : List (S91)) (M0_2k : List (S80)) (m1 : Int) (q1k : List (List Int)) : Prop where
 ne0_0 : L0_0 ≠ []
 tk0_0 : M0_0 = L0_0.take l0_0.length ∧ l0_0.length ≤ L0_0.length
 ln0_0 : M0_0.length = l0_0.length
 rm0_0 : laws_roomBehind.f (M0_0.length : Int) = some t0_0
 jn0_0 : wrap64 ((M0_0.length : Int) + t0_0) = (L0_0.length : Int)
 eq0_0 : laws_eqBarS.f k L0_0 L0_0 = some true
 ne0_1 : L0_1 ≠ []
 tk0_1 : M0_1 = L0_1.take l0_1.length ∧ l0_1.length ≤ L0_1.length
 ln0_1 : M0_1.length = l0_1.length
 rm0_1 : laws_roomBehind.f (M0_1.length : Int) = some t0_1
 jn0_1 : wrap64 ((M0_1.length : Int) + t0_1) = (L0_1.length : Int)
 eq0_1 : laws_eqArticleS.f k L0_1 L0_1 = some true
 ne0_2 : L0_2 ≠ []
 tk0_2 : M0_2 = L0_2.take l0_2.length ∧ l0_2.length ≤ L0_2.length
 ln0_2 : M0_2.length = l0_2.length
 rm0_2 : laws_roomBehind.f (M0_2.length : Int) = some t0_2
 jn0_2 : wrap64 ((M0_2.length : Int) + t0_2) = (L0_2.length : Int)
 eq0_2 : laws_eqCueS.f k L0_2 L0_2 = some true
 fu0 : full_toShow.f k l0_0 l0_1 l0_2 false = some (L0_0, L0_1, L0_2)
 to0 : laws_toShow.f k l0_0 l0_1 l0_2 true = some (M0_0, M0_1, M0_2)
 sp : spec_DarkGaps.f k M0_0 M0_1 M0_2 a1 = some (q1, q2)
 im : impl_DarkGaps.f k M0_0 M0_1 M0_2 a1 = some (q1, q2)
 er : laws_eqInt64SS.f k q1 q1 = some true
 mk1 : laws_markShow.f k M0_0 M0_1 M0_2 101 = some (k1, M0_0k, M0_1k, M0_2k)
 mk10 : 0 ≤ k1
 mg : laws_markInt64SS.f k q1 101 = some (m1, q1k)
 mg0 : 0 ≤ m1
 hd : laws_heldInt64SS.f k q1k 101 = some m1
 hl : q1k.length = q1.length
def Law_FnExactDarkGaps (k : Nat) (l0_0 : List S89) (l0_1 : List S74) (l0_2 : List S77) (a1 : Int) : Prop := ∃ s1 : Int, laws_szShow.f k l0_0 l0_1 l0_2 1000000 = some s1 ∧ (s1 < 0 ∨ (0 ≤ s1 ∧ ∃ (L0_0 : List S87) (M0_0 : List S87) (t0_0 : Int) (L0_1 : List S91) (M0_1 : List S91) (t0_1 : Int) (L0_2 : List S80) (M0_2 : List S80) (t0_2 : Int) (q1 : List (List Int)) (q2 : Int) (k1 : Int) (M0_0k : List (S87)) (M0_1k : List (S91)) (M0_2k : List (S80)) (m1 : Int) (q1k : List (List Int)), Ok_FnExactDarkGaps k l0_0 l0_1 l0_2 a1 L0_0 M0_0 t0_0 L0_1 M0_1 t0_1 L0_2 M0_2 t0_2 q1 q2 k1 M0_0k M0_1k M0_2k m1 q1k))
def Pure_FnExactDarkGaps : Prop := ∀ (l0_0 : List S89) (l0_1 : List S74) (l0_2 : List S77) (a1 : Int), l0_0.length ≤ maxLen → (∀ x ∈ l0_0, Pr89 x) → l0_1.length ≤ maxLen → (∀ x ∈ l0_1, Pr74 x) → l0_2.length ≤ maxLen → (∀ x ∈ l0_2, Pr77 x) → I64 a1 → ∃ k, Law_FnExactDarkGaps k l0_0 l0_1 l0_2 a1
def law_FnExactDarkGaps.T : Bool × List (List Nat × List Nat) := (true, [([], []), ([], []), ([1], [1]), ([0, 2, 2], [0, 2]), ([3], [3])])
def law_FnExactDarkGaps.B : List Nat := [0, 0, 2, 7, 15]
theorem law_FnExactDarkGaps.tab : rtab .any (opsOf Try.f3 10) = law_FnExactDarkGaps.T := by kernel_rfl
theorem law_FnExactDarkGaps.bits : waitsOk law_FnExactDarkGaps.T.2 law_FnExactDarkGaps.B = true := by kernel_rfl
set_option maxHeartbeats 8000000 in
set_option maxRecDepth 100000 in
theorem law_FnExactDarkGaps (k : Nat) (A0_0 : Option Addr) (c0_0 : Nat) (l0_0 : List S89) (A0_1 : Option Addr) (c0_1 : Nat) (l0_1 : List S74) (A0_2 : Option Addr) (c0_2 : Nat) (l0_2 : List S77) (a1 : Int) (w : World) (hr0_0 : Kd.C k89 w A0_0 l0_0.length l0_0) (hc0_0 : l0_0.length ≤ c0_0) (hr0_1 : Kd.C k74 w A0_1 l0_1.length l0_1) (hc0_1 : l0_1.length ≤ c0_1) (hr0_2 : Kd.C k77 w A0_2 l0_2.length l0_2) (hc0_2 : l0_2.length ≤ c0_2) (h : Law_FnExactDarkGaps k l0_0 l0_1 l0_2 a1) :
  Calls Try.prog 3 #[.agg #[.slice A0_0 l0_0.length c0_0, .slice A0_1 l0_1.length c0_1, .slice A0_2 l0_2.length c0_2], .int .i64 a1] w fun e w' => e = .returned (.bool true) ∧ Below w.heap.size w w' := by
 have HR0_0 := am_ hr0_0; have HC0_0 := am_ hc0_0; clear hr0_0 hc0_0; have HR0_1 := am_ hr0_1; have HC0_1 := am_ hc0_1; clear hr0_1 hc0_1; have HR0_2 := am_ hr0_2; have HC0_2 := am_ hc0_2; clear hr0_2 hc0_2; have HB := am_ (Below.refl w.heap.size w); obtain ⟨s1, hs_, h⟩ := h; have HS1 := am_ hs_; clear hs_
 rcases h with h | ⟨h', h⟩
 ·have f_ : decide (s1 < 0) = true := decide_eq_true h
  clear h
  go_enter Try.func3, Try.ntmps3
  go_wp2_with (first | ((with_reducible refine gate_dst (N := 2) rfl ?_); refine boxZ 2 #[.slice A0_0 l0_0.length c0_0, .slice A0_1 l0_1.length c0_1, .slice A0_2 l0_2.length c0_2] 26 ?_; intro g_0 hg w1 hbox hb; have nk_ := am_ hbox; have ne_ := am_ (Zc : w.heap.size ≤ g_0); have OB0 := am_ (Zaf : w.heap.size ≤ g_0); clear hbox hg; replace HB := (bsZ Zd hb); clear hb; have BK0 := nk_; have GE0 := ne_; clear nk_ ne_; obtain ⟨hcz1_0, hcz1_1, hcz1_2, hfz1_0, hfz1_1, hfz1_2⟩ := cz3 BK0) | ((with_reducible refine gate_callee (f := 5) rfl ?_); (try (refine gate_guard (by rfl) ?_; dsimp only)); refine gZ 18 Try.func5 #[.agg #[.slice A0_0 l0_0.length c0_0, .slice A0_1 l0_1.length c0_1, .slice A0_2 l0_2.length c0_2], .int .i64 1000000] ?_; (with_reducible refine (laws_szShow.calls k _ _ l0_0 _ _ l0_1 _ _ l0_2 1000000 s1 _ (Kd.C_below HR0_0.out Zd) HC0_0.out (Kd.C_below HR0_1.out Zd) HC0_1.out (Kd.C_below HR0_2.out Zd) HC0_2.out HS1.out).mono ?_); rintro e w1 ⟨rfl, hb⟩; refine ⟨_, rfl, ?_⟩; replace HB := (bsZ Zd hb); replace BK0 := am_ (blk_below (g := g_0) (b0Z BK0) hb); clear hb; obtain ⟨hcz2_0, hcz2_1, hcz2_2, hfz2_0, hfz2_1, hfz2_2⟩ := cz3 BK0))
  go_ret
  exact ⟨rfl, Zd⟩
 have fs1 : decide (s1 < 0) = false := decide_eq_false (by omega); clear h'; obtain ⟨L0_0, M0_0, t0_0, L0_1, M0_1, t0_1, L0_2, M0_2, t0_2, q1, q2, k1, M0_0k, M0_1k, M0_2k, m1, q1k, h⟩ := h; have HF := am_ h; clear h
 have f1q2 : (q2 != q2) = false := by simp
 have f2q2 : (q2 == q2) = true := by simp
 have fnk1 : decide (k1 < 0) = false := decide_eq_false (by have := HF.out.mk10; omega); have fnm1 : decide (m1 < 0) = false := decide_eq_false (by have := HF.out.mg0; omega)
 have f1m1 : (m1 != m1) = false := by simp
 have f2m1 : (m1 == m1) = true := by simp
 go_enter Try.func3, Try.ntmps3
 go_wp2_with (first | ((with_reducible refine gate_dst (N := 2) rfl ?_); refine boxZ 2 #[.slice A0_0 l0_0.length c0_0, .slice A0_1 l0_1.length c0_1, .slice A0_2 l0_2.length c0_2] 26 ?_; intro g_0 hg w1 hbox hb; have nk_ := am_ hbox; have ne_ := am_ (Zc : w.heap.size ≤ g_0); have OB0 := am_ (Zaf : w.heap.size ≤ g_0); clear hbox hg; replace HB := (bsZ Zd hb); clear hb; have BK0 := nk_; have GE0 := ne_; clear nk_ ne_; obtain ⟨hcz1_0, hcz1_1, hcz1_2, hfz1_0, hfz1_1, hfz1_2⟩ := cz3 BK0) | ((with_reducible refine gate_callee (f := 5) rfl ?_); (try (refine gate_guard (by rfl) ?_; dsimp only)); refine gZ 18 Try.func5 #[.agg #[.slice A0_0 l0_0.length c0_0, .slice A0_1 l0_1.length c0_1, .slice A0_2 l0_2.length c0_2], .int .i64 1000000] ?_; (with_reducible refine (laws_szShow.calls k _ _ l0_0 _ _ l0_1 _ _ l0_2 1000000 s1 _ (Kd.C_below HR0_0.out Zd) HC0_0.out (Kd.C_below HR0_1.out Zd) HC0_1.out (Kd.C_below HR0_2.out Zd) HC0_2.out HS1.out).mono ?_); rintro e w1 ⟨rfl, hb⟩; refine ⟨_, rfl, ?_⟩; replace HB := (bsZ Zd hb); replace BK0 := am_ (blk_below (g := g_0) (b0Z BK0) hb); clear hb; obtain ⟨hcz2_0, hcz2_1, hcz2_2, hfz2_0, hfz2_1, hfz2_2⟩ := cz3 BK0) | ((with_reducible refine gate_callee (f := 7) rfl ?_); (try (refine gate_guard (by rfl) ?_; dsimp only)); refine gZ 23 Try.func7 #[.agg #[.slice A0_0 l0_0.length c0_0, .slice A0_1 l0_1.length c0_1, .slice A0_2 l0_2.length c0_2], .bool false] ?_; (with_reducible refine (full_toShow.calls k _ _ l0_0 _ _ l0_1 _ _ l0_2 false L0_0 L0_1 L0_2 _ (Kd.C_below HR0_0.out Zd) HC0_0.out (Kd.C_below HR0_1.out Zd) HC0_1.out (Kd.C_below HR0_2.out Zd) HC0_2.out HF.out.fu0 HF.out.ne0_0 HF.out.ne0_1 HF.out.ne0_2).mono ?_); rintro e w1 ⟨a_1, b_1, a_2, b_2, a_3, b_3, he_, ho0, ho1, ho2, hb⟩; rw [← HF.out.ln0_0, ← HF.out.ln0_1, ← HF.out.ln0_2] at he_; subst he_; refine ⟨_, rfl, ?_⟩; obtain ⟨lo1, hi1, hx0_, hx1_, hx2_, ha_, hz_, _⟩ := Ob_mk3 (base := w.heap.size) ho0 ho1 ho2 hb (below_le Zd) (Nat.succ_le_of_lt (blk_lt (b0Z BK0))); have X1 := am_ hx0_; have X2 := am_ hx1_; have X3 := am_ hx2_; have OX1 := am_ (And.intro ha_ hz_); clear hx0_ hx1_ hx2_ ha_ hz_ ho0 ho1 ho2; replace HB := (bsZ Zd hb); replace BK0 := am_ (blk_below (g := g_0) (b0Z BK0) hb); clear hb; refine ci3 BK0 ?_; intros) | ((with_reducible refine gate_callee (f := 6) rfl ?_); (try (refine gate_guard (by rfl) ?_; dsimp only)); refine gZ 25 Try.func6 #[.agg #[.slice a_1 M0_0.length b_1, .slice a_2 M0_1.length b_2, .slice a_3 M0_2.length b_3], .int .i64 a1] ?_; (with_reducible refine (spec_DarkGaps.calls k _ _ M0_0 _ _ M0_1 _ _ M0_2 a1 q1 q2 _ (fullC (Zbm X1) HF.out.tk0_0).1 (fullC X1.out HF.out.tk0_0).2.1 (fullC (Zbm X2) HF.out.tk0_1).1 (fullC X2.out HF.out.tk0_1).2.1 (fullC (Zbm X3) HF.out.tk0_2).1 (fullC X3.out HF.out.tk0_2).2.1 HF.out.sp).mono ?_); rintro e w1 ⟨v0_, rfl, ho0, hb⟩; refine ⟨_, rfl, ?_⟩; obtain ⟨lo4, hi4, hx_, ha_, hz_, _⟩ := ObN_mk (base := w.heap.size) ho0 hb (below_le Zd) (Ob_hi (Zbm X1)); have X4 := am_ hx_; have OX4 := am_ (And.intro ha_ hz_); clear hx_ ha_ hz_ ho0; replace X1 := am_ (Ob_below (Zbm X1) hb); replace X2 := am_ (Ob_below (Zbm X2) hb); replace X3 := am_ (Ob_below (Zbm X3) hb); replace HB := (bsZ Zd hb); replace BK0 := am_ (blk_below (g := g_0) (b0Z BK0) hb); clear hb; refine ci3 BK0 ?_; intros; obtain ⟨a_4, b_4, e_⟩ := ObN_slice X4.out; subst e_) | ((with_reducible refine gate_callee (f := 7) rfl ?_); (try (refine gate_guard (by rfl) ?_; dsimp only)); refine gZ 29 Try.func7 #[.agg #[.slice A0_0 l0_0.length c0_0, .slice A0_1 l0_1.length c0_1, .slice A0_2 l0_2.length c0_2], .bool false] ?_; (with_reducible refine (full_toShow.calls k _ _ l0_0 _ _ l0_1 _ _ l0_2 false L0_0 L0_1 L0_2 _ (Kd.C_below HR0_0.out Zd) HC0_0.out (Kd.C_below HR0_1.out Zd) HC0_1.out (Kd.C_below HR0_2.out Zd) HC0_2.out HF.out.fu0 HF.out.ne0_0 HF.out.ne0_1 HF.out.ne0_2).mono ?_); rintro e w1 ⟨a_5, b_5, a_6, b_6, a_7, b_7, he_, ho0, ho1, ho2, hb⟩; rw [← HF.out.ln0_0, ← HF.out.ln0_1, ← HF.out.ln0_2] at he_; subst he_; refine ⟨_, rfl, ?_⟩; obtain ⟨lo5, hi5, hx0_, hx1_, hx2_, ha_, hz_, _⟩ := Ob_mk3 (base := w.heap.size) ho0 ho1 ho2 hb (below_le Zd) (ObN_hi (Zbn X4)); have X5 := am_ hx0_; have X6 := am_ hx1_; have X7 := am_ hx2_; have OX5 := am_ (And.intro ha_ hz_); clear hx0_ hx1_ hx2_ ha_ hz_ ho0 ho1 ho2; replace X1 := am_ (Ob_below (Zbm X1) hb); replace X2 := am_ (Ob_below (Zbm X2) hb); replace X3 := am_ (Ob_below (Zbm X3) hb); replace X4 := am_ (ObN_below (Zbn X4) hb); replace HB := (bsZ Zd hb); replace BK0 := am_ (blk_below (g := g_0) (b0Z BK0) hb); clear hb; refine ci3 BK0 ?_; intros) | ((with_reducible refine gate_dst (N := 8) rfl ?_); refine boxZ 8 #[.slice none 0 0, .slice none 0 0, .slice none 0 0] 35 ?_; intro g_91 hg w1 hbox hb; have nk_ := am_ hbox; have ne_ := am_ (Zc : w.heap.size ≤ g_91); have OB91 := am_ (by rw [hg]; exact (Ob_hi (Zbm X5)) : hi5 ≤ g_91); clear hbox hg; replace X1 := am_ (Ob_below (Zbm X1) hb); replace X2 := am_ (Ob_below (Zbm X2) hb); replace X3 := am_ (Ob_below (Zbm X3) hb); replace X4 := am_ (ObN_below (Zbn X4) hb); replace X5 := am_ (Ob_below (Zbm X5) hb); replace X6 := am_ (Ob_below (Zbm X6) hb); replace X7 := am_ (Ob_below (Zbm X7) hb); replace HB := (bsZ Zd hb); replace BK0 := am_ (blk_below (g := g_0) (b0Z BK0) hb); clear hb; refine ci3 BK0 ?_; intros; have BK91 := nk_; have GE91 := ne_; clear nk_ ne_; skip) | ((with_reducible refine gate_store (t := 35) (p := 8) rfl ?_); obtain ⟨hcz7_0, hcz7_1, hcz7_2, hfz7_0, hfz7_1, hfz7_2⟩ := cz3 BK91; refine store_event (t := 35) (p := 8) (v := ?vo7) (w1 := (((w1.setCell ⟨g_91, 0, none⟩ (.slice a_5 M0_0.length b_5)).setCell ⟨g_91, 1, none⟩ (.slice a_6 M0_1.length b_6)).setCell ⟨g_91, 2, none⟩ (.slice a_7 M0_2.length b_7))) ?hg ?ho ?hn ?hr ?_; (case ho => rfl); (case hg => rfl); (case hn => rfl); (case hr => first | (go_simp; done) | (go_simp; rfl)); intro w2 hw; clear hcz7_0 hfz7_0 hcz7_1 hfz7_1 hcz7_2 hfz7_2; have n0_ := am_ (Ob_set (g := g_91) (j := 2) (Ob_set (g := g_91) (j := 1) (Ob_set (g := g_91) (j := 0) (X1.out) Zbo (.slice a_5 M0_0.length b_5)) Zbo (.slice a_6 M0_1.length b_6)) Zbo (.slice a_7 M0_2.length b_7)); rw [← hw] at n0_; have n1_ := am_ (Ob_set (g := g_91) (j := 2) (Ob_set (g := g_91) (j := 1) (Ob_set (g := g_91) (j := 0) (X2.out) Zbo (.slice a_5 M0_0.length b_5)) Zbo (.slice a_6 M0_1.length b_6)) Zbo (.slice a_7 M0_2.length b_7)); rw [← hw] at n1_; have n2_ := am_ (Ob_set (g := g_91) (j := 2) (Ob_set (g := g_91) (j := 1) (Ob_set (g := g_91) (j := 0) (X3.out) Zbo (.slice a_5 M0_0.length b_5)) Zbo (.slice a_6 M0_1.length b_6)) Zbo (.slice a_7 M0_2.length b_7)); rw [← hw] at n2_; have n3_ := am_ (ObN_set (g := g_91) (j := 2) (ObN_set (g := g_91) (j := 1) (ObN_set (g := g_91) (j := 0) (X4.out) Zbo (.slice a_5 M0_0.length b_5)) Zbo (.slice a_6 M0_1.length b_6)) Zbo (.slice a_7 M0_2.length b_7)); rw [← hw] at n3_; have n4_ := am_ (Ob_set (g := g_91) (j := 2) (Ob_set (g := g_91) (j := 1) (Ob_set (g := g_91) (j := 0) (X5.out) Zbo (.slice a_5 M0_0.length b_5)) Zbo (.slice a_6 M0_1.length b_6)) Zbo (.slice a_7 M0_2.length b_7)); rw [← hw] at n4_; have n5_ := am_ (Ob_set (g := g_91) (j := 2) (Ob_set (g := g_91) (j := 1) (Ob_set (g := g_91) (j := 0) (X6.out) Zbo (.slice a_5 M0_0.length b_5)) Zbo (.slice a_6 M0_1.length b_6)) Zbo (.slice a_7 M0_2.length b_7)); rw [← hw] at n5_; have n6_ := am_ (Ob_set (g := g_91) (j := 2) (Ob_set (g := g_91) (j := 1) (Ob_set (g := g_91) (j := 0) (X7.out) Zbo (.slice a_5 M0_0.length b_5)) Zbo (.slice a_6 M0_1.length b_6)) Zbo (.slice a_7 M0_2.length b_7)); rw [← hw] at n6_; have nb_ : Aside0 (Below w.heap.size w w2) := ⟨by rw [hw]; exact below_set (below_set (below_set (HB.out) GE91.out) GE91.out) GE91.out⟩; have nk0_ : Aside0 (w2.heap[g_0]? = some (.cells #[.slice A0_0 l0_0.length c0_0, .slice A0_1 l0_1.length c0_1, .slice A0_2 l0_2.length c0_2] 26 (0, 0))) := ⟨by rw [hw]; exact blk_far (blk_far (blk_far (BK0.out) (show g_0 ≠ g_91 from Zbo) _) (show g_0 ≠ g_91 from Zbo) _) (show g_0 ≠ g_91 from Zbo) _⟩; have nk91_ : Aside0 (w2.heap[g_91]? = some (.cells #[.slice a_5 M0_0.length b_5, .slice a_6 M0_1.length b_6, .slice a_7 M0_2.length b_7] 35 (0, 0))) := ⟨by rw [hw]; exact blk_put (cs := #[.slice a_5 M0_0.length b_5, .slice a_6 M0_1.length b_6, .slice none 0 0]) (blk_put (cs := #[.slice a_5 M0_0.length b_5, .slice none 0 0, .slice none 0 0]) (blk_put (cs := #[.slice none 0 0, .slice none 0 0, .slice none 0 0]) (BK91.out) 0 _ rfl) 1 _ rfl) 2 _ rfl⟩; clear X1; clear X2; clear X3; clear X4; clear X5; clear X6; clear X7; clear HB; have X1 := n0_; clear n0_; have X2 := n1_; clear n1_; have X3 := n2_; clear n2_; have X4 := n3_; clear n3_; have X5 := n4_; clear n4_; have X6 := n5_; clear n5_; have X7 := n6_; clear n6_; have HB := nb_; clear nb_ hw; clear BK0; have BK0 := nk0_; clear nk0_; clear BK91; have BK91 := nk91_; clear nk91_; refine ci3 BK0 ?_; intros; refine ci3 BK91 ?_; intros) | ((with_reducible refine gate_callee (f := 8) rfl ?_); (try (refine gate_guard (by rfl) ?_; dsimp only)); refine gZ 33 Try.func8 #[.agg #[.slice a_5 M0_0.length b_5, .slice a_6 M0_1.length b_6, .slice a_7 M0_2.length b_7], .int .i64 a1] ?_; (with_reducible refine (impl_DarkGaps.calls k _ _ M0_0 _ _ M0_1 _ _ M0_2 a1 q1 q2 _ (fullC (Zbm X5) HF.out.tk0_0).1 (fullC X5.out HF.out.tk0_0).2.1 (fullC (Zbm X6) HF.out.tk0_1).1 (fullC X6.out HF.out.tk0_1).2.1 (fullC (Zbm X7) HF.out.tk0_2).1 (fullC X7.out HF.out.tk0_2).2.1 HF.out.im).mono ?_); rintro e w1 ⟨v0_, rfl, ho0, hb⟩; refine ⟨_, rfl, ?_⟩; obtain ⟨lo8, hi8, hx_, ha_, hz_, _⟩ := ObS_mk (base := w.heap.size) ho0 hb (below_le Zd) (Nat.succ_le_of_lt (blk_lt (b0Z BK91))); have X8 := am_ hx_; have OX8 := am_ (And.intro ha_ hz_); clear hx_ ha_ hz_ ho0; replace X1 := am_ (Ob_below (Zbm X1) hb); replace X2 := am_ (Ob_below (Zbm X2) hb); replace X3 := am_ (Ob_below (Zbm X3) hb); replace X4 := am_ (ObN_below (Zbn X4) hb); replace X5 := am_ (Ob_below (Zbm X5) hb); replace X6 := am_ (Ob_below (Zbm X6) hb); replace X7 := am_ (Ob_below (Zbm X7) hb); replace HB := (bsZ Zd hb); replace BK0 := am_ (blk_below (g := g_0) (b0Z BK0) hb); replace BK91 := am_ (blk_below (g := g_91) (b0Z BK91) hb); clear hb; refine ci3 BK0 ?_; intros; refine ci3 BK91 ?_; intros; obtain ⟨a_8, b_8, e_⟩ := ObS_slice X8.out; subst e_) | ((with_reducible refine gate_callee (f := 9) rfl ?_); (try (refine gate_guard (by rfl) ?_; dsimp only)); refine gZ 38 Try.func9 #[.slice a_8 q1.length b_8, .slice a_4 q1.length b_4] ?_; (with_reducible refine (laws_eqInt64SS.calls k _ _ q1 _ _ q1 true _ (ObS_C (Zbp X8)).2.2 (ObS_C X8.out).2.1 (ObN_C (Zbn X4)).2.2 (ObN_C X4.out).2.1 HF.out.er).mono ?_); rintro e w' ⟨rfl, ⟨nd, rfl⟩⟩; refine ⟨_, rfl, ?_⟩))
 refine start_w (n := 5) (S := fun w' => w'.cell? ⟨g_91, 0, none⟩ = some (.slice a_5 M0_0.length b_5) ∧ w'.cell? ⟨g_91, 1, none⟩ = some (.slice a_6 M0_1.length b_6) ∧ w'.cell? ⟨g_91, 2, none⟩ = some (.slice a_7 M0_2.length b_7) ∧ w'.cell? ⟨g_0, 0, none⟩ = some (.slice A0_0 l0_0.length c0_0) ∧ w'.cell? ⟨g_0, 1, none⟩ = some (.slice A0_1 l0_1.length c0_1) ∧ w'.cell? ⟨g_0, 2, none⟩ = some (.slice A0_2 l0_2.length c0_2)) (ds := []) (bT 5 0) Zi rfl rfl (fun w1 hb => ?_); replace X1 := am_ (Ob_below (Zbm X1) hb); replace X2 := am_ (Ob_below (Zbm X2) hb); replace X3 := am_ (Ob_below (Zbm X3) hb); replace X4 := am_ (ObN_below (Zbn X4) hb); replace X5 := am_ (Ob_below (Zbm X5) hb); replace X6 := am_ (Ob_below (Zbm X6) hb); replace X7 := am_ (Ob_below (Zbm X7) hb); replace X8 := am_ (ObS_below (Zbp X8) hb); replace HB := (bsZ Zd hb); replace BK0 := am_ (blk_below (g := g_0) (b0Z BK0) hb); replace BK91 := am_ (blk_below (g := g_91) (b0Z BK91) hb); clear hb; refine ci3 BK0 ?_; intros; refine ci3 BK91 ?_; intros; refine ⟨⟨(blk_cell BK91.out 0).trans rfl, (blk_cell BK91.out 1).trans rfl, (blk_cell BK91.out 2).trans rfl, (blk_cell BK0.out 0).trans rfl, (blk_cell BK0.out 1).trans rfl, (blk_cell BK0.out 2).trans rfl⟩, fun hHeld => ?_⟩; refine with_tabW law_FnExactDarkGaps.tab law_FnExactDarkGaps.bits (fun HT_ HW_ => ?_); refine takeZ6 HT_ HW_ 0 (some 45) (bT 5 1) hHeld ?_; refine takeZ6 HT_ HW_ 1 (some 46) (bT 5 2) hHeld ?_; refine one_ (i := 2) (N := some 47) (bT 5 3) rfl rfl (one_of HT_.out Zi) (by decide) (fun K hK => ?_); refine goes_ Try.func7 Zi rfl #[.agg #[.slice A0_0 l0_0.length c0_0, .slice A0_1 l0_1.length c0_1, .slice A0_2 l0_2.length c0_2], .bool false] (by rfl) rfl rfl Zr ?_
 (with_reducible refine (full_toShow.calls k _ _ l0_0 _ _ l0_1 _ _ l0_2 false L0_0 L0_1 L0_2 _ (Kd.C_below HR0_0.out Zd) HC0_0.out (Kd.C_below HR0_1.out Zd) HC0_1.out (Kd.C_below HR0_2.out Zd) HC0_2.out HF.out.fu0 HF.out.ne0_0 HF.out.ne0_1 HF.out.ne0_2).mono ?_)
 rintro e w1 ⟨a_9, b_9, a_10, b_10, a_11, b_11, he_, ho0, ho1, ho2, hb⟩; rw [← HF.out.ln0_0, ← HF.out.ln0_1, ← HF.out.ln0_2] at he_; subst he_; refine ⟨_, rfl, ?_⟩; obtain ⟨lo9, hi9, hx0_, hx1_, hx2_, ha_, hz_, _⟩ := Ob_mk3 (base := w.heap.size) ho0 ho1 ho2 hb (below_le Zd) (ObS_hi (Zbp X8)); have X9 := am_ hx0_; have X10 := am_ hx1_; have X11 := am_ hx2_; have OX9 := am_ (And.intro ha_ hz_); clear hx0_ hx1_ hx2_ ha_ hz_ ho0 ho1 ho2; replace X1 := am_ (Ob_below (Zbm X1) hb); replace X2 := am_ (Ob_below (Zbm X2) hb); replace X3 := am_ (Ob_below (Zbm X3) hb); replace X4 := am_ (ObN_below (Zbn X4) hb); replace X5 := am_ (Ob_below (Zbm X5) hb); replace X6 := am_ (Ob_below (Zbm X6) hb); replace X7 := am_ (Ob_below (Zbm X7) hb); replace X8 := am_ (ObS_below (Zbp X8) hb); replace HB := (bsZ Zd hb); replace BK0 := am_ (blk_below (g := g_0) (b0Z BK0) hb); replace BK91 := am_ (blk_below (g := g_91) (b0Z BK91) hb); clear hb; refine ci3 BK0 ?_; intros; refine ci3 BK91 ?_; intros; clear hHeld; refine hK.out _ _ (by exact ⟨(blk_cell BK91.out 0).trans rfl, (blk_cell BK91.out 1).trans rfl, (blk_cell BK91.out 2).trans rfl, (blk_cell BK0.out 0).trans rfl, (blk_cell BK0.out 1).trans rfl, (blk_cell BK0.out 2).trans rfl⟩) (fun hHeld => ?_); clear hK K; refine normZ 47 ?_; refine one_ (i := 3) (N := some 48) (bT 5 4) rfl rfl (one_of HT_.out Zi) (by decide) (fun K hK => ?_); refine goes_ Try.func10 Zi rfl #[.agg #[.slice a_5 M0_0.length b_5, .slice a_6 M0_1.length b_6, .slice a_7 M0_2.length b_7], .agg #[.slice a_9 M0_0.length b_9, .slice a_10 M0_1.length b_10, .slice a_11 M0_2.length b_11]] (by rfl) rfl rfl Zr ?_
 (with_reducible refine (same_intactShow k M0_0.length M0_1.length M0_2.length _ _ _ _ _ _ _ _ _ _ _ _ L0_0 L0_1 L0_2 t0_0 t0_1 t0_2 _ (fullC (Zbm X5) HF.out.tk0_0).2.2.2 (fullC X5.out HF.out.tk0_0).2.2.1 (fullC (Zbm X9) HF.out.tk0_0).2.2.2 (fullC X9.out HF.out.tk0_0).2.2.1 HF.out.rm0_0 HF.out.jn0_0 HF.out.eq0_0 (fullC (Zbm X6) HF.out.tk0_1).2.2.2 (fullC X6.out HF.out.tk0_1).2.2.1 (fullC (Zbm X10) HF.out.tk0_1).2.2.2 (fullC X10.out HF.out.tk0_1).2.2.1 HF.out.rm0_1 HF.out.jn0_1 HF.out.eq0_1 (fullC (Zbm X7) HF.out.tk0_2).2.2.2 (fullC X7.out HF.out.tk0_2).2.2.1 (fullC (Zbm X11) HF.out.tk0_2).2.2.2 (fullC X11.out HF.out.tk0_2).2.2.1 HF.out.rm0_2 HF.out.jn0_2 HF.out.eq0_2).mono ?_)
 rintro e w1 ⟨rfl, hb⟩; refine ⟨_, rfl, ?_⟩; replace X1 := am_ (Ob_below (Zbm X1) hb); replace X2 := am_ (Ob_below (Zbm X2) hb); replace X3 := am_ (Ob_below (Zbm X3) hb); replace X4 := am_ (ObN_below (Zbn X4) hb); replace X5 := am_ (Ob_below (Zbm X5) hb); replace X6 := am_ (Ob_below (Zbm X6) hb); replace X7 := am_ (Ob_below (Zbm X7) hb); replace X8 := am_ (ObS_below (Zbp X8) hb); replace X9 := am_ (Ob_below (Zbm X9) hb); replace X10 := am_ (Ob_below (Zbm X10) hb); replace X11 := am_ (Ob_below (Zbm X11) hb); replace HB := (bsZ Zd hb); replace BK0 := am_ (blk_below (g := g_0) (b0Z BK0) hb); replace BK91 := am_ (blk_below (g := g_91) (b0Z BK91) hb); clear hb; refine ci3 BK0 ?_; intros; refine ci3 BK91 ?_; intros; clear hHeld; refine hK.out _ _ (by exact ⟨(blk_cell BK91.out 0).trans rfl, (blk_cell BK91.out 1).trans rfl, (blk_cell BK91.out 2).trans rfl, (blk_cell BK0.out 0).trans rfl, (blk_cell BK0.out 1).trans rfl, (blk_cell BK0.out 2).trans rfl⟩) (fun hHeld => ?_); clear hK K; refine normZ 48 ?_; refine pureZ HT_ 4 (some 49) (bT 5 5) ?_; refine done_ (done_of HT_.out Zi) ?_; clear hHeld HT_ HW_
 go_wp2_with (first | ((with_reducible refine gate_callee (f := 11) rfl ?_); (try (refine gate_guard (by rfl) ?_; dsimp only)); refine gZ 52 Try.func11 #[.agg #[.slice a_5 M0_0.length b_5, .slice a_6 M0_1.length b_6, .slice a_7 M0_2.length b_7], .int .i64 101] ?_; (with_reducible refine (laws_markShow.calls k _ _ M0_0 _ _ M0_1 _ _ M0_2 101 k1 M0_0k M0_1k M0_2k w _ Zd (Ob_R (lo := lo5) (hi := hi5) (fullT (Zbm X5) HF.out.tk0_0)) (Ob_R (lo := lo5) (hi := hi5) (fullT (Zbm X6) HF.out.tk0_1)) (Ob_R (lo := lo5) (hi := hi5) (fullT (Zbm X7) HF.out.tk0_2)) HF.out.mk1).mono ?_); rintro e w1 ⟨rfl, hr0_, hr1_, hr2_, hB_, hk3_⟩; refine ⟨_, rfl, ?_⟩; have hk_ := Kept3 hk3_; clear hk3_; have n0_ := am_ (Ob_kept (Zbm X1) hk_ Zbq); have n1_ := am_ (Ob_kept (Zbm X2) hk_ Zbq); have n2_ := am_ (Ob_kept (Zbm X3) hk_ Zbq); have n3_ := am_ (ObN_kept (Zbn X4) hk_ Zbq); have n4_ := am_ (ObS_kept (Zbp X8) hk_ Zbq); have n5_ := am_ (Ob_kept (Zbm X9) hk_ Zbq); have n6_ := am_ (Ob_kept (Zbm X10) hk_ Zbq); have n7_ := am_ (Ob_kept (Zbm X11) hk_ Zbq); have nk0_ := am_ ((hk_.2 g_0 (blk_lt (g := g_0) (b0Z BK0)) Zbq).trans (show _ = some (Obj.cells #[.slice A0_0 l0_0.length c0_0, .slice A0_1 l0_1.length c0_1, .slice A0_2 l0_2.length c0_2] 26 (0, 0)) from (b0Z BK0))); have nk91_ := am_ ((hk_.2 g_91 (blk_lt (g := g_91) (b0Z BK91)) Zbq).trans (show _ = some (Obj.cells #[.slice a_5 M0_0.length b_5, .slice a_6 M0_1.length b_6, .slice a_7 M0_2.length b_7] 35 (0, 0)) from (b0Z BK91))); clear X1; clear X2; clear X3; clear X4; clear X5; clear X6; clear X7; clear X8; clear X9; clear X10; clear X11; clear HB; have X1 := n0_; clear n0_; have X2 := n1_; clear n1_; have X3 := n2_; clear n2_; have X4 := n3_; clear n3_; have X8 := n4_; clear n4_; have X9 := n5_; clear n5_; have X10 := n6_; clear n6_; have X11 := n7_; clear n7_; have HB := am_ hB_; clear hB_ hk_; clear BK0; have BK0 := nk0_; clear nk0_; refine ci3 BK0 ?_; intros; clear BK91; have BK91 := nk91_; clear nk91_; refine ci3 BK91 ?_; intros; clear hr0_ hr1_ hr2_) | ((with_reducible refine gate_callee (f := 9) rfl ?_); (try (refine gate_guard (by rfl) ?_; dsimp only)); refine gZ 58 Try.func9 #[.slice a_8 q1.length b_8, .slice a_4 q1.length b_4] ?_; (with_reducible refine (laws_eqInt64SS.calls k _ _ q1 _ _ q1 true _ (ObS_C (Zbp X8)).2.2 (ObS_C X8.out).2.1 (ObN_C (Zbn X4)).2.2 (ObN_C X4.out).2.1 HF.out.er).mono ?_); rintro e w' ⟨rfl, ⟨nd, rfl⟩⟩; refine ⟨_, rfl, ?_⟩) | ((with_reducible refine gate_callee (f := 12) rfl ?_); (try (refine gate_guard (by rfl) ?_; dsimp only)); refine gZ 68 Try.func12 #[.slice a_8 q1.length b_8, .int .i64 101] ?_; (with_reducible refine (laws_markInt64SS.calls k _ _ q1 101 m1 q1k w _ Zd (ObS_R (lo := lo8) (hi := hi8) (Zbp X8)) HF.out.mg).mono ?_); rintro e w1 ⟨rfl, hr_, hB_, hk_⟩; refine ⟨_, rfl, ?_⟩; have n0_ := am_ (Ob_kept (Zbm X1) hk_ Zbq); have n1_ := am_ (Ob_kept (Zbm X2) hk_ Zbq); have n2_ := am_ (Ob_kept (Zbm X3) hk_ Zbq); have n3_ := am_ (ObN_kept (Zbn X4) hk_ Zbq); have n4_ := am_ (Ob_kept (Zbm X9) hk_ Zbq); have n5_ := am_ (Ob_kept (Zbm X10) hk_ Zbq); have n6_ := am_ (Ob_kept (Zbm X11) hk_ Zbq); have nk0_ := am_ ((hk_.2 g_0 (blk_lt (g := g_0) (b0Z BK0)) Zbq).trans (show _ = some (Obj.cells #[.slice A0_0 l0_0.length c0_0, .slice A0_1 l0_1.length c0_1, .slice A0_2 l0_2.length c0_2] 26 (0, 0)) from (b0Z BK0))); have nk91_ := am_ ((hk_.2 g_91 (blk_lt (g := g_91) (b0Z BK91)) Zbq).trans (show _ = some (Obj.cells #[.slice a_5 M0_0.length b_5, .slice a_6 M0_1.length b_6, .slice a_7 M0_2.length b_7] 35 (0, 0)) from (b0Z BK91))); have ng_ := am_ (show ObS _ _ _ w.heap.size _ _ _ _ from ⟨Kd.S_mono (Kd.S_bound hr_) (fun _ hz => ⟨hz.2.1, hz.2.2.1⟩), Nat.le_refl _, Nat.le_refl _⟩); clear X1; clear X2; clear X3; clear X4; clear X8; clear X9; clear X10; clear X11; clear HB; have X1 := n0_; clear n0_; have X2 := n1_; clear n1_; have X3 := n2_; clear n2_; have X4 := n3_; clear n3_; have X9 := n4_; clear n4_; have X10 := n5_; clear n5_; have X11 := n6_; clear n6_; have HB := am_ hB_; clear hB_ hk_; clear BK0; have BK0 := nk0_; clear nk0_; refine ci3 BK0 ?_; intros; clear BK91; have BK91 := nk91_; clear nk91_; refine ci3 BK91 ?_; intros; have X8 := ng_; clear ng_ hr_; skip) | ((with_reducible refine gate_callee (f := 13) rfl ?_); (try (refine gate_guard (by rfl) ?_; dsimp only)); refine gZ 71 Try.func13 #[.slice a_8 q1.length b_8, .int .i64 101] ?_; (with_reducible refine (calls_len HF.out.hl (laws_heldInt64SS.calls k _ _ q1k 101 m1 _ (ObS_C (Zbp X8)).2.2 (ObS_C X8.out).2.1 HF.out.hd)).mono ?_); rintro e w' ⟨rfl, ⟨nd, rfl⟩⟩; refine ⟨_, rfl, ?_⟩) | ((with_reducible refine gate_callee (f := 7) rfl ?_); (try (refine gate_guard (by rfl) ?_; dsimp only)); refine gZ 79 Try.func7 #[.agg #[.slice A0_0 l0_0.length c0_0, .slice A0_1 l0_1.length c0_1, .slice A0_2 l0_2.length c0_2], .bool true] ?_; (with_reducible refine (laws_toShow.calls k _ _ l0_0 _ _ l0_1 _ _ l0_2 true M0_0 M0_1 M0_2 _ (Kd.C_below HR0_0.out Zd) HC0_0.out (Kd.C_below HR0_1.out Zd) HC0_1.out (Kd.C_below HR0_2.out Zd) HC0_2.out HF.out.to0).mono ?_); rintro e w1 ⟨v0_, v1_, v2_, rfl, ho0, ho1, ho2, hb⟩; refine ⟨_, rfl, ?_⟩; obtain ⟨lo12, hi12, hx0_, hx1_, hx2_, ha_, hz_, _⟩ := Ob_mk3 (base := w.heap.size) ho0 ho1 ho2 hb (below_le Zd) (Ob_hi (Zbm X9)); have X12 := am_ hx0_; have X13 := am_ hx1_; have X14 := am_ hx2_; have OX12 := am_ (And.intro ha_ hz_); clear hx0_ hx1_ hx2_ ha_ hz_ ho0 ho1 ho2; replace X4 := am_ (ObN_below (Zbn X4) hb); replace X8 := am_ (ObS_below (Zbp X8) hb); replace HB := (bsZ Zd hb); replace BK0 := am_ (blk_below (g := g_0) (b0Z BK0) hb); replace BK91 := am_ (blk_below (g := g_91) (b0Z BK91) hb); clear hb; refine ci3 BK0 ?_; intros; refine ci3 BK91 ?_; intros; obtain ⟨a_12, b_12, e_⟩ := Ob_slice X12.out; subst e_; obtain ⟨a_13, b_13, e_⟩ := Ob_slice X13.out; subst e_; obtain ⟨a_14, b_14, e_⟩ := Ob_slice X14.out; subst e_) | ((with_reducible refine gate_callee (f := 8) rfl ?_); (try (refine gate_guard (by rfl) ?_; dsimp only)); refine gZ 81 Try.func8 #[.agg #[.slice a_12 M0_0.length b_12, .slice a_13 M0_1.length b_13, .slice a_14 M0_2.length b_14], .int .i64 a1] ?_; (with_reducible refine (impl_DarkGaps.calls k _ _ M0_0 _ _ M0_1 _ _ M0_2 a1 q1 q2 _ (Ob_C (Zbm X12)).2.2 (Ob_C X12.out).2.1 (Ob_C (Zbm X13)).2.2 (Ob_C X13.out).2.1 (Ob_C (Zbm X14)).2.2 (Ob_C X14.out).2.1 HF.out.im).mono ?_); rintro e w1 ⟨v0_, rfl, ho0, hb⟩; refine ⟨_, rfl, ?_⟩; obtain ⟨lo15, hi15, hx_, ha_, hz_, _⟩ := ObS_mk (base := w.heap.size) ho0 hb (below_le Zd) (Ob_hi (Zbm X12)); have X15 := am_ hx_; have OX15 := am_ (And.intro ha_ hz_); clear hx_ ha_ hz_ ho0; replace X4 := am_ (ObN_below (Zbn X4) hb); replace X8 := am_ (ObS_below (Zbp X8) hb); replace HB := (bsZ Zd hb); replace BK0 := am_ (blk_below (g := g_0) (b0Z BK0) hb); replace BK91 := am_ (blk_below (g := g_91) (b0Z BK91) hb); clear hb; refine ci3 BK0 ?_; intros; refine ci3 BK91 ?_; intros; obtain ⟨a_15, b_15, e_⟩ := ObS_slice X15.out; subst e_) | ((with_reducible refine gate_callee (f := 9) rfl ?_); (try (refine gate_guard (by rfl) ?_; dsimp only)); refine gZ 86 Try.func9 #[.slice a_15 q1.length b_15, .slice a_4 q1.length b_4] ?_; (with_reducible refine (laws_eqInt64SS.calls k _ _ q1 _ _ q1 true _ (ObS_C (Zbp X15)).2.2 (ObS_C X15.out).2.1 (ObN_C (Zbn X4)).2.2 (ObN_C X4.out).2.1 HF.out.er).mono ?_); rintro e w' ⟨rfl, ⟨nd, rfl⟩⟩; refine ⟨_, rfl, ?_⟩) | ((with_reducible refine gate_callee (f := 13) rfl ?_); (try (refine gate_guard (by rfl) ?_; dsimp only)); refine gZ 95 Try.func13 #[.slice a_8 q1.length b_8, .int .i64 101] ?_; (with_reducible refine (calls_len HF.out.hl (laws_heldInt64SS.calls k _ _ q1k 101 m1 _ (ObS_C (Zbp X8)).2.2 (ObS_C X8.out).2.1 HF.out.hd)).mono ?_); rintro e w' ⟨rfl, ⟨nd, rfl⟩⟩; refine ⟨_, rfl, ?_⟩))
 go_ret
 exact ⟨rfl, Zd⟩
def Evt (P : Nat → Prop) : Prop := ∃ K, ∀ k, K ≤ k → P k
theorem Evt.and {P Q : Nat → Prop} (h : Evt P) (h' : Evt Q) : Evt (fun k => P k ∧ Q k) := by
 obtain ⟨K, h⟩ := h; obtain ⟨K', h'⟩ := h'; exact ⟨K + K', fun k hk => ⟨h k (by omega), h' k (by omega)⟩⟩
theorem Evt.mono {P Q : Nat → Prop} (h : Evt P) (hq : ∀ k, P k → Q k) : Evt Q := by
 obtain ⟨K, h⟩ := h; exact ⟨K, fun k hk => hq k (h k hk)⟩
theorem Evt.of {P : Nat → Prop} (h : ∀ k, P k) : Evt P := ⟨0, fun k _ => h k⟩
theorem Evt.ex {P : Nat → Prop} (h : Evt P) : ∃ k, P k := by
 obtain ⟨K, h⟩ := h; exact ⟨K, h K (Nat.le_refl _)⟩
theorem Evt.succ {P : Nat → Prop} (h : Evt (fun k => P (k + 1))) : Evt P := by
 obtain ⟨K, h⟩ := h; refine ⟨K + 1, fun k hk => ?_⟩; obtain ⟨m, rfl⟩ : ∃ m, k = m + 1 := ⟨k - 1, by omega⟩; exact h m (by omega)
theorem w64 {n : Int} (h : -9223372036854775808 ≤ n ∧ n ≤ 9223372036854775807) : wrap64 n = n := by unfold wrap64; omega
theorem room_some (n : Nat) : ∃ t : Int, laws_roomBehind.f (n : Int) = some t ∧ 0 ≤ t ∧ t ≤ n + 1 ∧ (n = 0 → 1 ≤ t) := by
 unfold laws_roomBehind.f
 have h6 : Int.tmod (n : Int) 6 = (n : Int) % 6 := Int.tmod_eq_emod_of_nonneg (by omega); have h3 : Int.tmod (n : Int) 3 = (n : Int) % 3 := Int.tmod_eq_emod_of_nonneg (by omega); rw [h6, h3]
 by_cases a : (n : Int) % 6 = 5
 ·rw [if_pos a]
  exact ⟨0, rfl, by omega, by omega, by omega⟩
 ·rw [if_neg a]
  by_cases b : (n : Int) % 3 = 0
  ·rw [if_pos b]
   exact ⟨1, rfl, by omega, by omega, by omega⟩
  ·rw [if_neg b]
   exact ⟨n, rfl, by omega, by omega, by omega⟩
theorem getD_at {α : Type} (xs : List α) (z : α) (i : Nat) (h : i < xs.length) : xs.getD ((i : Int)).toNat z = xs[i] := by
 rw [Int.toNat_natCast, List.getD_eq_getElem?_getD, List.getElem?_eq_getElem h]; rfl
theorem take_set_ge {α : Type} (xs : List α) (n i : Nat) (v : α) (h : n ≤ i) : (xs.set i v).take n = xs.take n := by
 apply List.ext_getElem?
 intro j; simp only [List.getElem?_take, List.getElem?_set]
 by_cases hj : j < n
 ·rw [if_pos hj, if_pos hj, if_neg (by omega)]
 ·rw [if_neg hj, if_neg hj]
theorem take_set_snoc {α : Type} (xs : List α) (i : Nat) (v : α) (h : i < xs.length) : (xs.set i v).take (i + 1) = xs.take i ++ [v] := by
 rw [List.take_succ_eq_append_getElem (by simpa using h), take_set_ge _ _ _ _ (Nat.le_refl _), List.getElem_set_self]
def allF (p : Nat → Bool) : Nat → Nat → Bool
 | _, 0 => true
 | i, d + 1 => p i && allF p (i + 1) d
theorem allF_true {p : Nat → Bool} : ∀ (d i : Nat), allF p i d = true ↔ ∀ j, i ≤ j → j < i + d → p j = true
 | 0, i => by simp [allF]; intro j h1 h2; omega
 | d + 1, i => by
  unfold allF
  rw [Bool.and_eq_true, allF_true d (i + 1)]; constructor
  ·rintro ⟨h1, h2⟩ j h3 h4
   rcases Nat.eq_or_lt_of_le h3 with e | e
   ·exact e ▸ h1
   ·exact h2 j e (by omega)
  ·exact fun h => ⟨h i (Nat.le_refl _) (by omega), fun j h1 h2 => h j (by omega) (by omega)⟩
theorem all_loopF {f : Nat → Nat → Option Bool} {p : Nat → Bool} {e : Bool} (a n : Nat) (hs : ∀ k i, a ≤ i → i < n → f (k + 1) i = if p i = true then f k (i + 1) else some false) (he : ∀ k, f (k + 1) n = some e) :
  ∀ d k i, a ≤ i → n - i = d → i ≤ n → d < k → f k i = some (allF p i d && e) := by
 intro d
 induction d with
 | zero =>
  intro k i ha hd hi hk; obtain ⟨k, rfl⟩ : ∃ m, k = m + 1 := ⟨k - 1, by omega⟩
  have : i = n := by omega
  subst this; rw [he]
  rfl
 | succ d ih =>
  intro k i ha hd hi hk; obtain ⟨k, rfl⟩ : ∃ m, k = m + 1 := ⟨k - 1, by omega⟩; rw [hs k i ha (by omega)]
  unfold allF
  by_cases hp : p i = true
  ·rw [if_pos hp, ih k (i + 1) (by omega) (by omega) (by omega) (by omega), hp, Bool.true_and]
  ·rw [if_neg hp]
   replace hp := Bool.eq_false_iff.mpr hp; rw [hp, Bool.false_and, Bool.false_and]
theorem all_loop {f : Nat → Nat → Option Bool} {p : Nat → Bool} {e : Bool} (n : Nat) (hs : ∀ k i, i < n → f (k + 1) i = if p i = true then f k (i + 1) else some false) (he : ∀ k, f (k + 1) n = some e) :
  ∀ d k i, n - i = d → i ≤ n → d < k → f k i = some (allF p i d && e) := fun d k i => all_loopF 0 n (fun k i _ h => hs k i h) he d k i (Nat.zero_le _)
def foldF {σ : Type} (step : Nat → σ → σ) : Nat → Nat → σ → σ
 | _, 0, s => s
 | i, d + 1, s => foldF step (i + 1) d (step i s)
theorem foldF_snoc {σ : Type} (f : Nat → σ → σ) : ∀ (d i : Nat) (s : σ), foldF f i (d + 1) s = f (i + d) (foldF f i d s)
 | 0, i, s => rfl
 | d + 1, i, s => by
  have h := foldF_snoc f d (i + 1) (f i s); rw [show i + 1 + d = i + (d + 1) by omega] at h; exact h
theorem fold_loop {σ β : Type} {f : Nat → Nat → σ → Option β} {step : Nat → σ → σ} {I : Nat → σ → Prop} {e : σ → Option β} (n : Nat) (hs : ∀ k i s, i < n → I i s → f (k + 1) i s = f k (i + 1) (step i s)) (hI : ∀ i s, i < n → I i s → I (i + 1) (step i s)) (he : ∀ k s, I n s → f (k + 1) n s = e s) :
  ∀ d k i s, n - i = d → i ≤ n → I i s → d < k → f k i s = e (foldF step i d s) := by
 intro d
 induction d with
 | zero =>
  intro k i s hd hi h0 hk; obtain ⟨k, rfl⟩ : ∃ m, k = m + 1 := ⟨k - 1, by omega⟩
  have : i = n := by omega
  subst this; exact he k s h0
 | succ d ih =>
  intro k i s hd hi h0 hk; obtain ⟨k, rfl⟩ : ∃ m, k = m + 1 := ⟨k - 1, by omega⟩; rw [hs k i s (by omega) h0]; exact ih k (i + 1) _ (by omega) (by omega) (hI i s (by omega) h0) (by omega)
def inB (n lo hi : Int) : Bool := decide (lo ≤ n ∧ n ≤ hi)
theorem inB_true {n lo hi : Int} : inB n lo hi = true ↔ lo ≤ n ∧ n ≤ hi := by unfold inB; exact decide_eq_true_iff
theorem inB_false {n lo hi : Int} : inB n lo hi = false ↔ ¬ (lo ≤ n ∧ n ≤ hi) := by unfold inB; exact decide_eq_false_iff_not
theorem set_set {α : Type} (xs : List α) (i : Nat) (a b : α) : (xs.set i a).set i b = xs.set i b := by simp
theorem getD_set {α : Type} (xs : List α) (i : Nat) (v z : α) (h : i < xs.length) : (xs.set i v).getD i z = v := by
 rw [List.getD_eq_getElem?_getD, List.getElem?_set_self h]; rfl
theorem set_take_app {α : Type} (xs ys : List α) (i : Nat) (v : α) (hi : i < xs.length) : ((xs.set i v).take (i + 1)) ++ ys = xs.take i ++ (v :: ys) := by
 rw [take_set_snoc _ _ _ hi, List.append_assoc, List.singleton_append]
theorem getD_take {α : Type} (xs : List α) (z : α) (n i : Nat) (h : i < n) : (xs.take n).getD i z = xs.getD i z := by
 rw [List.getD_eq_getElem?_getD, List.getD_eq_getElem?_getD, List.getElem?_take, if_pos h]
theorem getD_app {α : Type} (xs ys : List α) (z : α) (i : Nat) (h : xs.length = i) : (xs ++ ys).getD i z = ys.getD 0 z := by
 rw [List.getD_eq_getElem?_getD, List.getD_eq_getElem?_getD, List.getElem?_append_right (by omega), h, Nat.sub_self]
def conv_BarS (x : S89) : S87 := ⟨x.f0, x.f1⟩
theorem full_BarS_l1 (d : Nat) : ∀ (k : Nat) (x0 : List S89) (x5 : List S87) (i : Nat), x5.length - i = d → x0.length ≤ i → i ≤ x5.length → x5.length ≤ 4000000 → d < k →
  full_toBarS.l1 k x0 x5 (i : Int) = some (x5.take i ++ List.replicate d (⟨(-7000000000000000101), (-7000000000000000101)⟩ : S87)) := by
 induction d with
 | zero =>
  intro k x0 x5 i hd h1 h2 h3 hk; obtain ⟨k, rfl⟩ : ∃ m, k = m + 1 := ⟨k - 1, by omega⟩; simp only [full_toBarS.l1]; rw [if_neg (by omega), if_pos (by omega), if_pos (by omega), List.take_of_length_le (by omega)]
  simp
 | succ d ih =>
  intro k x0 x5 i hd h1 h2 h3 hk; obtain ⟨k, rfl⟩ : ∃ m, k = m + 1 := ⟨k - 1, by omega⟩; have hr := ih k x0 (x5.set i (⟨(-7000000000000000101), (-7000000000000000101)⟩ : S87)) (i + 1) Zbr (by omega) Zbr Zbr (by omega); rw [take_set_snoc _ _ _ (by omega), List.append_assoc, List.singleton_append, ← List.replicate_succ] at hr; rw [← hr]; simp only [full_toBarS.l1, laws_fillerBar.f, Option.bind_some]; rw [if_pos (by omega)]; rw [if_pos (by omega), w64 (by omega)]
  rfl
theorem full_BarS_l0 (d : Nat) : ∀ (k : Nat) (x0 : List S89) (x5 : List S87) (i : Nat), x0.length - i = d → i ≤ x0.length → x0.length ≤ x5.length → x5.length ≤ 4000000 → x5.take i = (x0.take i).map conv_BarS → d + x5.length + 1 < k →
  full_toBarS.l0 k x0 x5 (i : Int) = some (x0.map conv_BarS ++ List.replicate (x5.length - x0.length) (⟨(-7000000000000000101), (-7000000000000000101)⟩ : S87)) := by
 induction d with
 | zero =>
  intro k x0 x5 i hd h1 h2 h3 h4 hk; obtain ⟨k, rfl⟩ : ∃ m, k = m + 1 := ⟨k - 1, by omega⟩; simp only [full_toBarS.l0]; rw [if_neg (by omega), full_BarS_l1 (x5.length - x0.length) k x0 x5 x0.length rfl (Nat.le_refl _) h2 h3 (by omega)]
  have e : i = x0.length := by omega
  subst e; rw [h4, List.take_length]
 | succ d ih =>
  intro k x0 x5 i hd h1 h2 h3 h4 hk; obtain ⟨k, rfl⟩ : ∃ m, k = m + 1 := ⟨k - 1, by omega⟩
  have hi : i < x0.length := by omega
  have h5 : (x5.set i (conv_BarS x0[i])).take (i + 1) = (x0.take (i + 1)).map conv_BarS := by
   rw [take_set_snoc _ _ _ (by omega), h4, List.take_succ_eq_append_getElem hi, List.map_append]; rfl
  have hr := ih k x0 (x5.set i (conv_BarS x0[i])) (i + 1) (by omega) (by omega) Zbr Zbr h5 Zbr; rw [List.length_set] at hr; rw [← hr]; simp only [full_toBarS.l0, laws_toBar.f, Option.bind_some]; rw [if_pos (by omega), if_pos (by omega)]; rw [if_pos (by omega), w64 (by omega), rd_T89, getD_at _ _ _ hi]
  rfl
theorem to_BarS_l1 (d : Nat) : ∀ (k : Nat) (x0 : List S89) (x5 : List S87) (i : Nat), x5.length - i = d → x0.length ≤ i → i ≤ x5.length → x5.length ≤ 4000000 → d < k →
  laws_toBarS.l1 k x0 x5 (i : Int) = some (x5.take x0.length) := by
 induction d with
 | zero =>
  intro k x0 x5 i hd h1 h2 h3 hk; obtain ⟨k, rfl⟩ : ∃ m, k = m + 1 := ⟨k - 1, by omega⟩; simp only [laws_toBarS.l1]; rw [if_neg (by omega), if_pos (by omega), if_pos (by omega), Int.toNat_natCast]
 | succ d ih =>
  intro k x0 x5 i hd h1 h2 h3 hk; obtain ⟨k, rfl⟩ : ∃ m, k = m + 1 := ⟨k - 1, by omega⟩; have hr := ih k x0 (x5.set i (⟨(-7000000000000000101), (-7000000000000000101)⟩ : S87)) (i + 1) Zbr (by omega) Zbr Zbr (by omega); rw [take_set_ge _ _ _ _ h1] at hr; rw [← hr]; simp only [laws_toBarS.l1, laws_fillerBar.f, Option.bind_some]; rw [if_pos (by omega)]; rw [if_pos (by omega), w64 (by omega)]
  rfl
theorem to_BarS_l0 (d : Nat) : ∀ (k : Nat) (x0 : List S89) (x5 : List S87) (i : Nat), x0.length - i = d → i ≤ x0.length → x0.length ≤ x5.length → x5.length ≤ 4000000 → x5.take i = (x0.take i).map conv_BarS → d + x5.length + 1 < k →
  laws_toBarS.l0 k x0 x5 (i : Int) = some (x0.map conv_BarS) := by
 induction d with
 | zero =>
  intro k x0 x5 i hd h1 h2 h3 h4 hk; obtain ⟨k, rfl⟩ : ∃ m, k = m + 1 := ⟨k - 1, by omega⟩; simp only [laws_toBarS.l0]; rw [if_neg (by omega), to_BarS_l1 (x5.length - x0.length) k x0 x5 x0.length rfl (Nat.le_refl _) h2 h3 (by omega)]
  have e : i = x0.length := by omega
  subst e; rw [h4, List.take_length]
 | succ d ih =>
  intro k x0 x5 i hd h1 h2 h3 h4 hk; obtain ⟨k, rfl⟩ : ∃ m, k = m + 1 := ⟨k - 1, by omega⟩
  have hi : i < x0.length := by omega
  have h5 : (x5.set i (conv_BarS x0[i])).take (i + 1) = (x0.take (i + 1)).map conv_BarS := by
   rw [take_set_snoc _ _ _ (by omega), h4, List.take_succ_eq_append_getElem hi, List.map_append]; rfl
  have hr := ih k x0 (x5.set i (conv_BarS x0[i])) (i + 1) (by omega) (by omega) Zbr Zbr h5 Zbr; rw [← hr]; simp only [laws_toBarS.l0, laws_toBar.f, Option.bind_some]; rw [if_pos (by omega), if_pos (by omega)]; rw [if_pos (by omega), w64 (by omega), rd_T89, getD_at _ _ _ hi]
  rfl
theorem to_BarS (l : List S89) (hl : l.length ≤ 1000000) : ∃ (L : List S87) (t : Int), L ≠ [] ∧ (l.map conv_BarS = L.take l.length ∧ l.length ≤ L.length) ∧ (l.map conv_BarS).length = l.length ∧ L.length ≤ 2000001 ∧
  laws_roomBehind.f ((l.map conv_BarS).length : Int) = some t ∧ wrap64 (((l.map conv_BarS).length : Int) + t) = (L.length : Int) ∧
  Evt (fun k => full_toBarS.f k l false = some L) ∧ Evt (fun k => laws_toBarS.f k l true = some (l.map conv_BarS)) := by
 obtain ⟨t, ht, h0, h1, h2⟩ := room_some l.length; have hw : wrap64 ((l.length : Int) + t) = (l.length : Int) + t := w64 (by omega)
 have hn : ((l.length : Int) + t).toNat = l.length + t.toNat := by omega
 have hm : (l.map conv_BarS).length = l.length := List.length_map _
 have hlen : (l.map conv_BarS ++ List.replicate (l.length + t.toNat - l.length) (⟨(-7000000000000000101), (-7000000000000000101)⟩ : S87)).length = l.length + t.toNat := by rw [List.length_append, List.length_replicate, hm]; omega
 refine ⟨l.map conv_BarS ++ List.replicate (l.length + t.toNat - l.length) (⟨(-7000000000000000101), (-7000000000000000101)⟩ : S87), t, ?_, ⟨?_, by omega⟩, hm, by omega, by rw [hm]; exact ht, by rw [hm, hw, hlen]; omega, ?_, ?_⟩
 ·intro e
  rw [e] at hlen
  simp at hlen
  have := h2 (by omega)
  omega
 ·rw [← hm, List.take_left]
 ·refine Evt.succ ⟨l.length + (l.length + t.toNat) + 2, fun k hk => ?_⟩
  show full_toBarS.f (k + 1) l false = _
  unfold full_toBarS.f
  rw [if_neg (by decide)]; simp only [full_toBarS.j0]; rw [if_neg (by decide), ht]; simp only [Option.bind_some]; rw [hw, if_pos (by omega), hn, if_pos (by omega)]; have z := full_BarS_l0 l.length k l (List.replicate (l.length + t.toNat) z87) 0 (by omega) (by omega) Zbs Zbs (by simp) Zbs; rw [List.length_replicate] at z; exact z
 ·refine Evt.succ ⟨l.length + (l.length + t.toNat) + 2, fun k hk => ?_⟩
  show laws_toBarS.f (k + 1) l true = _
  unfold laws_toBarS.f
  rw [if_pos rfl]; simp only [laws_toBarS.j0]
  by_cases e : l.length = 0
  ·have e2 : l = [] := List.length_eq_zero_iff.mp e
   subst e2
   rfl
  ·have e3 : ((l.length : Int) == 0) = false := by rw [beq_eq_false_iff_ne]; omega
   rw [e3, if_neg (by decide), ht]; simp only [Option.bind_some]; rw [hw, if_pos (by omega), hn, if_pos (by omega)]; exact to_BarS_l0 l.length k l (List.replicate (l.length + t.toNat) z87) 0 (by omega) (by omega) Zbs Zbs (by simp) Zbs
theorem eq_BarS_l0 (d : Nat) : ∀ (k : Nat) (xs : List S87) (i : Nat), xs.length - i = d → i ≤ xs.length → xs.length ≤ 4000000 → d < k → laws_eqBarS.l0 k xs xs (i : Int) = some true := by
 induction d with
 | zero =>
  intro k xs i hd h1 h2 hk; obtain ⟨k, rfl⟩ : ∃ m, k = m + 1 := ⟨k - 1, by omega⟩; simp only [laws_eqBarS.l0]; rw [if_neg (by omega)]
 | succ d ih =>
  intro k xs i hd h1 h2 hk; obtain ⟨k, rfl⟩ : ∃ m, k = m + 1 := ⟨k - 1, by omega⟩; have hr := ih k xs (i + 1) (by omega) (by omega) h2 (by omega); simp only [laws_eqBarS.l0, laws_eqBar.f, if_true, Option.bind_some]; rw [if_pos (by omega), if_pos (by omega), if_pos (by omega), w64 (by omega)]; exact hr
theorem eq_BarS (xs : List S87) (h : xs.length ≤ 4000000) : Evt (fun k => laws_eqBarS.f k xs xs = some true) := by
 refine ⟨xs.length + 1, fun k hk => ?_⟩; show laws_eqBarS.f k xs xs = _
 unfold laws_eqBarS.f
 rw [if_pos rfl]; exact eq_BarS_l0 xs.length k xs 0 (by omega) (by omega) h (by omega)
theorem sz_BarS (l : List S89) (a : Int) (h0 : 0 ≤ a) (h1 : a ≤ 1000000) (hl : l.length ≤ maxLen) :
  (l.length ≤ a ∧ laws_szBarS.f l a = some (a - l.length)) ∨ laws_szBarS.f l a = some (-1) := by
 unfold maxLen at hl
 unfold laws_szBarS.f
 rw [w64 (by omega)]
 by_cases h : a - (l.length : Int) < 0
 ·rw [if_pos h]
  exact .inr rfl
 ·rw [if_neg h]
  exact .inl ⟨by omega, rfl⟩
def seq_BarS : Nat → Int → List S87
 | 0, _ => []
 | d + 1, c => (⟨c, c + 1⟩ : S87) :: seq_BarS d (c + 2)
theorem mark_BarS_l0 (d : Nat) : ∀ (k : Nat) (xs : List S87) (c : Int) (i : Nat), xs.length - i = d → i ≤ xs.length → xs.length ≤ 4000000 → 0 ≤ c → c ≤ 1000000000 - 2 * (xs.length - i : Nat) → d < k →
  laws_markBarS.l0 k xs c (i : Int) = some (c + 2 * d, xs.take i ++ seq_BarS d c) := by
 induction d with
 | zero =>
  intro k xs c i hd h1 h2 h3 h4 hk; obtain ⟨k, rfl⟩ : ∃ m, k = m + 1 := ⟨k - 1, by omega⟩; simp only [laws_markBarS.l0, seq_BarS]; rw [if_neg (by omega), List.take_of_length_le (by omega), List.append_nil]
  congr 2; omega
 | succ d ih =>
  intro k xs c i hd h1 h2 h3 h4 hk; obtain ⟨k, rfl⟩ : ∃ m, k = m + 1 := ⟨k - 1, by omega⟩; have hr := ih k (xs.set i (⟨c, c + 1⟩ : S87)) (c + 2) (i + 1) Zbr Zbr Zbr (by omega) Zbr (by omega); rw [set_take_app _ _ _ _ (by omega)] at hr
  have e : c + 2 * ((d + 1 : Nat) : Int) = c + 2 + 2 * (d : Int) := by omega
  rw [e]; show _ = some (c + 2 + 2 * (d : Int), xs.take i ++ (⟨c, c + 1⟩ : S87) :: seq_BarS d (c + 2)); rw [← hr]; simp only [laws_markBarS.l0, Option.bind_some]; rw [if_pos (by omega), if_pos (by omega)]
  have w1 : wrap64 (c + 1) = c + 1 := by rw [w64 (by omega)]
  have w2 : wrap64 (c + 1 + 1) = c + 2 := by rw [w64 (by omega)]; omega
  rw [w1, w2, w64 (n := (i : Int) + 1) (by omega)]; simp only [Int.toNat_natCast]
  have rs : ∀ v : S87, rd_T87 (xs.set i v) (i : Int) = v := fun v => by unfold rd_T87; rw [Int.toNat_natCast, getD_set _ _ _ _ (by omega)]
  simp only [set_set, rs]
  rfl
theorem mark_BarS (xs : List S87) (c : Int) (hx : xs.length ≤ 4000000) (h0 : 0 ≤ c) (h1 : c ≤ 900000000) : Evt (fun k => laws_markBarS.f k xs c = some (c + 2 * (xs.length : Int), seq_BarS xs.length c)) := by
 refine ⟨xs.length + 1, fun k hk => ?_⟩; show laws_markBarS.f k xs c = _
 unfold laws_markBarS.f
 exact mark_BarS_l0 xs.length k xs c 0 (by omega) (by omega) hx h0 (by omega) (by omega)
theorem w64c0 (c : Int) (h0 : 0 ≤ c) (h1 : c ≤ 1000000000) : wrap64 (c + 1) = c + 1 := w64 (by omega)
theorem w64c (c j m : Int) (h0 : 0 ≤ c) (h1 : c ≤ 1000000000) (hj : 0 ≤ j ∧ j ≤ 100) (e : m = j + 1) : wrap64 (c + j + 1) = c + m := by
 subst e; rw [w64 (by omega), Int.add_assoc]
theorem digit_size (n : Int) : (strOfNums (([(wrap64 (48 + Int.tmod n 10)) % 256] : List Int))).size = 1 := by rfl
theorem mtext_l0 : ∀ (k : Nat) (c : Int) (out : ByteArray), 0 ≤ c → c < 10 ^ k → c ≤ 1000000000 → out.size + k ≤ 1000 → ∃ r, laws_markText.l0 (k + 1) c out = some r
 | 0, c, out, h0, h1, h9, h2 => by
  rw [Int.pow_zero] at h1; simp only [laws_markText.l0]; rw [if_neg (by omega), if_pos (by omega)]; exact ⟨_, rfl⟩
 | k + 1, c, out, h0, h1, h9, h2 => by
  by_cases e : c = 0
  ·subst e
   simp only [laws_markText.l0]; rw [if_neg (by omega), if_pos (by omega)]; exact ⟨_, rfl⟩
  ·have hd : Int.tdiv c 10 = c / 10 := Int.tdiv_eq_ediv_of_nonneg h0
   rw [Int.pow_succ] at h1
   have h3 : c / 10 < 10 ^ k := by omega
   obtain ⟨r, hr⟩ := mtext_l0 k (c / 10) (strOfNums (([(wrap64 (48 + Int.tmod c 10)) % 256] : List Int)) ++ out) (by omega) h3 (by omega) (by rw [ByteArray.size_append, digit_size]; omega); refine ⟨r, ?_⟩; rw [← hr]; show laws_markText.l0 (k + 1 + 1) c out = _; rw [laws_markText.l0]; rw [if_pos (by omega), Option.bind_some, digit_size, if_pos (by omega), hd, w64 (n := c / 10) (by omega)]
def mtext (c : Int) : ByteArray := (laws_markText.f 40 c).getD ⟨#[]⟩
theorem mtext_eq (c : Int) (h0 : 0 ≤ c) (h1 : c ≤ 1000000000) (k : Nat) (hk : 40 ≤ k) : laws_markText.f k c = some (mtext c) := by
 have h : ∃ r, laws_markText.f 40 c = some r := by
  unfold laws_markText.f
  by_cases e : c ≤ 0
  ·rw [if_pos e]; exact ⟨_, rfl⟩
  ·rw [if_neg e]
   exact mtext_l0 39 c _ h0 (Int.lt_of_le_of_lt h1 (by decide)) h1 (by decide)
 obtain ⟨r, hr⟩ := h
 have e : mtext c = r := by unfold mtext; rw [hr]; rfl
 rw [e]; obtain ⟨d, rfl⟩ : ∃ d, k = 40 + d := ⟨k - 40, by omega⟩; clear hk
 induction d with
 | zero => exact hr
 | succ d ih => exact laws_markText.mono c (40 + d) r ih
def conv_ArticleS (x : S74) : S91 := ⟨x.f0, x.f1, x.f2, x.f3, x.f4, x.f5, x.f6, x.f7, x.f8⟩
theorem full_ArticleS_l1 (d : Nat) : ∀ (k : Nat) (x0 : List S74) (x5 : List S91) (i : Nat), x5.length - i = d → x0.length ≤ i → i ≤ x5.length → x5.length ≤ 4000000 → d < k →
  full_toArticleS.l1 k x0 x5 (i : Int) = some (x5.take i ++ List.replicate d (⟨(⟨#[126, 115, 112, 97, 114, 101, 126]⟩ : ByteArray), (-7000000000000000101), (-7000000000000000101), (-7000000000000000101), (-7000000000000000101), (-7000000000000000101), (-7000000000000000101), (-7000000000000000101), (-7000000000000000101)⟩ : S91)) := by
 induction d with
 | zero =>
  intro k x0 x5 i hd h1 h2 h3 hk; obtain ⟨k, rfl⟩ : ∃ m, k = m + 1 := ⟨k - 1, by omega⟩; simp only [full_toArticleS.l1]; rw [if_neg (by omega), if_pos (by omega), if_pos (by omega), List.take_of_length_le (by omega)]
  simp
 | succ d ih =>
  intro k x0 x5 i hd h1 h2 h3 hk; obtain ⟨k, rfl⟩ : ∃ m, k = m + 1 := ⟨k - 1, by omega⟩; have hr := ih k x0 (x5.set i (⟨(⟨#[126, 115, 112, 97, 114, 101, 126]⟩ : ByteArray), (-7000000000000000101), (-7000000000000000101), (-7000000000000000101), (-7000000000000000101), (-7000000000000000101), (-7000000000000000101), (-7000000000000000101), (-7000000000000000101)⟩ : S91)) (i + 1) Zbr (by omega) Zbr Zbr (by omega); rw [take_set_snoc _ _ _ (by omega), List.append_assoc, List.singleton_append, ← List.replicate_succ] at hr; rw [← hr]; simp only [full_toArticleS.l1, laws_fillerArticle.f, Option.bind_some]; rw [if_pos (by omega)]; rw [if_pos (by omega), w64 (by omega)]
  rfl
theorem full_ArticleS_l0 (d : Nat) : ∀ (k : Nat) (x0 : List S74) (x5 : List S91) (i : Nat), x0.length - i = d → i ≤ x0.length → x0.length ≤ x5.length → x5.length ≤ 4000000 → x5.take i = (x0.take i).map conv_ArticleS → d + x5.length + 1 < k →
  full_toArticleS.l0 k x0 x5 (i : Int) = some (x0.map conv_ArticleS ++ List.replicate (x5.length - x0.length) (⟨(⟨#[126, 115, 112, 97, 114, 101, 126]⟩ : ByteArray), (-7000000000000000101), (-7000000000000000101), (-7000000000000000101), (-7000000000000000101), (-7000000000000000101), (-7000000000000000101), (-7000000000000000101), (-7000000000000000101)⟩ : S91)) := by
 induction d with
 | zero =>
  intro k x0 x5 i hd h1 h2 h3 h4 hk; obtain ⟨k, rfl⟩ : ∃ m, k = m + 1 := ⟨k - 1, by omega⟩; simp only [full_toArticleS.l0]; rw [if_neg (by omega), full_ArticleS_l1 (x5.length - x0.length) k x0 x5 x0.length rfl (Nat.le_refl _) h2 h3 (by omega)]
  have e : i = x0.length := by omega
  subst e; rw [h4, List.take_length]
 | succ d ih =>
  intro k x0 x5 i hd h1 h2 h3 h4 hk; obtain ⟨k, rfl⟩ : ∃ m, k = m + 1 := ⟨k - 1, by omega⟩
  have hi : i < x0.length := by omega
  have h5 : (x5.set i (conv_ArticleS x0[i])).take (i + 1) = (x0.take (i + 1)).map conv_ArticleS := by
   rw [take_set_snoc _ _ _ (by omega), h4, List.take_succ_eq_append_getElem hi, List.map_append]; rfl
  have hr := ih k x0 (x5.set i (conv_ArticleS x0[i])) (i + 1) (by omega) (by omega) Zbr Zbr h5 Zbr; rw [List.length_set] at hr; rw [← hr]; simp only [full_toArticleS.l0, laws_toArticle.f, Option.bind_some]; rw [if_pos (by omega), if_pos (by omega)]; rw [if_pos (by omega), w64 (by omega), rd_T74, getD_at _ _ _ hi]
  rfl
theorem to_ArticleS_l1 (d : Nat) : ∀ (k : Nat) (x0 : List S74) (x5 : List S91) (i : Nat), x5.length - i = d → x0.length ≤ i → i ≤ x5.length → x5.length ≤ 4000000 → d < k →
  laws_toArticleS.l1 k x0 x5 (i : Int) = some (x5.take x0.length) := by
 induction d with
 | zero =>
  intro k x0 x5 i hd h1 h2 h3 hk; obtain ⟨k, rfl⟩ : ∃ m, k = m + 1 := ⟨k - 1, by omega⟩; simp only [laws_toArticleS.l1]; rw [if_neg (by omega), if_pos (by omega), if_pos (by omega), Int.toNat_natCast]
 | succ d ih =>
  intro k x0 x5 i hd h1 h2 h3 hk; obtain ⟨k, rfl⟩ : ∃ m, k = m + 1 := ⟨k - 1, by omega⟩; have hr := ih k x0 (x5.set i (⟨(⟨#[126, 115, 112, 97, 114, 101, 126]⟩ : ByteArray), (-7000000000000000101), (-7000000000000000101), (-7000000000000000101), (-7000000000000000101), (-7000000000000000101), (-7000000000000000101), (-7000000000000000101), (-7000000000000000101)⟩ : S91)) (i + 1) Zbr (by omega) Zbr Zbr (by omega); rw [take_set_ge _ _ _ _ h1] at hr; rw [← hr]; simp only [laws_toArticleS.l1, laws_fillerArticle.f, Option.bind_some]; rw [if_pos (by omega)]; rw [if_pos (by omega), w64 (by omega)]
  rfl
theorem to_ArticleS_l0 (d : Nat) : ∀ (k : Nat) (x0 : List S74) (x5 : List S91) (i : Nat), x0.length - i = d → i ≤ x0.length → x0.length ≤ x5.length → x5.length ≤ 4000000 → x5.take i = (x0.take i).map conv_ArticleS → d + x5.length + 1 < k →
  laws_toArticleS.l0 k x0 x5 (i : Int) = some (x0.map conv_ArticleS) := by
 induction d with
 | zero =>
  intro k x0 x5 i hd h1 h2 h3 h4 hk; obtain ⟨k, rfl⟩ : ∃ m, k = m + 1 := ⟨k - 1, by omega⟩; simp only [laws_toArticleS.l0]; rw [if_neg (by omega), to_ArticleS_l1 (x5.length - x0.length) k x0 x5 x0.length rfl (Nat.le_refl _) h2 h3 (by omega)]
  have e : i = x0.length := by omega
  subst e; rw [h4, List.take_length]
 | succ d ih =>
  intro k x0 x5 i hd h1 h2 h3 h4 hk; obtain ⟨k, rfl⟩ : ∃ m, k = m + 1 := ⟨k - 1, by omega⟩
  have hi : i < x0.length := by omega
  have h5 : (x5.set i (conv_ArticleS x0[i])).take (i + 1) = (x0.take (i + 1)).map conv_ArticleS := by
   rw [take_set_snoc _ _ _ (by omega), h4, List.take_succ_eq_append_getElem hi, List.map_append]; rfl
  have hr := ih k x0 (x5.set i (conv_ArticleS x0[i])) (i + 1) (by omega) (by omega) Zbr Zbr h5 Zbr; rw [← hr]; simp only [laws_toArticleS.l0, laws_toArticle.f, Option.bind_some]; rw [if_pos (by omega), if_pos (by omega)]; rw [if_pos (by omega), w64 (by omega), rd_T74, getD_at _ _ _ hi]
  rfl
theorem to_ArticleS (l : List S74) (hl : l.length ≤ 1000000) : ∃ (L : List S91) (t : Int), L ≠ [] ∧ (l.map conv_ArticleS = L.take l.length ∧ l.length ≤ L.length) ∧ (l.map conv_ArticleS).length = l.length ∧ L.length ≤ 2000001 ∧
  laws_roomBehind.f ((l.map conv_ArticleS).length : Int) = some t ∧ wrap64 (((l.map conv_ArticleS).length : Int) + t) = (L.length : Int) ∧
  Evt (fun k => full_toArticleS.f k l false = some L) ∧ Evt (fun k => laws_toArticleS.f k l true = some (l.map conv_ArticleS)) := by
 obtain ⟨t, ht, h0, h1, h2⟩ := room_some l.length; have hw : wrap64 ((l.length : Int) + t) = (l.length : Int) + t := w64 (by omega)
 have hn : ((l.length : Int) + t).toNat = l.length + t.toNat := by omega
 have hm : (l.map conv_ArticleS).length = l.length := List.length_map _
 have hlen : (l.map conv_ArticleS ++ List.replicate (l.length + t.toNat - l.length) (⟨(⟨#[126, 115, 112, 97, 114, 101, 126]⟩ : ByteArray), (-7000000000000000101), (-7000000000000000101), (-7000000000000000101), (-7000000000000000101), (-7000000000000000101), (-7000000000000000101), (-7000000000000000101), (-7000000000000000101)⟩ : S91)).length = l.length + t.toNat := by rw [List.length_append, List.length_replicate, hm]; omega
 refine ⟨l.map conv_ArticleS ++ List.replicate (l.length + t.toNat - l.length) (⟨(⟨#[126, 115, 112, 97, 114, 101, 126]⟩ : ByteArray), (-7000000000000000101), (-7000000000000000101), (-7000000000000000101), (-7000000000000000101), (-7000000000000000101), (-7000000000000000101), (-7000000000000000101), (-7000000000000000101)⟩ : S91), t, ?_, ⟨?_, by omega⟩, hm, by omega, by rw [hm]; exact ht, by rw [hm, hw, hlen]; omega, ?_, ?_⟩
 ·intro e
  rw [e] at hlen
  simp at hlen
  have := h2 (by omega)
  omega
 ·rw [← hm, List.take_left]
 ·refine Evt.succ ⟨l.length + (l.length + t.toNat) + 2, fun k hk => ?_⟩
  show full_toArticleS.f (k + 1) l false = _
  unfold full_toArticleS.f
  rw [if_neg (by decide)]; simp only [full_toArticleS.j0]; rw [if_neg (by decide), ht]; simp only [Option.bind_some]; rw [hw, if_pos (by omega), hn, if_pos (by omega)]; have z := full_ArticleS_l0 l.length k l (List.replicate (l.length + t.toNat) z91) 0 (by omega) (by omega) Zbs Zbs (by simp) Zbs; rw [List.length_replicate] at z; exact z
 ·refine Evt.succ ⟨l.length + (l.length + t.toNat) + 2, fun k hk => ?_⟩
  show laws_toArticleS.f (k + 1) l true = _
  unfold laws_toArticleS.f
  rw [if_pos rfl]; simp only [laws_toArticleS.j0]
  by_cases e : l.length = 0
  ·have e2 : l = [] := List.length_eq_zero_iff.mp e
   subst e2
   rfl
  ·have e3 : ((l.length : Int) == 0) = false := by rw [beq_eq_false_iff_ne]; omega
   rw [e3, if_neg (by decide), ht]; simp only [Option.bind_some]; rw [hw, if_pos (by omega), hn, if_pos (by omega)]; exact to_ArticleS_l0 l.length k l (List.replicate (l.length + t.toNat) z91) 0 (by omega) (by omega) Zbs Zbs (by simp) Zbs
theorem eq_ArticleS_l0 (d : Nat) : ∀ (k : Nat) (xs : List S91) (i : Nat), xs.length - i = d → i ≤ xs.length → xs.length ≤ 4000000 → d < k → laws_eqArticleS.l0 k xs xs (i : Int) = some true := by
 induction d with
 | zero =>
  intro k xs i hd h1 h2 hk; obtain ⟨k, rfl⟩ : ∃ m, k = m + 1 := ⟨k - 1, by omega⟩; simp only [laws_eqArticleS.l0]; rw [if_neg (by omega)]
 | succ d ih =>
  intro k xs i hd h1 h2 hk; obtain ⟨k, rfl⟩ : ∃ m, k = m + 1 := ⟨k - 1, by omega⟩; have hr := ih k xs (i + 1) (by omega) (by omega) h2 (by omega); simp only [laws_eqArticleS.l0, laws_eqArticle.f, if_true, Option.bind_some]; rw [if_pos (by omega), if_pos (by omega), if_pos (by omega), w64 (by omega)]; exact hr
theorem eq_ArticleS (xs : List S91) (h : xs.length ≤ 4000000) : Evt (fun k => laws_eqArticleS.f k xs xs = some true) := by
 refine ⟨xs.length + 1, fun k hk => ?_⟩; show laws_eqArticleS.f k xs xs = _
 unfold laws_eqArticleS.f
 rw [if_pos rfl]; exact eq_ArticleS_l0 xs.length k xs 0 (by omega) (by omega) h (by omega)
theorem sz_ArticleS_l0 (d : Nat) : ∀ (k : Nat) (l : List S74) (a : Int) (i : Nat), l.length - i = d → i ≤ l.length → l.length ≤ 1000000 → 0 ≤ a → a ≤ 1000000 → (∀ x ∈ l, x.f0.size ≤ maxLen) → d < k →
  ∃ s, laws_szArticleS.l0 k l a (i : Int) = some s ∧ (∀ m, k ≤ m → laws_szArticleS.l0 m l a (i : Int) = some s) ∧ (s < 0 ∨ (0 ≤ s ∧ s ≤ a ∧ ∀ j, i ≤ j → (h : j < l.length) → (l[j]).f0.size ≤ 1000000)) := by
 induction d with
 | zero =>
  intro k l a i hd h1 h2 h3 h4 hp hk
  have e : ∀ m, k ≤ m → laws_szArticleS.l0 m l a (i : Int) = some a := fun m hm => by
   obtain ⟨m, rfl⟩ : ∃ q, m = q + 1 := ⟨m - 1, by omega⟩; simp only [laws_szArticleS.l0]; rw [if_neg (by omega)]
  exact ⟨a, e k (Nat.le_refl _), e, .inr ⟨h3, Int.le_refl _, fun j h5 h6 => absurd h6 (by omega)⟩⟩
 | succ d ih =>
  intro k l a i hd h1 h2 h3 h4 hp hk
  have hi : i < l.length := by omega
  have hs := hp l[i] (List.getElem_mem hi); have hm : maxLen = 9223372036854775807 := rfl
  have er : rd_T74 l (i : Int) = l[i] := by unfold rd_T74; exact getD_at _ _ _ hi
  by_cases c : a - ((l[i]).f0.size : Int) < 0
  ·have e : ∀ m, k ≤ m → laws_szArticleS.l0 m l a (i : Int) = some (-1) := fun m hm => by
    obtain ⟨m, rfl⟩ : ∃ q, m = q + 1 := ⟨m - 1, by omega⟩; simp only [laws_szArticleS.l0, laws_szArticle.f]; rw [if_pos (by omega), if_pos (by omega), er, w64 (n := a - ((l[i]).f0.size : Int)) (by omega), if_pos c]
    rfl
   exact ⟨-1, e k (Nat.le_refl _), e, .inl (by omega)⟩
  ·obtain ⟨s, _, e2, e3⟩ := ih (k - 1) l (a - ((l[i]).f0.size : Int)) (i + 1) (by omega) (by omega) h2 (by omega) (by omega) hp (by omega)
   have e : ∀ m, k ≤ m → laws_szArticleS.l0 m l a (i : Int) = some s := fun m hm => by
    obtain ⟨m, rfl⟩ : ∃ q, m = q + 1 := ⟨m - 1, by omega⟩; simp only [laws_szArticleS.l0, laws_szArticle.f]; rw [if_pos (by omega), if_pos (by omega), er, w64 (n := a - ((l[i]).f0.size : Int)) (by omega), if_neg c, Option.bind_some, if_neg c, w64 (n := (i : Int) + 1) (by omega)]; exact e2 m (by omega)
   refine ⟨s, e k (Nat.le_refl _), e, ?_⟩
   rcases e3 with e3 | ⟨e3, e4, e5⟩
   ·exact .inl e3
   ·refine .inr ⟨e3, by omega, fun j h5 h6 => ?_⟩
    by_cases q : j = i
    ·subst q; omega
    ·exact e5 j (by omega) h6
theorem sz_ArticleS (l : List S74) (a : Int) (h0 : 0 ≤ a) (h1 : a ≤ 1000000) (hl : l.length ≤ maxLen) (hp : ∀ x ∈ l, x.f0.size ≤ maxLen) :
  ∃ s, Evt (fun k => laws_szArticleS.f k l a = some s) ∧ (s < 0 ∨ (0 ≤ s ∧ s ≤ a ∧ l.length ≤ 1000000 ∧ ∀ x ∈ l, x.f0.size ≤ 1000000)) := by
 have hm : maxLen = 9223372036854775807 := rfl
 by_cases h : a - (l.length : Int) < 0
 ·refine ⟨-1, Evt.of fun k => ?_, .inl (by omega)⟩
  unfold laws_szArticleS.f
  rw [w64 (by omega), if_pos h]
 ·obtain ⟨s, _, e2, e3⟩ := sz_ArticleS_l0 l.length (l.length + 1) l (a - (l.length : Int)) 0 (by omega) (by omega) (by omega) (by omega) (by omega) hp (by omega)
  refine ⟨s, ⟨l.length + 1, fun k hk => ?_⟩, ?_⟩
  ·show laws_szArticleS.f k l a = _
   unfold laws_szArticleS.f
   rw [w64 (by omega), if_neg h]; exact e2 k hk
  ·rcases e3 with e3 | ⟨e3, e4, e5⟩
   ·exact .inl e3
   ·refine .inr ⟨e3, by omega, by omega, fun x hx => ?_⟩
    obtain ⟨j, hj, rfl⟩ := List.getElem_of_mem hx; exact e5 j (by omega) hj
def seq_ArticleS : Nat → Int → List S91
 | 0, _ => []
 | d + 1, c => (⟨mtext (c), c + 1, c + 2, c + 3, c + 4, c + 5, c + 6, c + 7, c + 8⟩ : S91) :: seq_ArticleS d (c + 9)
theorem mark_ArticleS_l0 (d : Nat) : ∀ (k : Nat) (xs : List S91) (c : Int) (i : Nat), xs.length - i = d → i ≤ xs.length → xs.length ≤ 4000000 → 0 ≤ c → c ≤ 1000000000 - 9 * (xs.length - i : Nat) → d + 40 < k →
  laws_markArticleS.l0 k xs c (i : Int) = some (c + 9 * d, xs.take i ++ seq_ArticleS d c) := by
 induction d with
 | zero =>
  intro k xs c i hd h1 h2 h3 h4 hk; obtain ⟨k, rfl⟩ : ∃ m, k = m + 1 := ⟨k - 1, by omega⟩; simp only [laws_markArticleS.l0, seq_ArticleS]; rw [if_neg (by omega), List.take_of_length_le (by omega), List.append_nil]
  congr 2; omega
 | succ d ih =>
  intro k xs c i hd h1 h2 h3 h4 hk; obtain ⟨k, rfl⟩ : ∃ m, k = m + 1 := ⟨k - 1, by omega⟩; have hr := ih k (xs.set i (⟨mtext (c), c + 1, c + 2, c + 3, c + 4, c + 5, c + 6, c + 7, c + 8⟩ : S91)) (c + 9) (i + 1) Zbr Zbr Zbr (by omega) Zbr (by omega); rw [set_take_app _ _ _ _ (by omega)] at hr
  have e : c + 9 * ((d + 1 : Nat) : Int) = c + 9 + 9 * (d : Int) := by omega
  rw [e]; show _ = some (c + 9 + 9 * (d : Int), xs.take i ++ (⟨mtext (c), c + 1, c + 2, c + 3, c + 4, c + 5, c + 6, c + 7, c + 8⟩ : S91) :: seq_ArticleS d (c + 9)); rw [← hr]
  have hc0 : 0 ≤ c := by omega
  have hc1 : c ≤ 1000000000 := by omega
  have mt : laws_markText.f k (c) = some (mtext (c)) := mtext_eq _ (by omega) (by omega) k (by omega)
  have g2 : (0 : Int) ≤ (i : Int) := by omega
  have wi : ∀ _ : Unit, wrap64 ((i : Int) + 1) = (i : Int) + 1 := fun _ => w64 (by omega)
  have ei : ((i + 1 : Nat) : Int) = (i : Int) + 1 := by omega
  have g1 : (i : Int) < (xs.length : Int) := by omega
  have rs : ∀ v : S91, rd_T91 (xs.set i v) (i : Int) = v := fun v => by unfold rd_T91; rw [Int.toNat_natCast, getD_set _ _ _ _ (by omega)]
  have w1 : wrap64 (c + 1) = c + 1 := w64c0 c hc0 hc1; have w2 : wrap64 (c + 1 + 1) = c + 2 := w64c c 1 2 hc0 hc1 (by decide) rfl; have w3 : wrap64 (c + 2 + 1) = c + 3 := w64c c 2 3 hc0 hc1 (by decide) rfl; have w4 : wrap64 (c + 3 + 1) = c + 4 := w64c c 3 4 hc0 hc1 (by decide) rfl; have w5 : wrap64 (c + 4 + 1) = c + 5 := w64c c 4 5 hc0 hc1 (by decide) rfl; have w6 : wrap64 (c + 5 + 1) = c + 6 := w64c c 5 6 hc0 hc1 (by decide) rfl; have w7 : wrap64 (c + 6 + 1) = c + 7 := w64c c 6 7 hc0 hc1 (by decide) rfl; have w8 : wrap64 (c + 7 + 1) = c + 8 := w64c c 7 8 hc0 hc1 (by decide) rfl; have w9 : wrap64 (c + 8 + 1) = c + 9 := w64c c 8 9 hc0 hc1 (by decide) rfl; simp only [laws_markArticleS.l0, Option.bind_some, if_pos g1, if_pos g2, w1, w2, w3, w4, w5, w6, w7, w8, w9, mt, wi (), Int.toNat_natCast, set_set, rs, ei]
theorem mark_ArticleS (xs : List S91) (c : Int) (hx : xs.length ≤ 4000000) (h0 : 0 ≤ c) (h1 : c ≤ 900000000) : Evt (fun k => laws_markArticleS.f k xs c = some (c + 9 * (xs.length : Int), seq_ArticleS xs.length c)) := by
 refine ⟨xs.length + 41, fun k hk => ?_⟩; show laws_markArticleS.f k xs c = _
 unfold laws_markArticleS.f
 exact mark_ArticleS_l0 xs.length k xs c 0 (by omega) (by omega) hx h0 (by omega) (by omega)
def conv_CueS (x : S77) : S80 := ⟨x.f0, x.f1, x.f2, x.f3⟩
theorem full_CueS_l1 (d : Nat) : ∀ (k : Nat) (x0 : List S77) (x5 : List S80) (i : Nat), x5.length - i = d → x0.length ≤ i → i ≤ x5.length → x5.length ≤ 4000000 → d < k →
  full_toCueS.l1 k x0 x5 (i : Int) = some (x5.take i ++ List.replicate d (⟨(-7000000000000000101), (-7000000000000000101), (⟨#[126, 115, 112, 97, 114, 101, 126]⟩ : ByteArray), (-7000000000000000101)⟩ : S80)) := by
 induction d with
 | zero =>
  intro k x0 x5 i hd h1 h2 h3 hk; obtain ⟨k, rfl⟩ : ∃ m, k = m + 1 := ⟨k - 1, by omega⟩; simp only [full_toCueS.l1]; rw [if_neg (by omega), if_pos (by omega), if_pos (by omega), List.take_of_length_le (by omega)]
  simp
 | succ d ih =>
  intro k x0 x5 i hd h1 h2 h3 hk; obtain ⟨k, rfl⟩ : ∃ m, k = m + 1 := ⟨k - 1, by omega⟩; have hr := ih k x0 (x5.set i (⟨(-7000000000000000101), (-7000000000000000101), (⟨#[126, 115, 112, 97, 114, 101, 126]⟩ : ByteArray), (-7000000000000000101)⟩ : S80)) (i + 1) Zbr (by omega) Zbr Zbr (by omega); rw [take_set_snoc _ _ _ (by omega), List.append_assoc, List.singleton_append, ← List.replicate_succ] at hr; rw [← hr]; simp only [full_toCueS.l1, laws_fillerCue.f, Option.bind_some]; rw [if_pos (by omega)]; rw [if_pos (by omega), w64 (by omega)]
  rfl
theorem full_CueS_l0 (d : Nat) : ∀ (k : Nat) (x0 : List S77) (x5 : List S80) (i : Nat), x0.length - i = d → i ≤ x0.length → x0.length ≤ x5.length → x5.length ≤ 4000000 → x5.take i = (x0.take i).map conv_CueS → d + x5.length + 1 < k →
  full_toCueS.l0 k x0 x5 (i : Int) = some (x0.map conv_CueS ++ List.replicate (x5.length - x0.length) (⟨(-7000000000000000101), (-7000000000000000101), (⟨#[126, 115, 112, 97, 114, 101, 126]⟩ : ByteArray), (-7000000000000000101)⟩ : S80)) := by
 induction d with
 | zero =>
  intro k x0 x5 i hd h1 h2 h3 h4 hk; obtain ⟨k, rfl⟩ : ∃ m, k = m + 1 := ⟨k - 1, by omega⟩; simp only [full_toCueS.l0]; rw [if_neg (by omega), full_CueS_l1 (x5.length - x0.length) k x0 x5 x0.length rfl (Nat.le_refl _) h2 h3 (by omega)]
  have e : i = x0.length := by omega
  subst e; rw [h4, List.take_length]
 | succ d ih =>
  intro k x0 x5 i hd h1 h2 h3 h4 hk; obtain ⟨k, rfl⟩ : ∃ m, k = m + 1 := ⟨k - 1, by omega⟩
  have hi : i < x0.length := by omega
  have h5 : (x5.set i (conv_CueS x0[i])).take (i + 1) = (x0.take (i + 1)).map conv_CueS := by
   rw [take_set_snoc _ _ _ (by omega), h4, List.take_succ_eq_append_getElem hi, List.map_append]; rfl
  have hr := ih k x0 (x5.set i (conv_CueS x0[i])) (i + 1) (by omega) (by omega) Zbr Zbr h5 Zbr; rw [List.length_set] at hr; rw [← hr]; simp only [full_toCueS.l0, laws_toCue.f, Option.bind_some]; rw [if_pos (by omega), if_pos (by omega)]; rw [if_pos (by omega), w64 (by omega), rd_T77, getD_at _ _ _ hi]
  rfl
theorem to_CueS_l1 (d : Nat) : ∀ (k : Nat) (x0 : List S77) (x5 : List S80) (i : Nat), x5.length - i = d → x0.length ≤ i → i ≤ x5.length → x5.length ≤ 4000000 → d < k →
  laws_toCueS.l1 k x0 x5 (i : Int) = some (x5.take x0.length) := by
 induction d with
 | zero =>
  intro k x0 x5 i hd h1 h2 h3 hk; obtain ⟨k, rfl⟩ : ∃ m, k = m + 1 := ⟨k - 1, by omega⟩; simp only [laws_toCueS.l1]; rw [if_neg (by omega), if_pos (by omega), if_pos (by omega), Int.toNat_natCast]
 | succ d ih =>
  intro k x0 x5 i hd h1 h2 h3 hk; obtain ⟨k, rfl⟩ : ∃ m, k = m + 1 := ⟨k - 1, by omega⟩; have hr := ih k x0 (x5.set i (⟨(-7000000000000000101), (-7000000000000000101), (⟨#[126, 115, 112, 97, 114, 101, 126]⟩ : ByteArray), (-7000000000000000101)⟩ : S80)) (i + 1) Zbr (by omega) Zbr Zbr (by omega); rw [take_set_ge _ _ _ _ h1] at hr; rw [← hr]; simp only [laws_toCueS.l1, laws_fillerCue.f, Option.bind_some]; rw [if_pos (by omega)]; rw [if_pos (by omega), w64 (by omega)]
  rfl
theorem to_CueS_l0 (d : Nat) : ∀ (k : Nat) (x0 : List S77) (x5 : List S80) (i : Nat), x0.length - i = d → i ≤ x0.length → x0.length ≤ x5.length → x5.length ≤ 4000000 → x5.take i = (x0.take i).map conv_CueS → d + x5.length + 1 < k →
  laws_toCueS.l0 k x0 x5 (i : Int) = some (x0.map conv_CueS) := by
 induction d with
 | zero =>
  intro k x0 x5 i hd h1 h2 h3 h4 hk; obtain ⟨k, rfl⟩ : ∃ m, k = m + 1 := ⟨k - 1, by omega⟩; simp only [laws_toCueS.l0]; rw [if_neg (by omega), to_CueS_l1 (x5.length - x0.length) k x0 x5 x0.length rfl (Nat.le_refl _) h2 h3 (by omega)]
  have e : i = x0.length := by omega
  subst e; rw [h4, List.take_length]
 | succ d ih =>
  intro k x0 x5 i hd h1 h2 h3 h4 hk; obtain ⟨k, rfl⟩ : ∃ m, k = m + 1 := ⟨k - 1, by omega⟩
  have hi : i < x0.length := by omega
  have h5 : (x5.set i (conv_CueS x0[i])).take (i + 1) = (x0.take (i + 1)).map conv_CueS := by
   rw [take_set_snoc _ _ _ (by omega), h4, List.take_succ_eq_append_getElem hi, List.map_append]; rfl
  have hr := ih k x0 (x5.set i (conv_CueS x0[i])) (i + 1) (by omega) (by omega) Zbr Zbr h5 Zbr; rw [← hr]; simp only [laws_toCueS.l0, laws_toCue.f, Option.bind_some]; rw [if_pos (by omega), if_pos (by omega)]; rw [if_pos (by omega), w64 (by omega), rd_T77, getD_at _ _ _ hi]
  rfl
theorem to_CueS (l : List S77) (hl : l.length ≤ 1000000) : ∃ (L : List S80) (t : Int), L ≠ [] ∧ (l.map conv_CueS = L.take l.length ∧ l.length ≤ L.length) ∧ (l.map conv_CueS).length = l.length ∧ L.length ≤ 2000001 ∧
  laws_roomBehind.f ((l.map conv_CueS).length : Int) = some t ∧ wrap64 (((l.map conv_CueS).length : Int) + t) = (L.length : Int) ∧
  Evt (fun k => full_toCueS.f k l false = some L) ∧ Evt (fun k => laws_toCueS.f k l true = some (l.map conv_CueS)) := by
 obtain ⟨t, ht, h0, h1, h2⟩ := room_some l.length; have hw : wrap64 ((l.length : Int) + t) = (l.length : Int) + t := w64 (by omega)
 have hn : ((l.length : Int) + t).toNat = l.length + t.toNat := by omega
 have hm : (l.map conv_CueS).length = l.length := List.length_map _
 have hlen : (l.map conv_CueS ++ List.replicate (l.length + t.toNat - l.length) (⟨(-7000000000000000101), (-7000000000000000101), (⟨#[126, 115, 112, 97, 114, 101, 126]⟩ : ByteArray), (-7000000000000000101)⟩ : S80)).length = l.length + t.toNat := by rw [List.length_append, List.length_replicate, hm]; omega
 refine ⟨l.map conv_CueS ++ List.replicate (l.length + t.toNat - l.length) (⟨(-7000000000000000101), (-7000000000000000101), (⟨#[126, 115, 112, 97, 114, 101, 126]⟩ : ByteArray), (-7000000000000000101)⟩ : S80), t, ?_, ⟨?_, by omega⟩, hm, by omega, by rw [hm]; exact ht, by rw [hm, hw, hlen]; omega, ?_, ?_⟩
 ·intro e
  rw [e] at hlen
  simp at hlen
  have := h2 (by omega)
  omega
 ·rw [← hm, List.take_left]
 ·refine Evt.succ ⟨l.length + (l.length + t.toNat) + 2, fun k hk => ?_⟩
  show full_toCueS.f (k + 1) l false = _
  unfold full_toCueS.f
  rw [if_neg (by decide)]; simp only [full_toCueS.j0]; rw [if_neg (by decide), ht]; simp only [Option.bind_some]; rw [hw, if_pos (by omega), hn, if_pos (by omega)]; have z := full_CueS_l0 l.length k l (List.replicate (l.length + t.toNat) z80) 0 (by omega) (by omega) Zbs Zbs (by simp) Zbs; rw [List.length_replicate] at z; exact z
 ·refine Evt.succ ⟨l.length + (l.length + t.toNat) + 2, fun k hk => ?_⟩
  show laws_toCueS.f (k + 1) l true = _
  unfold laws_toCueS.f
  rw [if_pos rfl]; simp only [laws_toCueS.j0]
  by_cases e : l.length = 0
  ·have e2 : l = [] := List.length_eq_zero_iff.mp e
   subst e2
   rfl
  ·have e3 : ((l.length : Int) == 0) = false := by rw [beq_eq_false_iff_ne]; omega
   rw [e3, if_neg (by decide), ht]; simp only [Option.bind_some]; rw [hw, if_pos (by omega), hn, if_pos (by omega)]; exact to_CueS_l0 l.length k l (List.replicate (l.length + t.toNat) z80) 0 (by omega) (by omega) Zbs Zbs (by simp) Zbs
theorem eq_CueS_l0 (d : Nat) : ∀ (k : Nat) (xs : List S80) (i : Nat), xs.length - i = d → i ≤ xs.length → xs.length ≤ 4000000 → d < k → laws_eqCueS.l0 k xs xs (i : Int) = some true := by
 induction d with
 | zero =>
  intro k xs i hd h1 h2 hk; obtain ⟨k, rfl⟩ : ∃ m, k = m + 1 := ⟨k - 1, by omega⟩; simp only [laws_eqCueS.l0]; rw [if_neg (by omega)]
 | succ d ih =>
  intro k xs i hd h1 h2 hk; obtain ⟨k, rfl⟩ : ∃ m, k = m + 1 := ⟨k - 1, by omega⟩; have hr := ih k xs (i + 1) (by omega) (by omega) h2 (by omega); simp only [laws_eqCueS.l0, laws_eqCue.f, if_true, Option.bind_some]; rw [if_pos (by omega), if_pos (by omega), if_pos (by omega), w64 (by omega)]; exact hr
theorem eq_CueS (xs : List S80) (h : xs.length ≤ 4000000) : Evt (fun k => laws_eqCueS.f k xs xs = some true) := by
 refine ⟨xs.length + 1, fun k hk => ?_⟩; show laws_eqCueS.f k xs xs = _
 unfold laws_eqCueS.f
 rw [if_pos rfl]; exact eq_CueS_l0 xs.length k xs 0 (by omega) (by omega) h (by omega)
theorem sz_CueS_l0 (d : Nat) : ∀ (k : Nat) (l : List S77) (a : Int) (i : Nat), l.length - i = d → i ≤ l.length → l.length ≤ 1000000 → 0 ≤ a → a ≤ 1000000 → (∀ x ∈ l, x.f2.size ≤ maxLen) → d < k →
  ∃ s, laws_szCueS.l0 k l a (i : Int) = some s ∧ (∀ m, k ≤ m → laws_szCueS.l0 m l a (i : Int) = some s) ∧ (s < 0 ∨ (0 ≤ s ∧ s ≤ a ∧ ∀ j, i ≤ j → (h : j < l.length) → (l[j]).f2.size ≤ 1000000)) := by
 induction d with
 | zero =>
  intro k l a i hd h1 h2 h3 h4 hp hk
  have e : ∀ m, k ≤ m → laws_szCueS.l0 m l a (i : Int) = some a := fun m hm => by
   obtain ⟨m, rfl⟩ : ∃ q, m = q + 1 := ⟨m - 1, by omega⟩; simp only [laws_szCueS.l0]; rw [if_neg (by omega)]
  exact ⟨a, e k (Nat.le_refl _), e, .inr ⟨h3, Int.le_refl _, fun j h5 h6 => absurd h6 (by omega)⟩⟩
 | succ d ih =>
  intro k l a i hd h1 h2 h3 h4 hp hk
  have hi : i < l.length := by omega
  have hs := hp l[i] (List.getElem_mem hi); have hm : maxLen = 9223372036854775807 := rfl
  have er : rd_T77 l (i : Int) = l[i] := by unfold rd_T77; exact getD_at _ _ _ hi
  by_cases c : a - ((l[i]).f2.size : Int) < 0
  ·have e : ∀ m, k ≤ m → laws_szCueS.l0 m l a (i : Int) = some (-1) := fun m hm => by
    obtain ⟨m, rfl⟩ : ∃ q, m = q + 1 := ⟨m - 1, by omega⟩; simp only [laws_szCueS.l0, laws_szCue.f]; rw [if_pos (by omega), if_pos (by omega), er, w64 (n := a - ((l[i]).f2.size : Int)) (by omega), if_pos c]
    rfl
   exact ⟨-1, e k (Nat.le_refl _), e, .inl (by omega)⟩
  ·obtain ⟨s, _, e2, e3⟩ := ih (k - 1) l (a - ((l[i]).f2.size : Int)) (i + 1) (by omega) (by omega) h2 (by omega) (by omega) hp (by omega)
   have e : ∀ m, k ≤ m → laws_szCueS.l0 m l a (i : Int) = some s := fun m hm => by
    obtain ⟨m, rfl⟩ : ∃ q, m = q + 1 := ⟨m - 1, by omega⟩; simp only [laws_szCueS.l0, laws_szCue.f]; rw [if_pos (by omega), if_pos (by omega), er, w64 (n := a - ((l[i]).f2.size : Int)) (by omega), if_neg c, Option.bind_some, if_neg c, w64 (n := (i : Int) + 1) (by omega)]; exact e2 m (by omega)
   refine ⟨s, e k (Nat.le_refl _), e, ?_⟩
   rcases e3 with e3 | ⟨e3, e4, e5⟩
   ·exact .inl e3
   ·refine .inr ⟨e3, by omega, fun j h5 h6 => ?_⟩
    by_cases q : j = i
    ·subst q; omega
    ·exact e5 j (by omega) h6
theorem sz_CueS (l : List S77) (a : Int) (h0 : 0 ≤ a) (h1 : a ≤ 1000000) (hl : l.length ≤ maxLen) (hp : ∀ x ∈ l, x.f2.size ≤ maxLen) :
  ∃ s, Evt (fun k => laws_szCueS.f k l a = some s) ∧ (s < 0 ∨ (0 ≤ s ∧ s ≤ a ∧ l.length ≤ 1000000 ∧ ∀ x ∈ l, x.f2.size ≤ 1000000)) := by
 have hm : maxLen = 9223372036854775807 := rfl
 by_cases h : a - (l.length : Int) < 0
 ·refine ⟨-1, Evt.of fun k => ?_, .inl (by omega)⟩
  unfold laws_szCueS.f
  rw [w64 (by omega), if_pos h]
 ·obtain ⟨s, _, e2, e3⟩ := sz_CueS_l0 l.length (l.length + 1) l (a - (l.length : Int)) 0 (by omega) (by omega) (by omega) (by omega) (by omega) hp (by omega)
  refine ⟨s, ⟨l.length + 1, fun k hk => ?_⟩, ?_⟩
  ·show laws_szCueS.f k l a = _
   unfold laws_szCueS.f
   rw [w64 (by omega), if_neg h]; exact e2 k hk
  ·rcases e3 with e3 | ⟨e3, e4, e5⟩
   ·exact .inl e3
   ·refine .inr ⟨e3, by omega, by omega, fun x hx => ?_⟩
    obtain ⟨j, hj, rfl⟩ := List.getElem_of_mem hx; exact e5 j (by omega) hj
def seq_CueS : Nat → Int → List S80
 | 0, _ => []
 | d + 1, c => (⟨c, c + 1, mtext (c + 2), c + 3⟩ : S80) :: seq_CueS d (c + 4)
theorem mark_CueS_l0 (d : Nat) : ∀ (k : Nat) (xs : List S80) (c : Int) (i : Nat), xs.length - i = d → i ≤ xs.length → xs.length ≤ 4000000 → 0 ≤ c → c ≤ 1000000000 - 4 * (xs.length - i : Nat) → d + 40 < k →
  laws_markCueS.l0 k xs c (i : Int) = some (c + 4 * d, xs.take i ++ seq_CueS d c) := by
 induction d with
 | zero =>
  intro k xs c i hd h1 h2 h3 h4 hk; obtain ⟨k, rfl⟩ : ∃ m, k = m + 1 := ⟨k - 1, by omega⟩; simp only [laws_markCueS.l0, seq_CueS]; rw [if_neg (by omega), List.take_of_length_le (by omega), List.append_nil]
  congr 2; omega
 | succ d ih =>
  intro k xs c i hd h1 h2 h3 h4 hk; obtain ⟨k, rfl⟩ : ∃ m, k = m + 1 := ⟨k - 1, by omega⟩; have hr := ih k (xs.set i (⟨c, c + 1, mtext (c + 2), c + 3⟩ : S80)) (c + 4) (i + 1) Zbr Zbr Zbr (by omega) Zbr (by omega); rw [set_take_app _ _ _ _ (by omega)] at hr
  have e : c + 4 * ((d + 1 : Nat) : Int) = c + 4 + 4 * (d : Int) := by omega
  rw [e]; show _ = some (c + 4 + 4 * (d : Int), xs.take i ++ (⟨c, c + 1, mtext (c + 2), c + 3⟩ : S80) :: seq_CueS d (c + 4)); rw [← hr]
  have hc0 : 0 ≤ c := by omega
  have hc1 : c ≤ 1000000000 := by omega
  have mt : laws_markText.f k (c + 2) = some (mtext (c + 2)) := mtext_eq _ (by omega) (by omega) k (by omega)
  have g2 : (0 : Int) ≤ (i : Int) := by omega
  have wi : ∀ _ : Unit, wrap64 ((i : Int) + 1) = (i : Int) + 1 := fun _ => w64 (by omega)
  have ei : ((i + 1 : Nat) : Int) = (i : Int) + 1 := by omega
  have g1 : (i : Int) < (xs.length : Int) := by omega
  have rs : ∀ v : S80, rd_T80 (xs.set i v) (i : Int) = v := fun v => by unfold rd_T80; rw [Int.toNat_natCast, getD_set _ _ _ _ (by omega)]
  have w1 : wrap64 (c + 1) = c + 1 := w64c0 c hc0 hc1; have w2 : wrap64 (c + 1 + 1) = c + 2 := w64c c 1 2 hc0 hc1 (by decide) rfl; have w3 : wrap64 (c + 2 + 1) = c + 3 := w64c c 2 3 hc0 hc1 (by decide) rfl; have w4 : wrap64 (c + 3 + 1) = c + 4 := w64c c 3 4 hc0 hc1 (by decide) rfl; simp only [laws_markCueS.l0, Option.bind_some, if_pos g1, if_pos g2, w1, w2, w3, w4, mt, wi (), Int.toNat_natCast, set_set, rs, ei]
theorem mark_CueS (xs : List S80) (c : Int) (hx : xs.length ≤ 4000000) (h0 : 0 ≤ c) (h1 : c ≤ 900000000) : Evt (fun k => laws_markCueS.f k xs c = some (c + 4 * (xs.length : Int), seq_CueS xs.length c)) := by
 refine ⟨xs.length + 41, fun k hk => ?_⟩; show laws_markCueS.f k xs c = _
 unfold laws_markCueS.f
 exact mark_CueS_l0 xs.length k xs c 0 (by omega) (by omega) hx h0 (by omega) (by omega)
theorem eq_Int64S_l0 (d : Nat) : ∀ (k : Nat) (xs : List Int) (i : Nat), xs.length - i = d → i ≤ xs.length → xs.length ≤ 4000000 → d < k → laws_eqInt64S.l0 k xs xs (i : Int) = some true := by
 induction d with
 | zero =>
  intro k xs i hd h1 h2 hk; obtain ⟨k, rfl⟩ : ∃ m, k = m + 1 := ⟨k - 1, by omega⟩; simp only [laws_eqInt64S.l0]; rw [if_neg (by omega)]
 | succ d ih =>
  intro k xs i hd h1 h2 hk; obtain ⟨k, rfl⟩ : ∃ m, k = m + 1 := ⟨k - 1, by omega⟩; have hr := ih k xs (i + 1) (by omega) (by omega) h2 (by omega); simp only [laws_eqInt64S.l0, if_true]; rw [if_pos (by omega), if_pos (by omega), if_pos (by omega), w64 (by omega)]; exact hr
def seq_Int64S : Nat → Int → List Int
 | 0, _ => []
 | d + 1, c => c :: seq_Int64S d (c + 1)
theorem seq_Int64S_len : ∀ (d : Nat) (c : Int), (seq_Int64S d c).length = d
 | 0, _ => rfl
 | d + 1, c => by unfold seq_Int64S; rw [List.length_cons, seq_Int64S_len d]
theorem mark_Int64S_l0 (d : Nat) : ∀ (k : Nat) (xs : List Int) (c : Int) (i : Nat), xs.length - i = d → i ≤ xs.length → xs.length ≤ 4000000 → 0 ≤ c → c ≤ 1000000000 - 1 * (xs.length - i : Nat) → d < k →
  laws_markInt64S.l0 k xs c (i : Int) = some (c + 1 * d, xs.take i ++ seq_Int64S d c) := by
 induction d with
 | zero =>
  intro k xs c i hd h1 h2 h3 h4 hk; obtain ⟨k, rfl⟩ : ∃ m, k = m + 1 := ⟨k - 1, by omega⟩; simp only [laws_markInt64S.l0, seq_Int64S]; rw [if_neg (by omega), List.take_of_length_le (by omega), List.append_nil]
  congr 2; omega
 | succ d ih =>
  intro k xs c i hd h1 h2 h3 h4 hk; obtain ⟨k, rfl⟩ : ∃ m, k = m + 1 := ⟨k - 1, by omega⟩; have hr := ih k (xs.set i c) (c + 1) (i + 1) Zbr Zbr Zbr (by omega) Zbr (by omega); rw [set_take_app _ _ _ _ (by omega)] at hr
  have e : c + 1 * ((d + 1 : Nat) : Int) = c + 1 + 1 * (d : Int) := by omega
  rw [e]; show _ = some (c + 1 + 1 * (d : Int), xs.take i ++ c :: seq_Int64S d (c + 1)); rw [← hr]; simp only [laws_markInt64S.l0, Option.bind_some]; rw [if_pos (by omega), if_pos (by omega)]
  have w1 : wrap64 (c + 1) = c + 1 := by rw [w64 (by omega)]
  rw [w1, w64 (n := (i : Int) + 1) (by omega)]; rw [Int.toNat_natCast]
  rfl
theorem held_Int64S_l0 (d : Nat) : ∀ (k : Nat) (pre : List Int) (c : Int) (i : Nat), pre.length = i → pre.length + d ≤ 4000000 → 0 ≤ c → c ≤ 1000000000 - 1 * d → d < k →
  laws_heldInt64S.l0 k (pre ++ seq_Int64S d c) c (i : Int) = some (c + 1 * d) := by
 induction d with
 | zero =>
  intro k pre c i hd h1 h2 h3 hk; obtain ⟨k, rfl⟩ : ∃ m, k = m + 1 := ⟨k - 1, by omega⟩; simp only [laws_heldInt64S.l0, seq_Int64S, List.append_nil]; rw [if_neg (by omega)]
  congr 1; omega
 | succ d ih =>
  intro k pre c i hd h1 h2 h3 hk; obtain ⟨k, rfl⟩ : ∃ m, k = m + 1 := ⟨k - 1, by omega⟩; have hr := ih k (pre ++ [c]) (c + 1) (i + 1) (by rw [List.length_append, List.length_singleton]; omega) (by rw [List.length_append, List.length_singleton]; omega) (by omega) (by omega) (by omega); rw [List.append_assoc, List.singleton_append] at hr
  have e : c + 1 * ((d + 1 : Nat) : Int) = c + 1 + 1 * (d : Int) := by omega
  have hlen : (pre ++ c :: seq_Int64S d (c + 1)).length = pre.length + (d + 1) := by rw [List.length_append, List.length_cons, seq_Int64S_len]
  have hrd : rd (pre ++ c :: seq_Int64S d (c + 1)) (i : Int) = c := by
   unfold rd
   rw [Int.toNat_natCast, getD_app _ _ _ _ hd]
   rfl
  rw [e, ← hr]; show laws_heldInt64S.l0 (k + 1) (pre ++ c :: seq_Int64S d (c + 1)) c (i : Int) = _; simp only [laws_heldInt64S.l0, hrd]; rw [if_pos (by omega), if_pos (by omega)]
  have w1 : wrap64 (c + 1) = c + 1 := by rw [w64 (by omega)]
  rw [w1, w64 (n := (i : Int) + 1) (by omega)]; simp only [if_true]
  rfl
def tot_SS : List (List Int) → Int
 | [] => 0
 | x :: l => (x.length : Int) + tot_SS l
theorem tot_SS_le : ∀ l : List (List Int), (∀ x ∈ l, x.length ≤ 3) → 0 ≤ tot_SS l ∧ tot_SS l ≤ 3 * (l.length : Int)
 | [], _ => by unfold tot_SS; omega
 | x :: l, h => by
  have h1 := tot_SS_le l (fun y hy => h y (List.mem_cons_of_mem _ hy)); have h2 := h x (List.mem_cons_self ..)
  unfold tot_SS
  rw [List.length_cons]; omega
def seq_Int64SS : List (List Int) → Int → List (List Int)
 | [], _ => []
 | x :: l, c => seq_Int64S x.length c :: seq_Int64SS l (c + (x.length : Int))
theorem seq_Int64SS_len : ∀ (l : List (List Int)) (c : Int), (seq_Int64SS l c).length = l.length
 | [], _ => rfl
 | x :: l, c => by unfold seq_Int64SS; rw [List.length_cons, List.length_cons, seq_Int64SS_len l]
theorem rdL_app (pre : List (List Int)) (x : List Int) (l : List (List Int)) : rd_L5 (pre ++ x :: l) (pre.length : Int) = x := by
 unfold rd_L5
 rw [Int.toNat_natCast, List.getD_eq_getElem?_getD, List.getElem?_append_right (Nat.le_refl _), Nat.sub_self]; rfl
theorem set_app_SS (pre : List (List Int)) (x v : List Int) (l : List (List Int)) : (pre ++ x :: l).set pre.length v = pre ++ v :: l := by
 rw [List.set_append_right _ _ (Nat.le_refl _), Nat.sub_self]; rfl
theorem mark_SS_l0 : ∀ (l pre : List (List Int)) (c : Int) (k : Nat), pre.length + l.length ≤ 1000 → (∀ x ∈ l, x.length ≤ 3) → 0 ≤ c → c + 3 * (l.length : Int) ≤ 900000000 → l.length + 10 < k →
  laws_markInt64SS.l0 k (pre ++ l) c (pre.length : Int) = some (c + tot_SS l, pre ++ seq_Int64SS l c)
 | [], pre, c, k, h1, h2, h3, h4, hk => by
  obtain ⟨k, rfl⟩ : ∃ m, k = m + 1 := ⟨k - 1, by omega⟩; simp only [laws_markInt64SS.l0, seq_Int64SS, tot_SS, List.append_nil, Int.add_zero]; rw [if_neg (by omega)]
 | x :: l, pre, c, k, h1, h2, h3, h4, hk => by
  obtain ⟨k, rfl⟩ : ∃ m, k = m + 1 := ⟨k - 1, by omega⟩; have hx := h2 x (List.mem_cons_self ..); rw [List.length_cons] at h1 h4 hk; have nx := mark_SS_l0 l (pre ++ [seq_Int64S x.length c]) (c + (x.length : Int)) k (by rw [List.length_append, List.length_singleton]; omega) (fun y hy => h2 y (List.mem_cons_of_mem _ hy)) (by omega) (by omega) (by omega); rw [List.append_assoc, List.singleton_append, List.length_append, List.length_singleton] at nx
  have mk : laws_markInt64S.f k x c = some (c + (x.length : Int), seq_Int64S x.length c) := by
   have z := mark_Int64S_l0 x.length k x c 0 (by omega) (by omega) (by omega) h3 (by omega) (by omega); rw [Int.one_mul] at z; exact z
  simp only [laws_markInt64SS.l0]; rw [if_pos (by rw [List.length_append, List.length_cons]; omega), if_pos (by omega), rdL_app, mk, w64 (n := (pre.length : Int) + 1) (by omega)]; simp only [Option.bind_some]; rw [Int.toNat_natCast, set_app_SS]; refine Eq.trans nx ?_; show _ = some (c + ((x.length : Int) + tot_SS l), pre ++ seq_Int64S x.length c :: seq_Int64SS l (c + (x.length : Int))); rw [List.append_assoc, List.singleton_append, Int.add_assoc]
theorem mark_Int64SS (l : List (List Int)) (ql : l.length ≤ 1000 ∧ ∀ x ∈ l, x.length ≤ 3) (c : Int) (h0 : 0 ≤ c) (h1 : c ≤ 800000000) : Evt (fun k => laws_markInt64SS.f k l c = some (c + tot_SS l, seq_Int64SS l c)) :=
 ⟨l.length + 11, fun k hk => mark_SS_l0 l [] c k (by simp; exact ql.1) ql.2 h0 (by have := ql.1; omega) (by omega)⟩
theorem held_SS_l0 : ∀ (l pre : List (List Int)) (c : Int) (k : Nat), pre.length + l.length ≤ 1000 → (∀ x ∈ l, x.length ≤ 3) → 0 ≤ c → c + 3 * (l.length : Int) ≤ 900000000 → l.length + 10 < k →
  laws_heldInt64SS.l0 k (pre ++ seq_Int64SS l c) c (pre.length : Int) = some (c + tot_SS l)
 | [], pre, c, k, h1, h2, h3, h4, hk => by
  obtain ⟨k, rfl⟩ : ∃ m, k = m + 1 := ⟨k - 1, by omega⟩; simp only [laws_heldInt64SS.l0, seq_Int64SS, tot_SS, List.append_nil, Int.add_zero]; rw [if_neg (by omega)]
 | x :: l, pre, c, k, h1, h2, h3, h4, hk => by
  obtain ⟨k, rfl⟩ : ∃ m, k = m + 1 := ⟨k - 1, by omega⟩; have hx := h2 x (List.mem_cons_self ..); rw [List.length_cons] at h1 h4 hk; have nx := held_SS_l0 l (pre ++ [seq_Int64S x.length c]) (c + (x.length : Int)) k (by rw [List.length_append, List.length_singleton]; omega) (fun y hy => h2 y (List.mem_cons_of_mem _ hy)) (by omega) (by omega) (by omega); rw [List.append_assoc, List.singleton_append, List.length_append, List.length_singleton] at nx
  have hl : laws_heldInt64S.f k (seq_Int64S x.length c) c = some (c + (x.length : Int)) := by
   have z := held_Int64S_l0 x.length k [] c 0 rfl (by simp; omega) h3 (by omega) (by omega); rw [Int.one_mul] at z; exact z
  show laws_heldInt64SS.l0 (k + 1) (pre ++ seq_Int64S x.length c :: seq_Int64SS l (c + (x.length : Int))) c (pre.length : Int) = _; simp only [laws_heldInt64SS.l0]; rw [if_pos (by rw [List.length_append, List.length_cons]; omega), if_pos (by omega), rdL_app, hl, w64 (n := (pre.length : Int) + 1) (by omega)]; simp only [Option.bind_some]; rw [if_neg (by omega)]; refine Eq.trans nx ?_; show _ = some (c + ((x.length : Int) + tot_SS l)); rw [Int.add_assoc]
theorem held_Int64SS (l : List (List Int)) (ql : l.length ≤ 1000 ∧ ∀ x ∈ l, x.length ≤ 3) (c : Int) (h0 : 0 ≤ c) (h1 : c ≤ 800000000) : Evt (fun k => laws_heldInt64SS.f k (seq_Int64SS l c) c = some (c + tot_SS l)) :=
 ⟨l.length + 11, fun k hk => held_SS_l0 l [] c k (by simp; exact ql.1) ql.2 h0 (by have := ql.1; omega) (by omega)⟩
theorem eq_SS_l0 : ∀ (l pre : List (List Int)) (k : Nat), pre.length + l.length ≤ 1000 → (∀ x ∈ l, x.length ≤ 3) → l.length + 10 < k → laws_eqInt64SS.l0 k (pre ++ l) (pre ++ l) (pre.length : Int) = some true
 | [], pre, k, h1, h2, hk => by
  obtain ⟨k, rfl⟩ : ∃ m, k = m + 1 := ⟨k - 1, by omega⟩; simp only [laws_eqInt64SS.l0, List.append_nil]; rw [if_neg (by omega)]
 | x :: l, pre, k, h1, h2, hk => by
  obtain ⟨k, rfl⟩ : ∃ m, k = m + 1 := ⟨k - 1, by omega⟩; have hx := h2 x (List.mem_cons_self ..); rw [List.length_cons] at h1 hk; have nx := eq_SS_l0 l (pre ++ [x]) k (by rw [List.length_append, List.length_singleton]; omega) (fun y hy => h2 y (List.mem_cons_of_mem _ hy)) (by omega); rw [List.append_assoc, List.singleton_append, List.length_append, List.length_singleton] at nx
  have he : laws_eqInt64S.f k x x = some true := by
   unfold laws_eqInt64S.f
   rw [if_pos rfl]; exact eq_Int64S_l0 x.length k x 0 (by omega) (by omega) (by omega) (by omega)
  simp only [laws_eqInt64SS.l0]; rw [if_pos (by rw [List.length_append, List.length_cons]; omega), if_pos (by omega), if_pos (by rw [List.length_append, List.length_cons]; omega), rdL_app, he, w64 (n := (pre.length : Int) + 1) (by omega)]; simp only [Option.bind_some, if_true]; exact nx
theorem eq_Int64SS (l : List (List Int)) (ql : l.length ≤ 1000 ∧ ∀ x ∈ l, x.length ≤ 3) : Evt (fun k => laws_eqInt64SS.f k l l = some true) :=
 ⟨l.length + 11, fun k hk => by
  show laws_eqInt64SS.f k l l = _
  unfold laws_eqInt64SS.f
  rw [if_pos rfl]; exact eq_SS_l0 l [] k (by simp; exact ql.1) ql.2 (by omega)⟩
theorem sz_Show (l0 : List S89) (l1 : List S74) (l2 : List S77) (n0 : l0.length ≤ maxLen) (n1 : l1.length ≤ maxLen) (p1 : ∀ x ∈ l1, x.f0.size ≤ maxLen) (n2 : l2.length ≤ maxLen) (p2 : ∀ x ∈ l2, x.f2.size ≤ maxLen) :
  ∃ s, Evt (fun k => laws_szShow.f k l0 l1 l2 1000000 = some s) ∧ (s < 0 ∨ (0 ≤ s ∧ s ≤ 1000000 ∧ l0.length ≤ 1000000 ∧ (l1.length ≤ 1000000 ∧ ∀ x ∈ l1, x.f0.size ≤ 1000000) ∧ l2.length ≤ 1000000 ∧ ∀ x ∈ l2, x.f2.size ≤ 1000000)) := by
 rcases sz_BarS l0 1000000 (by omega) (by omega) n0 with ⟨z0, e0⟩ | e0
 rotate_left
 ·refine ⟨-1, Evt.of fun k => ?_, .inl (by omega)⟩
  unfold laws_szShow.f
  rw [e0]; rfl
 ·obtain ⟨s1, e1, h1⟩ := sz_ArticleS l1 (1000000 - (l0.length : Int)) (by omega) (by omega) n1 p1
  rcases h1 with h1 | ⟨h1, h2, h3, h4⟩
  ·refine ⟨-1, e1.mono fun k hk => ?_, .inl (by omega)⟩
   unfold laws_szShow.f
   rw [e0]; simp only [Option.bind_some]; rw [if_neg (by omega), hk]; simp only [Option.bind_some]; rw [if_pos h1]
  ·obtain ⟨s2, e2, g1⟩ := sz_CueS l2 s1 h1 (by omega) n2 p2
   rcases g1 with g1 | ⟨g1, g2, g3, g4⟩
   ·refine ⟨-1, (e1.and e2).mono fun k hk => ?_, .inl (by omega)⟩
    unfold laws_szShow.f
    rw [e0]; simp only [Option.bind_some]; rw [if_neg (by omega), hk.1]; simp only [Option.bind_some]; rw [if_neg (by omega), hk.2]; simp only [Option.bind_some]; rw [if_pos g1]
   ·refine ⟨s2, (e1.and e2).mono fun k hk => ?_, .inr ⟨g1, by omega, by omega, ⟨h3, h4⟩, g3, g4⟩⟩
    unfold laws_szShow.f
    rw [e0]; simp only [Option.bind_some]; rw [if_neg (by omega), hk.1]; simp only [Option.bind_some]; rw [if_neg (by omega), hk.2]; simp only [Option.bind_some]; rw [if_neg (by omega)]
theorem full_Show {l0 : List S89} {l1 : List S74} {l2 : List S77} {L0 : List S87} {L1 : List S91} {L2 : List S80} (h0 : Evt (fun k => full_toBarS.f k l0 false = some L0)) (h1 : Evt (fun k => full_toArticleS.f k l1 false = some L1)) (h2 : Evt (fun k => full_toCueS.f k l2 false = some L2)) : Evt (fun k => full_toShow.f k l0 l1 l2 false = some (L0, L1, L2)) :=
 (h0.and (h1.and h2)).mono fun k h => by
  unfold full_toShow.f
  rw [h.1, h.2.1, h.2.2]; rfl
theorem bare_Show {l0 : List S89} {l1 : List S74} {l2 : List S77} {L0 : List S87} {L1 : List S91} {L2 : List S80} (h0 : Evt (fun k => laws_toBarS.f k l0 true = some L0)) (h1 : Evt (fun k => laws_toArticleS.f k l1 true = some L1)) (h2 : Evt (fun k => laws_toCueS.f k l2 true = some L2)) : Evt (fun k => laws_toShow.f k l0 l1 l2 true = some (L0, L1, L2)) :=
 (h0.and (h1.and h2)).mono fun k h => by
  unfold laws_toShow.f
  rw [h.1, h.2.1, h.2.2]; rfl
theorem mark_Show (A : List S87) (B : List S91) (C : List S80) (c : Int) (hA : A.length ≤ 1000010) (hB : B.length ≤ 1000010) (hC : C.length ≤ 1000010) (h0 : 0 ≤ c) (h1 : c ≤ 1000) : Evt (fun k => laws_markShow.f k A B C c = some (c + 2 * (A.length : Int) + 9 * (B.length : Int) + 4 * (C.length : Int), seq_BarS A.length c, seq_ArticleS B.length (c + 2 * (A.length : Int)), seq_CueS C.length (c + 2 * (A.length : Int) + 9 * (B.length : Int)))) :=
 ((mark_BarS A c (by omega) h0 (by omega)).and ((mark_ArticleS B (c + 2 * (A.length : Int)) (by omega) (by omega) (by omega)).and (mark_CueS C (c + 2 * (A.length : Int) + 9 * (B.length : Int)) (by omega) (by omega) (by omega)))).mono fun k h => by
  unfold laws_markShow.f
  rw [h.1]; simp only [Option.bind_some]; rw [h.2.1]; simp only [Option.bind_some]; rw [h.2.2]; rfl
theorem In_eq (n lo hi : Int) : spec_l01In.f n lo hi = some (inB n lo hi) := by
 unfold spec_l01In.f inB
 by_cases h : n ≥ lo
 ·rw [if_pos h]; congr 1; simp; omega
 ·rw [if_neg h]; congr 1; simp; omega
theorem Wi_eq (n lo hi : Int) : impl_within.f n lo hi = some (inB n lo hi) := by
 unfold impl_within.f inB
 by_cases h : lo ≤ n
 ·rw [if_pos h]; congr 1; simp; omega
 ·rw [if_neg h]; congr 1; simp; omega
theorem rd_nat (xs : List Int) (i : Nat) : rd xs (i : Int) = xs.getD i 0 := by unfold rd; rw [Int.toNat_natCast]
def word (s : ByteArray) : Bool := allF (fun j => inB (bt s (j : Int)) 97 122) 0 s.size && inB (s.size : Int) 1 16
theorem spec_word (s : ByteArray) (hs : s.size ≤ 9223372036854775807) (k : Nat) (hk : s.size < k) : spec_IsWord.f k s = some (word s) := by
 refine all_loop (f := fun k i => spec_IsWord.l0 k s (i : Int)) s.size (fun k i hi => ?_) (fun k => ?_) s.size k 0 (by omega) (by omega) (by omega)
 ·show spec_IsWord.l0 (k + 1) s i = _
  simp only [spec_IsWord.l0]; rw [if_pos (by omega), if_pos (by omega), w64 (n := (i : Int) + 1) (by omega)]
  by_cases c1 : bt s (i : Int) < 97
  ·rw [if_pos c1, inB_false.2 (by omega), if_neg (by decide)]
  ·rw [if_neg c1]
   by_cases c2 : bt s (i : Int) > 122
   ·rw [if_pos c2, inB_false.2 (by omega), if_neg (by decide)]
   ·rw [if_neg c2, inB_true.2 (by omega), if_pos rfl]; rfl
 ·show spec_IsWord.l0 (k + 1) s _ = _
  simp only [spec_IsWord.l0]; rw [if_neg (by omega), In_eq]; rfl
theorem impl_word (s : ByteArray) (hs : s.size ≤ 9223372036854775807) (k : Nat) (hk : s.size + 1 < k) : impl_IsWord.f k s = some (word s) := by
 obtain ⟨k, rfl⟩ : ∃ m, k = m + 1 := ⟨k - 1, by omega⟩
 unfold impl_IsWord.f word
 simp only [impl_IsWord.j0]
 by_cases h1 : (s.size : Int) < 1
 ·rw [if_pos h1, if_pos trivial, inB_false.2 (by omega), Bool.and_false]
 ·rw [if_neg h1]
  by_cases h2 : (s.size : Int) > 16
  ·rw [if_pos (decide_eq_true h2), inB_false.2 (by omega), Bool.and_false]
  ·rw [if_neg (by simpa using h2), inB_true.2 (by omega)]
   refine all_loop (f := fun k i => impl_IsWord.l0 k s (i : Int)) s.size (fun k i hi => ?_) (fun k => ?_) s.size k 0 (by omega) (by omega) (by omega)
   ·show impl_IsWord.l0 (k + 1) s i = _
    simp only [impl_IsWord.l0]; rw [if_pos (by omega), if_pos (by omega), w64 (n := (i : Int) + 1) (by omega)]
    by_cases c1 : bt s (i : Int) < 97
    ·rw [if_pos c1, inB_false.2 (by omega), if_neg (by decide)]
    ·rw [if_neg c1]
     by_cases c2 : bt s (i : Int) > 122
     ·rw [if_pos c2, inB_false.2 (by omega), if_neg (by decide)]
     ·rw [if_neg c2, inB_true.2 (by omega), if_pos rfl]; rfl
   ·show impl_IsWord.l0 (k + 1) s _ = _
    simp only [impl_IsWord.l0]; rw [if_neg (by omega)]
def art (a : S91) : Bool := word a.f0 && (inB a.f1 0 3 && (inB a.f2 20 300 && (inB a.f3 0 10000 && (inB a.f4 0 a.f3 && (inB a.f5 1 50 && (inB a.f6 0 10000 && (inB a.f7 1 100000 && inB a.f8 0 3)))))))
theorem spec_art (a : S91) (hs : a.f0.size ≤ 9223372036854775807) (k : Nat) (hk : a.f0.size < k) : spec_IsArticle.f k a.f0 a.f1 a.f2 a.f3 a.f4 a.f5 a.f6 a.f7 a.f8 = some (art a) := by
 unfold spec_IsArticle.f art
 rw [spec_word a.f0 hs k hk]; simp only [In_eq, Option.bind_some]
 cases word a.f0 <;> cases inB a.f1 0 3 <;> cases inB a.f2 20 300 <;> cases inB a.f3 0 10000 <;> cases inB a.f4 0 a.f3 <;> cases inB a.f5 1 50 <;> cases inB a.f6 0 10000 <;> cases inB a.f7 1 100000 <;> rfl
theorem impl_art (a : S91) (hs : a.f0.size ≤ 9223372036854775807) (k : Nat) (hk : a.f0.size + 1 < k) : impl_IsArticle.f k a.f0 a.f1 a.f2 a.f3 a.f4 a.f5 a.f6 a.f7 a.f8 = some (art a) := by
 unfold impl_IsArticle.f art
 rw [impl_word a.f0 hs k hk]; simp only [Wi_eq, Option.bind_some]
 cases word a.f0 <;> cases inB a.f1 0 3 <;> cases inB a.f2 20 300 <;> cases inB a.f3 0 10000 <;> cases inB a.f4 0 a.f3 <;> cases inB a.f5 1 50 <;> cases inB a.f6 0 10000 <;> cases inB a.f7 1 100000 <;> rfl
def ar_at (xs : List S91) (i : Nat) : S91 := xs.getD i z91
theorem rd_art (xs : List S91) (i : Nat) : rd_T91 xs (i : Int) = ar_at xs i := by unfold rd_T91 ar_at; rw [Int.toNat_natCast]
def artAt (xs : List S91) (i : Nat) : Bool := art (ar_at xs i) && (decide (i = 0) || Op.bytesLess (ar_at xs (i - 1)).f0.toList (ar_at xs i).f0.toList)
def areArts (xs : List S91) : Bool := allF (artAt xs) 0 xs.length && decide ((xs.length : Int) ≤ 12)
def Small (B : Nat) (xs : List S91) : Prop := B ≤ 9223372036854775807 ∧ ∀ x ∈ xs, x.f0.size ≤ B
theorem small_at {B : Nat} {xs : List S91} (h : Small B xs) (i : Nat) (hi : i < xs.length) : (ar_at xs i).f0.size ≤ B := by
 unfold ar_at
 rw [List.getD_eq_getElem?_getD, List.getElem?_eq_getElem hi]; exact h.2 _ (List.getElem_mem hi)
theorem spec_arts (B : Nat) (xs : List S91) (hx : xs.length ≤ 9223372036854775807) (hB : Small B xs) (k : Nat) (hk : xs.length + B < k) : spec_AreArticles.f k xs = some (areArts xs) := by
 have loop : ∀ d k i, xs.length - i = d → i ≤ xs.length → d + B < k → spec_AreArticles.l0 k xs (i : Int) = some (allF (artAt xs) i d && decide ((xs.length : Int) ≤ 12)) := by
  intro d
  induction d with
  | zero =>
   intro k i hd hi hk; obtain ⟨k, rfl⟩ : ∃ m, k = m + 1 := ⟨k - 1, by omega⟩; simp only [spec_AreArticles.l0]; rw [if_neg (by omega)]
   rfl
  | succ d ih =>
   intro k i hd hi hk; obtain ⟨k, rfl⟩ : ∃ m, k = m + 1 := ⟨k - 1, by omega⟩; have hb := small_at hB i (by omega); have hB1 := hB.1; have nx := ih k (i + 1) (by omega) (by omega) (by omega); simp only [spec_AreArticles.l0]; rw [if_pos (by omega), if_pos (by omega), rd_art, spec_art _ (by omega) k (by omega), w64 (n := (i : Int) + 1) (by omega)]; simp only [Option.bind_some]
   unfold allF artAt
   cases ha : art (ar_at xs i) with
   | false => rfl
   | true =>
    rw [if_pos rfl, Bool.true_and]
    by_cases i0 : i = 0
    ·subst i0
     rw [if_neg (by omega), decide_eq_true rfl, Bool.true_or, Bool.true_and]; exact nx
    ·rw [if_pos (by omega), w64 (n := (i : Int) - 1) (by omega), if_pos (by omega), if_pos (by omega), show (i : Int) - 1 = ((i - 1 : Nat) : Int) by omega, rd_art, decide_eq_false i0, Bool.false_or]
     cases hl : Op.bytesLess (ar_at xs (i - 1)).f0.toList (ar_at xs i).f0.toList with
     | false => rfl
     | true => rw [if_pos rfl, Bool.true_and]; exact nx
 unfold spec_AreArticles.f
 exact loop xs.length k 0 (by omega) (by omega) hk
theorem impl_arts (B : Nat) (xs : List S91) (hx : xs.length ≤ 9223372036854775807) (hB : Small B xs) (k : Nat) (hk : xs.length + B + 1 < k) : impl_AreArticles.f k xs = some (areArts xs) := by
 have loop : ∀ d k i, xs.length - i = d → i ≤ xs.length → d + B + 1 < k → impl_AreArticles.l0 k xs xs (xs.length : Int) (i : Int) = some (allF (artAt xs) i d && true) := by
  intro d
  induction d with
  | zero =>
   intro k i hd hi hk; obtain ⟨k, rfl⟩ : ∃ m, k = m + 1 := ⟨k - 1, by omega⟩; simp only [impl_AreArticles.l0]; rw [if_neg (by omega)]
   rfl
  | succ d ih =>
   intro k i hd hi hk; obtain ⟨k, rfl⟩ : ∃ m, k = m + 1 := ⟨k - 1, by omega⟩; have hb := small_at hB i (by omega); have hB1 := hB.1; have nx := ih k (i + 1) (by omega) (by omega) (by omega); simp only [impl_AreArticles.l0]; rw [if_pos (by omega), if_pos (by omega), if_pos (by omega), rd_art, impl_art _ (by omega) k (by omega), w64 (n := (i : Int) + 1) (by omega)]; simp only [Option.bind_some]
   unfold allF artAt
   cases ha : art (ar_at xs i) with
   | false => rfl
   | true =>
    rw [if_pos rfl, Bool.true_and]
    by_cases i0 : i = 0
    ·subst i0
     rw [if_neg (by omega), decide_eq_true rfl, Bool.true_or, Bool.true_and]; exact nx
    ·rw [if_pos (by omega), w64 (n := (i : Int) - 1) (by omega), if_pos (by omega), if_pos (by omega), show (i : Int) - 1 = ((i - 1 : Nat) : Int) by omega, rd_art, decide_eq_false i0, Bool.false_or]
     cases hl : Op.bytesLess (ar_at xs (i - 1)).f0.toList (ar_at xs i).f0.toList with
     | false => rfl
     | true => rw [if_pos rfl, Bool.true_and]; exact nx
 unfold impl_AreArticles.f areArts
 by_cases c : (xs.length : Int) > 12
 ·rw [if_pos c, decide_eq_false (by omega), Bool.and_false]
 ·rw [if_neg c, decide_eq_true (by omega)]
  exact loop xs.length k 0 (by omega) (by omega) hk
def findF (xs : List S91) (s : ByteArray) : Nat → Nat → Int
 | _, 0 => -1
 | i, d + 1 => if (ar_at xs i).f0.toList = s.toList then (i : Int) else findF xs s (i + 1) d
def find (xs : List S91) (s : ByteArray) : Int := findF xs s 0 xs.length
theorem find_go (xs : List S91) (hx : xs.length ≤ 9223372036854775807) (s : ByteArray) : ∀ d k i, xs.length - i = d → i ≤ xs.length → d < k → spec_l03Find.l0 k xs s (i : Int) = some (findF xs s i d) ∧ impl_articleOf.l0 k s xs (xs.length : Int) (i : Int) = some (findF xs s i d) := by
 intro d
 induction d with
 | zero =>
  intro k i hd hi hk; obtain ⟨k, rfl⟩ : ∃ m, k = m + 1 := ⟨k - 1, by omega⟩; simp only [spec_l03Find.l0, impl_articleOf.l0]; rw [if_neg (by omega), if_neg (by omega)]; exact ⟨rfl, rfl⟩
 | succ d ih =>
  intro k i hd hi hk; obtain ⟨k, rfl⟩ : ∃ m, k = m + 1 := ⟨k - 1, by omega⟩; obtain ⟨a, b⟩ := ih k (i + 1) (by omega) (by omega) (by omega); have w : wrap64 ((i : Int) + 1) = ((i + 1 : Nat) : Int) := w64 (by omega)
  have g1 : (i : Int) < (xs.length : Int) := by clear w; omega
  have g2 : 0 ≤ (i : Int) := by clear w; omega
  simp only [spec_l03Find.l0, impl_articleOf.l0, if_pos g1, if_pos g2, rd_art, w]
  unfold findF
  by_cases c : (ar_at xs i).f0.toList = s.toList
  ·rw [if_pos c, if_pos c, if_pos c]; exact ⟨rfl, rfl⟩
  ·rw [if_neg c, if_neg c, if_neg c]; exact ⟨a, b⟩
theorem spec_find (xs : List S91) (hx : xs.length ≤ 9223372036854775807) (s : ByteArray) (k : Nat) (hk : xs.length < k) : spec_l03Find.f k xs s = some (find xs s) := (find_go xs hx s xs.length k 0 (by omega) (by omega) hk).1
theorem impl_find (xs : List S91) (hx : xs.length ≤ 9223372036854775807) (s : ByteArray) (k : Nat) (hk : xs.length < k) : impl_articleOf.f k xs s = some (find xs s) := (find_go xs hx s xs.length k 0 (by omega) (by omega) hk).2
theorem findF_range (xs : List S91) (s : ByteArray) : ∀ d i, findF xs s i d = -1 ∨ ((i : Int) ≤ findF xs s i d ∧ findF xs s i d < (i : Int) + d)
 | 0, _ => .inl rfl
 | d + 1, i => by
  unfold findF
  by_cases c : (ar_at xs i).f0.toList = s.toList
  ·rw [if_pos c]; exact .inr ⟨Int.le_refl _, by omega⟩
  ·rw [if_neg c]
   rcases findF_range xs s d (i + 1) with h | h
   ·exact .inl h
   ·exact .inr ⟨by omega, by omega⟩
theorem find_range (xs : List S91) (s : ByteArray) : find xs s = -1 ∨ (0 ≤ find xs s ∧ find xs s < (xs.length : Int)) := by
 have := findF_range xs s xs.length 0
 unfold find
 omega
def bt_at (xs : List S87) (i : Nat) : Int := (xs.getD i z87).f0
def ln_at (xs : List S87) (i : Nat) : Int := (xs.getD i z87).f1
def barAt (xs : List S87) (i : Nat) : Bool := inB (bt_at xs i) 1 16 && inB (ln_at xs i) 100 5000
def isScore (xs : List S87) : Bool := allF (barAt xs) 0 xs.length && inB (xs.length : Int) 1 20
theorem rd_bar (xs : List S87) (i : Nat) : rd_T87 xs (i : Int) = xs.getD i z87 := by unfold rd_T87; rw [Int.toNat_natCast]
theorem spec_score (xs : List S87) (hx : xs.length ≤ 9223372036854775807) (k : Nat) (hk : xs.length < k) : spec_IsScore.f k xs = some (isScore xs) := by
 refine all_loop (f := fun k i => spec_IsScore.l0 k xs (i : Int)) xs.length (fun k i hi => ?_) (fun k => ?_) xs.length k 0 (by omega) (by omega) (by omega)
 ·show spec_IsScore.l0 (k + 1) xs i = _
  simp only [spec_IsScore.l0, In_eq, Option.bind_some]; rw [if_pos (by omega), if_pos (by omega), w64 (by omega), rd_bar]
  unfold barAt bt_at ln_at
  cases inB (xs.getD i z87).f0 1 16 <;> cases inB (xs.getD i z87).f1 100 5000 <;> rfl
 ·show spec_IsScore.l0 (k + 1) xs _ = _
  simp only [spec_IsScore.l0, In_eq, Option.bind_some]; rw [if_neg (by omega)]
theorem impl_score (xs : List S87) (hx : xs.length ≤ 9223372036854775807) (k : Nat) (hk : xs.length + 1 < k) : impl_IsScore.f k xs = some (isScore xs) := by
 obtain ⟨k, rfl⟩ : ∃ m, k = m + 1 := ⟨k - 1, by omega⟩
 unfold impl_IsScore.f isScore
 simp only [impl_IsScore.j0]
 by_cases h1 : (xs.length : Int) < 1
 ·rw [if_pos h1, if_pos trivial, inB_false.2 (by omega), Bool.and_false]
 ·rw [if_neg h1]
  by_cases h2 : (xs.length : Int) > 20
  ·rw [if_pos (decide_eq_true h2), inB_false.2 (by omega), Bool.and_false]
  ·rw [if_neg (by simpa using h2), inB_true.2 (by omega)]
   refine all_loop (f := fun k i => impl_IsScore.l0 k xs (xs.length : Int) (i : Int)) xs.length (fun k i hi => ?_) (fun k => ?_) xs.length k 0 (by omega) (by omega) (by omega)
   ·show impl_IsScore.l0 (k + 1) xs (xs.length : Int) i = _
    simp only [impl_IsScore.l0, Wi_eq, Option.bind_some]; rw [if_pos (by omega), if_pos (by omega), if_pos (by omega), w64 (by omega), rd_bar]
    unfold barAt bt_at ln_at
    cases inB (xs.getD i z87).f0 1 16 <;> cases inB (xs.getD i z87).f1 100 5000 <;> rfl
   ·show impl_IsScore.l0 (k + 1) xs (xs.length : Int) _ = _
    simp only [impl_IsScore.l0]; rw [if_neg (by omega)]
theorem isScore_true {xs : List S87} (h : isScore xs = true) : 1 ≤ xs.length ∧ xs.length ≤ 20 ∧ ∀ i, i < xs.length → 1 ≤ bt_at xs i ∧ bt_at xs i ≤ 16 ∧ 100 ≤ ln_at xs i ∧ ln_at xs i ≤ 5000 := by
 unfold isScore at h
 rw [Bool.and_eq_true, allF_true, inB_true] at h; refine ⟨by omega, by omega, fun i hi => ?_⟩; have := h.1 i (by omega) (by omega)
 unfold barAt at this
 rw [Bool.and_eq_true, inB_true, inB_true] at this
 omega
def tm (xs : List S87) (i : Nat) : Int := foldF (fun j s => s + bt_at xs j * ln_at xs j) 0 i 0
theorem tm_succ (xs : List S87) (i : Nat) : tm xs (i + 1) = tm xs i + bt_at xs i * ln_at xs i := by
 unfold tm
 rw [foldF_snoc, Nat.zero_add]
theorem prod_le {a b : Int} (h : 1 ≤ a ∧ a ≤ 16 ∧ 100 ≤ b ∧ b ≤ 5000) : 100 ≤ a * b ∧ a * b ≤ 80000 := by
 have h1 : 1 * b ≤ a * b := Int.mul_le_mul_of_nonneg_right h.1 (by omega); have h2 : a * b ≤ 16 * b := Int.mul_le_mul_of_nonneg_right h.2.1 (by omega)
 omega
theorem tm_le {xs : List S87} (h : isScore xs = true) : ∀ i, i ≤ xs.length → 0 ≤ tm xs i ∧ tm xs i ≤ 80000 * i
 | 0, _ => by unfold tm foldF; omega
 | i + 1, hi => by
  have h1 := tm_le h i (by omega); have h2 := prod_le ((isScore_true h).2.2 i (by omega)); rw [tm_succ]
  omega
theorem spec_time {xs : List S87} (h : isScore xs = true) (bar : Nat) (hb : bar < xs.length) (beat : Int) (h0 : 0 ≤ beat ∧ beat ≤ 16) (k : Nat) (hk : bar < k) : spec_l07Time.f k xs (bar : Int) beat = some (tm xs bar + beat * ln_at xs bar) := by
 have hs := isScore_true h; have hl := hs.2.2 bar hb
 have hb2 : 0 ≤ beat * ln_at xs bar ∧ beat * ln_at xs bar ≤ 80000 := by
  have h1 : 0 * ln_at xs bar ≤ beat * ln_at xs bar := Int.mul_le_mul_of_nonneg_right h0.1 (by omega); have h2 : beat * ln_at xs bar ≤ 16 * ln_at xs bar := Int.mul_le_mul_of_nonneg_right h0.2 (by omega)
  omega
 refine fold_loop (f := fun k i s => spec_l07Time.l0 k xs (bar : Int) beat s (i : Int)) (step := fun j s => s + bt_at xs j * ln_at xs j) (I := fun i s => s = tm xs i) (e := fun s => some (s + beat * ln_at xs bar)) bar (fun k i s hi hI => ?_) (fun i s hi hI => ?_) (fun k s hI => ?_) bar k 0 0 (by omega) (by omega) rfl hk
 ·have h1 := tm_le h i (by omega)
  have h2 := prod_le (hs.2.2 i (by omega)); show spec_l07Time.l0 (k + 1) xs (bar : Int) beat s (i : Int) = spec_l07Time.l0 k xs (bar : Int) beat (s + bt_at xs i * ln_at xs i) ((i + 1 : Nat) : Int); simp only [spec_l07Time.l0]; rw [if_pos (by omega), if_pos (by omega), if_pos (by omega), rd_bar]; show spec_l07Time.l0 k xs (bar : Int) beat (wrap64 (s + wrap64 (bt_at xs i * ln_at xs i))) (wrap64 ((i : Int) + 1)) = _; rw [w64 (n := bt_at xs i * ln_at xs i) (by omega), w64 (n := s + _) (by omega), w64 (by omega)]
  rfl
 ·show s + bt_at xs i * ln_at xs i = tm xs (i + 1)
  rw [tm_succ, hI]
 ·have h1 := tm_le h bar (by omega)
  show spec_l07Time.l0 (k + 1) xs (bar : Int) beat s (bar : Int) = some (s + beat * ln_at xs bar); simp only [spec_l07Time.l0]; rw [if_neg (by omega), if_pos (by omega), if_pos (by omega), rd_bar]; show some (wrap64 (s + wrap64 (beat * ln_at xs bar))) = _; rw [w64 (n := beat * ln_at xs bar) (by omega), w64 (by omega)]
theorem impl_time {xs : List S87} (h : isScore xs = true) (bar : Nat) (beat : Int) (hb : bar < xs.length ∨ (bar = xs.length ∧ beat = 0)) (h0 : 0 ≤ beat ∧ beat ≤ 16) (k : Nat) (hk : bar < k) : impl_beatTime.f k xs (bar : Int) beat = some (tm xs bar + beat * ln_at xs bar) := by
 have hs := isScore_true h
 have hlen : (xs.take bar).length = bar := by rw [List.length_take]; omega
 unfold impl_beatTime.f
 rw [if_pos (by omega), if_pos (by omega), Int.toNat_natCast]; simp only [Option.bind_some]; rw [hlen]; refine fold_loop (f := fun k i s => impl_beatTime.l0 k xs (bar : Int) beat s (xs.take bar) (bar : Int) (i : Int)) (step := fun j s => s + bt_at xs j * ln_at xs j) (I := fun i s => s = tm xs i) (e := fun s => some (s + beat * ln_at xs bar)) bar (fun k i s hi hI => ?_) (fun i s hi hI => ?_) (fun k s hI => ?_) bar k 0 0 (by omega) (by omega) rfl hk
 ·have h1 := tm_le h i (by omega)
  have h2 := prod_le (hs.2.2 i (by omega)); show impl_beatTime.l0 (k + 1) xs (bar : Int) beat s (xs.take bar) (bar : Int) (i : Int) = impl_beatTime.l0 k xs (bar : Int) beat (s + bt_at xs i * ln_at xs i) (xs.take bar) (bar : Int) ((i + 1 : Nat) : Int); simp only [impl_beatTime.l0]; rw [if_pos (by omega), if_pos (by omega), if_pos (by rw [hlen]; omega), rd_bar, getD_take _ _ _ _ hi]; show impl_beatTime.l0 k xs (bar : Int) beat (wrap64 (s + wrap64 (bt_at xs i * ln_at xs i))) (xs.take bar) (bar : Int) (wrap64 ((i : Int) + 1)) = _; rw [w64 (n := bt_at xs i * ln_at xs i) (by omega), w64 (n := s + _) (by omega), w64 (by omega)]
  rfl
 ·show s + bt_at xs i * ln_at xs i = tm xs (i + 1)
  rw [tm_succ, hI]
 ·have h1 := tm_le h bar (by omega)
  show impl_beatTime.l0 (k + 1) xs (bar : Int) beat s (xs.take bar) (bar : Int) (bar : Int) = some (s + beat * ln_at xs bar); simp only [impl_beatTime.l0]; rw [if_neg (by omega)]
  by_cases hp : beat > 0
  ·have hlt : bar < xs.length := by omega
   have hl := hs.2.2 bar hlt
   have hb2 : 0 ≤ beat * ln_at xs bar ∧ beat * ln_at xs bar ≤ 80000 := by
    have h1 : 0 * ln_at xs bar ≤ beat * ln_at xs bar := Int.mul_le_mul_of_nonneg_right h0.1 (by omega); have h2 : beat * ln_at xs bar ≤ 16 * ln_at xs bar := Int.mul_le_mul_of_nonneg_right h0.2 (by omega)
    omega
   rw [if_pos hp, if_pos (by omega), if_pos (by omega), rd_bar]; show some (wrap64 (s + wrap64 (beat * ln_at xs bar))) = _; rw [w64 (n := beat * ln_at xs bar) (by omega), w64 (by omega)]
  ·have e : beat = 0 := by omega
   rw [if_neg hp, e, Int.zero_mul, Int.add_zero]
theorem index_eq (a n : Int) : impl_isIndex.f a n = some (inB a 0 (wrap64 (n - 1))) := by
 unfold impl_isIndex.f
 simp only [Wi_eq, Option.bind_some]
def hasBeat (xs : List S87) (bar beat : Int) : Bool := inB bar 0 ((xs.length : Int) - 1) && inB beat 0 (bt_at xs bar.toNat - 1)
theorem hasBeat_true {xs : List S87} {bar beat : Int} (h : hasBeat xs bar beat = true) : ∃ b : Nat, bar = b ∧ b < xs.length ∧ 0 ≤ beat ∧ beat ≤ bt_at xs b - 1 := by
 unfold hasBeat at h
 rw [Bool.and_eq_true, inB_true, inB_true] at h; exact ⟨bar.toNat, by omega, by omega, h.2⟩
theorem spec_has {xs : List S87} (h : isScore xs = true) (bar beat : Int) : spec_l07Has.f xs bar beat = some (hasBeat xs bar beat) := by
 have hs := isScore_true h
 unfold spec_l07Has.f hasBeat
 rw [w64 (n := (xs.length : Int) - 1) (by omega), In_eq]; simp only [Option.bind_some]
 cases g : inB bar 0 ((xs.length : Int) - 1) with
 | false => rfl
 | true =>
  rw [inB_true] at g; obtain ⟨b, rfl⟩ : ∃ n : Nat, bar = n := ⟨bar.toNat, by omega⟩; have hb := hs.2.2 b (by omega); rw [if_pos rfl, if_pos (by omega), if_pos (by omega), rd_bar]; show ((spec_l01In.f beat 0 (wrap64 (bt_at xs b - 1))).bind fun t => some t) = _; rw [w64 (by omega), In_eq]; rfl
theorem impl_has {xs : List S87} (h : isScore xs = true) (bar beat : Int) : impl_isBeat.f xs bar beat = some (hasBeat xs bar beat) := by
 have hs := isScore_true h
 unfold impl_isBeat.f hasBeat
 rw [index_eq, w64 (n := (xs.length : Int) - 1) (by omega)]; simp only [Option.bind_some]
 cases g : inB bar 0 ((xs.length : Int) - 1) with
 | false => rfl
 | true =>
  rw [inB_true] at g; obtain ⟨b, rfl⟩ : ∃ n : Nat, bar = n := ⟨bar.toNat, by omega⟩; have hb := hs.2.2 b (by omega); rw [if_pos rfl, if_pos (by omega), if_pos (by omega), rd_bar]; show ((impl_within.f beat 0 (wrap64 (bt_at xs b - 1))).bind fun t => some t) = _; rw [w64 (by omega), Wi_eq]; rfl
def cu_at (C : List S80) (i : Nat) : S80 := C.getD i z80
theorem rd_cue (C : List S80) (i : Nat) : rd_T80 C (i : Int) = cu_at C i := by unfold rd_T80 cu_at; rw [Int.toNat_natCast]
def arOf (B : List S91) (c : S80) : S91 := ar_at B (find B c.f2).toNat
def ftime (A : List S87) (B : List S91) (c : S80) : Int := tm A c.f0.toNat + c.f1 * ln_at A c.f0.toNat - (arOf B c).f3
theorem areArts_true {xs : List S91} (h : areArts xs = true) : xs.length ≤ 12 ∧ ∀ i, i < xs.length → art (ar_at xs i) = true := by
 unfold areArts at h
 rw [Bool.and_eq_true, allF_true, decide_eq_true_iff] at h; refine ⟨by omega, fun i hi => ?_⟩; have := h.1 i (by omega) (by omega)
 unfold artAt at this
 rw [Bool.and_eq_true] at this; exact this.1
theorem art_true {a : S91} (h : art a = true) : (0 ≤ a.f1 ∧ a.f1 ≤ 3) ∧ (20 ≤ a.f2 ∧ a.f2 ≤ 300) ∧ (0 ≤ a.f3 ∧ a.f3 ≤ 10000) ∧ (0 ≤ a.f4 ∧ a.f4 ≤ a.f3) ∧ (1 ≤ a.f5 ∧ a.f5 ≤ 50) ∧ (0 ≤ a.f6 ∧ a.f6 ≤ 10000) ∧ (1 ≤ a.f7 ∧ a.f7 ≤ 100000) ∧ 0 ≤ a.f8 ∧ a.f8 ≤ 3 := by
 unfold art at h
 simp only [Bool.and_eq_true, inB_true] at h; exact h.2
theorem arOf_ok {B : List S91} (hB : areArts B = true) {c : S80} (hc : 0 ≤ find B c.f2) : art (arOf B c) = true ∧ find B c.f2 < (B.length : Int) := by
 rcases find_range B c.f2 with h | h
 ·omega
 ·exact ⟨(areArts_true hB).2 _ (by omega), h.2⟩
theorem time_range {A : List S87} (hA : isScore A = true) {b : Nat} (hb : b < A.length) {e : Int} (he : 0 ≤ e ∧ e ≤ bt_at A b - 1) : 0 ≤ tm A b + e * ln_at A b ∧ tm A b + e * ln_at A b ≤ 2000000 := by
 have hs := isScore_true hA; have hl := hs.2.2 b hb; have ht := tm_le hA b (by omega); have h1 : 0 ≤ e * ln_at A b := Int.mul_nonneg he.1 (by omega); have h2 : e * ln_at A b ≤ 16 * ln_at A b := Int.mul_le_mul_of_nonneg_right (by omega) (by omega)
 omega
theorem ftime_range {A : List S87} (hA : isScore A = true) {B : List S91} (hB : areArts B = true) {c : S80} (hc : 0 ≤ find B c.f2) (hb : hasBeat A c.f0 c.f1 = true) : -10000 ≤ ftime A B c ∧ ftime A B c ≤ 2000000 := by
 obtain ⟨b, e, h1, h2, h3⟩ := hasBeat_true hb; have ha := art_true (arOf_ok hB hc).1; have := time_range hA h1 ⟨h2, h3⟩
 unfold ftime
 rw [e, Int.toNat_natCast]
 omega
theorem spec_ftime {A : List S87} (hA : isScore A = true) {B : List S91} (hB : areArts B = true) (C : List S80) {c : S80} (hc : 0 ≤ find B c.f2) (hb : hasBeat A c.f0 c.f1 = true) (k : Nat) (hk : 100 ≤ k) : spec_l08Time.f k A B C c.f0 c.f1 c.f2 c.f3 = some (ftime A B c) := by
 obtain ⟨b, e, h1, h2, h3⟩ := hasBeat_true hb; have hs := isScore_true hA; have hl := hs.2.2 b h1; have hf := arOf_ok hB hc; have hr := time_range hA h1 ⟨h2, h3⟩; have ha := art_true hf.1; have hB12 := (areArts_true hB).1
 have ft : ftime A B c = tm A b + c.f1 * ln_at A b - (arOf B c).f3 := by unfold ftime; rw [e, Int.toNat_natCast]
 unfold spec_l08Time.f
 rw [e, spec_time hA b h1 c.f1 (by omega) k (by omega)]; simp only [Option.bind_some]; rw [spec_find B (by omega) c.f2 k (by omega)]; simp only [Option.bind_some]; rw [if_pos hc, if_pos hf.2, ft]
 have er : rd_T91 B (find B c.f2) = arOf B c := by
  have := rd_art B (find B c.f2).toNat; rw [show ((find B c.f2).toNat : Int) = find B c.f2 by omega] at this; exact this
 rw [er, w64 (by omega)]
theorem impl_ftime {A : List S87} (hA : isScore A = true) {B : List S91} (hB : areArts B = true) (C : List S80) (c : S80) (k : Nat) (hk : 100 ≤ k) : impl_firedAt.f k A B C c.f0 c.f1 c.f2 c.f3 = some (if 0 ≤ find B c.f2 ∧ hasBeat A c.f0 c.f1 = true then mx (-1) (ftime A B c) else -1) := by
 have hs := isScore_true hA; have hB12 := (areArts_true hB).1
 unfold impl_firedAt.f
 rw [impl_find B (by omega) c.f2 k (by omega)]; simp only [Option.bind_some]
 by_cases hc : 0 ≤ find B c.f2
 ·rw [if_neg (by omega), impl_has hA]
  simp only [Option.bind_some]
  by_cases hb : hasBeat A c.f0 c.f1 = true
  ·obtain ⟨b, e, h1, h2, h3⟩ := hasBeat_true hb
   have hl := hs.2.2 b h1; have hf := arOf_ok hB hc; have hr := time_range hA h1 ⟨h2, h3⟩; have ha := art_true hf.1
   have ft : ftime A B c = tm A b + c.f1 * ln_at A b - (arOf B c).f3 := by unfold ftime; rw [e, Int.toNat_natCast]
   have er : rd_T91 B (find B c.f2) = arOf B c := by
    have := rd_art B (find B c.f2).toNat; rw [show ((find B c.f2).toNat : Int) = find B c.f2 by omega] at this; exact this
   rw [if_pos hb, if_pos (show 0 ≤ find B c.f2 ∧ hasBeat A c.f0 c.f1 = true from ⟨hc, hb⟩), e, impl_time hA b c.f1 (.inl h1) (by omega) k (by omega)]; simp only [Option.bind_some]; rw [if_pos hc, if_pos hf.2, er, ft, w64 (by omega)]
  ·rw [if_neg hb, if_neg (show ¬ (0 ≤ find B c.f2 ∧ hasBeat A c.f0 c.f1 = true) from fun x => hb x.2)]
 ·rw [if_pos (by omega), if_neg (show ¬ (0 ≤ find B c.f2 ∧ hasBeat A c.f0 c.f1 = true) from fun x => hc x.1)]
def cueOk (A : List S87) (B : List S91) (c : S80) : Bool := hasBeat A c.f0 c.f1 && (decide (0 ≤ find B c.f2) && (inB c.f3 0 11 && decide (0 ≤ ftime A B c)))
def isShow (A : List S87) (B : List S91) (C : List S80) : Bool := isScore A && (areArts B && (decide ((C.length : Int) ≤ 20) && allF (fun i => cueOk A B (cu_at C i)) 0 C.length))
theorem cueOk_true {A : List S87} {B : List S91} {c : S80} (h : cueOk A B c = true) : hasBeat A c.f0 c.f1 = true ∧ 0 ≤ find B c.f2 ∧ (0 ≤ c.f3 ∧ c.f3 ≤ 11) ∧ 0 ≤ ftime A B c := by
 unfold cueOk at h
 simpa only [Bool.and_eq_true, inB_true, decide_eq_true_iff] using h
theorem isShow_true {A : List S87} {B : List S91} {C : List S80} (h : isShow A B C = true) : isScore A = true ∧ areArts B = true ∧ C.length ≤ 20 ∧ ∀ i, i < C.length → cueOk A B (cu_at C i) = true := by
 unfold isShow at h
 rw [Bool.and_eq_true, Bool.and_eq_true, Bool.and_eq_true, allF_true, decide_eq_true_iff] at h; exact ⟨h.1, h.2.1, by omega, fun i hi => h.2.2.2 i (by omega) (by omega)⟩
theorem spec_show (n : Nat) (A : List S87) (B : List S91) (C : List S80) (hA : A.length ≤ 9223372036854775807) (hB : B.length ≤ 9223372036854775807) (hC : C.length ≤ 9223372036854775807) (hS : Small n B) (k : Nat) (hk : A.length + B.length + C.length + n + 200 ≤ k) : spec_IsShow.f k A B C = some (isShow A B C) := by
 obtain ⟨k, rfl⟩ : ∃ m, k = m + 1 := ⟨k - 1, by omega⟩
 unfold spec_IsShow.f isShow
 rw [spec_score A (by omega) (k + 1) (by omega)]; simp only [Option.bind_some]
 cases a : isScore A with
 | false => rfl
 | true =>
  rw [if_pos rfl, spec_arts n B (by omega) hS (k + 1) (by omega)]; simp only [Option.bind_some]
  cases b : areArts B with
  | false => rfl
  | true =>
   rw [if_pos rfl]
   by_cases c : (C.length : Int) > 20
   ·rw [decide_eq_true c, decide_eq_false (by omega)]; rfl
   ·rw [decide_eq_false c, decide_eq_true (by omega)]
    simp only [spec_IsShow.j0, Bool.false_eq_true, if_false, Bool.true_and]; have hB12 := (areArts_true b).1
    have loop : ∀ d k i, C.length - i = d → i ≤ C.length → d + 110 ≤ k → spec_IsShow.l0 k (i : Int) A B C = some (allF (fun i => cueOk A B (cu_at C i)) i d) := by
     intro d
     induction d with
     | zero =>
      intro k i hd hi hk; obtain ⟨k, rfl⟩ : ∃ m, k = m + 1 := ⟨k - 1, by omega⟩; simp only [spec_IsShow.l0]; rw [if_neg (by omega)]
      rfl
     | succ d ih =>
      intro k i hd hi hk; obtain ⟨k, rfl⟩ : ∃ m, k = m + 1 := ⟨k - 1, by omega⟩; have nx := ih k (i + 1) (by omega) (by omega) (by omega); simp only [spec_IsShow.l0]; rw [if_pos (by omega), if_pos (by omega), rd_cue, spec_has a, spec_find B (by omega) _ k (by omega), In_eq, w64 (n := (i : Int) + 1) (by omega)]; simp only [Option.bind_some]
      unfold allF cueOk
      cases hb : hasBeat A (cu_at C i).f0 (cu_at C i).f1 with
      | false => rfl
      | true =>
       rw [if_pos rfl, Bool.true_and]
       by_cases hf : 0 ≤ find B (cu_at C i).f2
       ·rw [if_neg (by omega), decide_eq_true hf, Bool.true_and]
        cases hr : inB (cu_at C i).f3 0 11 with
        | false => rfl
        | true =>
         rw [if_pos rfl, Bool.true_and, spec_ftime a b C hf hb k (by omega)]; simp only [Option.bind_some]
         by_cases ht : ftime A B (cu_at C i) < 0
         ·rw [if_pos ht, decide_eq_false (by omega)]; rfl
         ·rw [if_neg ht, decide_eq_true (by omega), Bool.true_and]
          exact nx
       ·rw [if_pos (by omega), decide_eq_false hf]; rfl
    exact loop C.length k 0 (by omega) (by omega) (by omega)
theorem impl_show (n : Nat) (A : List S87) (B : List S91) (C : List S80) (hA : A.length ≤ 9223372036854775807) (hB : B.length ≤ 9223372036854775807) (hC : C.length ≤ 9223372036854775807) (hS : Small n B) (k : Nat) (hk : A.length + B.length + C.length + n + 200 ≤ k) : impl_IsShow.f k A B C = some (isShow A B C) := by
 obtain ⟨k, rfl⟩ : ∃ m, k = m + 1 := ⟨k - 1, by omega⟩
 unfold impl_IsShow.f isShow
 rw [impl_score A (by omega) (k + 1) (by omega)]; simp only [Option.bind_some]
 cases a : isScore A with
 | false => rfl
 | true =>
  rw [if_pos rfl, impl_arts n B (by omega) hS (k + 1) (by omega)]; simp only [Option.bind_some]
  cases b : areArts B with
  | false => rfl
  | true =>
   rw [if_pos rfl]
   by_cases c : (C.length : Int) > 20
   ·rw [decide_eq_true c, decide_eq_false (by omega)]; rfl
   ·rw [decide_eq_false c, decide_eq_true (by omega)]
    simp only [impl_IsShow.j0, Bool.false_eq_true, if_false, Bool.true_and]; have hB12 := (areArts_true b).1
    have loop : ∀ d k i, C.length - i = d → i ≤ C.length → d + 110 ≤ k → impl_IsShow.l0 k C (C.length : Int) (i : Int) A B C = some (allF (fun i => cueOk A B (cu_at C i)) i d) := by
     intro d
     induction d with
     | zero =>
      intro k i hd hi hk; obtain ⟨k, rfl⟩ : ∃ m, k = m + 1 := ⟨k - 1, by omega⟩; simp only [impl_IsShow.l0]; rw [if_neg (by omega)]
      rfl
     | succ d ih =>
      intro k i hd hi hk; obtain ⟨k, rfl⟩ : ∃ m, k = m + 1 := ⟨k - 1, by omega⟩; have nx := ih k (i + 1) (by omega) (by omega) (by omega); simp only [impl_IsShow.l0]; rw [if_pos (by omega), if_pos (by omega), if_pos (by omega), rd_cue, Wi_eq, impl_ftime a b C _ k (by omega), w64 (n := (i : Int) + 1) (by omega)]; simp only [Option.bind_some]
      unfold allF cueOk
      cases hr : inB (cu_at C i).f3 0 11 with
      | false =>
       rw [if_neg (by decide)]
       simp
      | true =>
       rw [if_pos rfl]
       cases hb : hasBeat A (cu_at C i).f0 (cu_at C i).f1 with
       | false =>
        rw [if_neg (show ¬ (0 ≤ find B (cu_at C i).f2 ∧ false = true) from fun x => absurd x.2 (by decide)), if_pos (by omega)]; rfl
       | true =>
        by_cases hf : 0 ≤ find B (cu_at C i).f2
        ·rw [if_pos (show 0 ≤ find B (cu_at C i).f2 ∧ true = true from ⟨hf, rfl⟩), decide_eq_true hf]
         by_cases ht : ftime A B (cu_at C i) < 0
         ·rw [if_pos (by unfold mx; split <;> omega), decide_eq_false (by omega)]; rfl
         ·rw [if_neg (by unfold mx; split <;> omega), decide_eq_true (by omega)]
          exact nx
        ·rw [if_neg (show ¬ (0 ≤ find B (cu_at C i).f2 ∧ true = true) from fun x => hf x.1), if_pos (by omega), decide_eq_false hf]; rfl
    exact loop C.length k 0 (by omega) (by omega) (by omega)
def Frame (n0 : Nat) (A : List S87) (B : List S91) (C : List S80) : Prop := A.length ≤ 9223372036854775807 ∧ B.length ≤ 9223372036854775807 ∧ C.length ≤ 9223372036854775807 ∧ Small n0 B
theorem ss_ok {n0 : Nat} {A : List S87} {B : List S91} {C : List S80} (h : Frame n0 A B C) (k : Nat) (hk : 36893488147419103428 ≤ k) : spec_IsShow.f k A B C = some (isShow A B C) := spec_show n0 A B C h.1 h.2.1 h.2.2.1 h.2.2.2 k (by have := h.1; have := h.2.1; have := h.2.2.1; have := h.2.2.2.1; omega)
theorem si_ok {n0 : Nat} {A : List S87} {B : List S91} {C : List S80} (h : Frame n0 A B C) (k : Nat) (hk : 36893488147419103428 ≤ k) : impl_IsShow.f k A B C = some (isShow A B C) := impl_show n0 A B C h.1 h.2.1 h.2.2.1 h.2.2.2 k (by have := h.1; have := h.2.1; have := h.2.2.1; have := h.2.2.2.1; omega)
theorem cu_ok {A : List S87} {B : List S91} {C : List S80} (h : isShow A B C = true) {i : Nat} (hi : i < C.length) : hasBeat A (cu_at C i).f0 (cu_at C i).f1 = true ∧ 0 ≤ find B (cu_at C i).f2 ∧ find B (cu_at C i).f2 < (B.length : Int) ∧ 0 ≤ ftime A B (cu_at C i) ∧ ftime A B (cu_at C i) ≤ 2000000 ∧ art (arOf B (cu_at C i)) = true := by
 obtain ⟨hA, hB, hC, hc⟩ := isShow_true h; obtain ⟨h1, h2, h3, h4⟩ := cueOk_true (hc i hi); have := ftime_range hA hB h2 h1; have := arOf_ok hB h2; exact ⟨h1, h2, this.2, h4, by omega, this.1⟩
theorem rd_arOf (B : List S91) (c : S80) (h : 0 ≤ find B c.f2) : rd_T91 B (find B c.f2) = arOf B c := by
 have := rd_art B (find B c.f2).toNat; rw [show ((find B c.f2).toNat : Int) = find B c.f2 by omega] at this; exact this
theorem cue_time {A : List S87} {B : List S91} {C : List S80} (h : isShow A B C = true) {i : Nat} (hi : i < C.length) (k : Nat) (hk : 100 ≤ k) : spec_l08Time.f k A B C (cu_at C i).f0 (cu_at C i).f1 (cu_at C i).f2 (cu_at C i).f3 = some (ftime A B (cu_at C i)) ∧ impl_firedAt.f k A B C (cu_at C i).f0 (cu_at C i).f1 (cu_at C i).f2 (cu_at C i).f3 = some (ftime A B (cu_at C i)) := by
 obtain ⟨hA, hB, hC, hc⟩ := isShow_true h; obtain ⟨h1, h2, h3, h4⟩ := cueOk_true (hc i hi); refine ⟨spec_ftime hA hB C h2 h1 k hk, ?_⟩; rw [impl_ftime hA hB C _ k hk, if_pos (show 0 ≤ find B (cu_at C i).f2 ∧ hasBeat A (cu_at C i).f0 (cu_at C i).f1 = true from ⟨h2, h1⟩)]
 unfold mx
 rw [if_pos (by omega)]
theorem artFor_ok {A : List S87} {B : List S91} {C : List S80} (h : isShow A B C = true) {i : Nat} (hi : i < C.length) (k : Nat) (hk : 100 ≤ k) : impl_articleFor.f k A B C (cu_at C i).f0 (cu_at C i).f1 (cu_at C i).f2 (cu_at C i).f3 = some ((arOf B (cu_at C i)).f0, (arOf B (cu_at C i)).f1, (arOf B (cu_at C i)).f2, (arOf B (cu_at C i)).f3, (arOf B (cu_at C i)).f4, (arOf B (cu_at C i)).f5, (arOf B (cu_at C i)).f6, (arOf B (cu_at C i)).f7, (arOf B (cu_at C i)).f8) := by
 obtain ⟨h1, h2, h3, _⟩ := cu_ok h hi; have hB := (areArts_true (isShow_true h).2.1).1
 unfold impl_articleFor.f
 rw [impl_find B (by omega) _ k (by omega)]; simp only [Option.bind_some]; rw [if_pos h2, if_pos h3, rd_arOf B _ h2]
theorem shot_range {a : S91} (h : art a = true) {j : Int} (h0 : 0 ≤ j) (h1 : j < a.f5) : 0 ≤ j * a.f6 ∧ j * a.f6 ≤ 490000 := by
 have ha := art_true h; have h2 : 0 ≤ j * a.f6 := Int.mul_nonneg h0 (by omega); have h3 : j * a.f6 ≤ 49 * a.f6 := Int.mul_le_mul_of_nonneg_right (by omega) (by omega)
 omega
def wlo (A : List S87) (B : List S91) (c : S80) (j : Nat) : Int := ftime A B c + (arOf B c).f3 + (j : Int) * (arOf B c).f6 - (arOf B c).f4
def whi (A : List S87) (B : List S91) (c : S80) (j : Nat) : Int := ftime A B c + (arOf B c).f3 + (j : Int) * (arOf B c).f6 + (arOf B c).f4
def wn (B : List S91) (c : S80) : Nat := (arOf B c).f5.toNat
def cueW2 (A : List S87) (B : List S91) (c : S80) : List (List Int) := (List.range (wn B c)).map (fun j => [wlo A B c j, whi A B c j])
def cueW3 (A : List S87) (B : List S91) (c : S80) (x : Int) : List (List Int) := (List.range (wn B c)).map (fun j => [wlo A B c j, whi A B c j, x])
theorem cueW2_len (A : List S87) (B : List S91) (c : S80) : (cueW2 A B c).length = wn B c := by unfold cueW2; rw [List.length_map, List.length_range]
theorem cueW3_len (A : List S87) (B : List S91) (c : S80) (x : Int) : (cueW3 A B c x).length = wn B c := by unfold cueW3; rw [List.length_map, List.length_range]
theorem rdL_map (f : Nat → List Int) (n j : Nat) (h : j < n) : rd_L5 ((List.range n).map f) (j : Int) = f j := by
 unfold rd_L5
 rw [Int.toNat_natCast, List.getD_eq_getElem?_getD, List.getElem?_map, List.getElem?_range h]; rfl
theorem rdL_cue2 (A : List S87) (B : List S91) (c : S80) {j : Nat} (h : j < wn B c) : rd_L5 (cueW2 A B c) (j : Int) = [wlo A B c j, whi A B c j] := rdL_map _ _ _ h
theorem rd_0 (a : Int) (l : List Int) : rd (a :: l) 0 = a := rfl
theorem rd_1 (a b : Int) (l : List Int) : rd (a :: b :: l) 1 = b := rfl
theorem wn_range {A : List S87} {B : List S91} {C : List S80} (h : isShow A B C = true) {i : Nat} (hi : i < C.length) : 1 ≤ wn B (cu_at C i) ∧ wn B (cu_at C i) ≤ 50 ∧ ((wn B (cu_at C i) : Nat) : Int) = (arOf B (cu_at C i)).f5 := by
 obtain ⟨h1, h2, h3, h4, h5, h6⟩ := cu_ok h hi; have ha := art_true h6
 unfold wn
 omega
theorem w_range {A : List S87} {B : List S91} {C : List S80} (h : isShow A B C = true) {i : Nat} (hi : i < C.length) {j : Nat} (hj : j < wn B (cu_at C i)) : 0 ≤ wlo A B (cu_at C i) j ∧ wlo A B (cu_at C i) j ≤ whi A B (cu_at C i) j ∧ whi A B (cu_at C i) j ≤ 3000000 ∧ 0 ≤ (j : Int) * (arOf B (cu_at C i)).f6 ∧ (j : Int) * (arOf B (cu_at C i)).f6 ≤ 490000 := by
 obtain ⟨h1, h2, h3, h4, h5, h6⟩ := cu_ok h hi; have ha := art_true h6; have hn := wn_range h hi; have hs := shot_range h6 (j := (j : Int)) (by omega) (by omega)
 unfold wlo whi
 omega
theorem spec_cue {A : List S87} {B : List S91} {C : List S80} (h : isShow A B C = true) {i : Nat} (hi : i < C.length) (k : Nat) (hk : 300 ≤ k) : spec_l09Cue.f k A B C (i : Int) = some (cueW3 A B (cu_at C i) (i : Int)) := by
 obtain ⟨h1, h2, h3, h4, h5, h6⟩ := cu_ok h hi; have hn := wn_range h hi; have ha := art_true h6; have hB := (areArts_true (isShow_true h).2.1).1; have hC := (isShow_true h).2.2.1
 unfold spec_l09Cue.f
 rw [if_pos (by omega), if_pos (by omega), rd_cue, spec_find B (by omega) _ k (by omega)]; simp only [Option.bind_some]; rw [if_pos h2, if_pos h3, rd_arOf B _ h2]
 have st : ∀ d k j, wn B (cu_at C i) - j = d → j ≤ wn B (cu_at C i) → d + 110 ≤ k → spec_l09Cue.l0 k (i : Int) ((List.range j).map (fun j => [wlo A B (cu_at C i) j, whi A B (cu_at C i) j, (i : Int)])) (j : Int) A B C (cu_at C i).f0 (cu_at C i).f1 (cu_at C i).f2 (cu_at C i).f3 (arOf B (cu_at C i)).f0 (arOf B (cu_at C i)).f1 (arOf B (cu_at C i)).f2 (arOf B (cu_at C i)).f3 (arOf B (cu_at C i)).f4 (arOf B (cu_at C i)).f5 (arOf B (cu_at C i)).f6 (arOf B (cu_at C i)).f7 (arOf B (cu_at C i)).f8 = some (cueW3 A B (cu_at C i) (i : Int)) := by
  intro d
  induction d with
  | zero =>
   intro k j hd hj hk; obtain ⟨k, rfl⟩ : ∃ m, k = m + 1 := ⟨k - 1, by omega⟩; simp only [spec_l09Cue.l0]; rw [if_neg (by omega)]
   have e : j = wn B (cu_at C i) := by omega
   subst e
   rfl
  | succ d ih =>
   intro k j hd hj hk; obtain ⟨k, rfl⟩ : ∃ m, k = m + 1 := ⟨k - 1, by omega⟩; have r := w_range h hi (show j < wn B (cu_at C i) by omega); have nx := ih k (j + 1) (by omega) (by omega) (by omega); rw [List.range_succ, List.map_append, List.map_singleton] at nx; simp only [spec_l09Cue.l0]; rw [if_pos (by omega), (cue_time h hi k (by omega)).1, w64 (n := (j : Int) + 1) (by omega)]; simp only [Option.bind_some, spec_l03Window.f]; have el : wlo A B (cu_at C i) j = ftime A B (cu_at C i) + (arOf B (cu_at C i)).f3 + (j : Int) * (arOf B (cu_at C i)).f6 - (arOf B (cu_at C i)).f4 := rfl; have eh : whi A B (cu_at C i) j = ftime A B (cu_at C i) + (arOf B (cu_at C i)).f3 + (j : Int) * (arOf B (cu_at C i)).f6 + (arOf B (cu_at C i)).f4 := rfl; rw [w64 (n := ftime A B (cu_at C i) + (arOf B (cu_at C i)).f3) (by omega), w64 (n := (j : Int) * (arOf B (cu_at C i)).f6) (by omega), w64 (n := ftime A B (cu_at C i) + (arOf B (cu_at C i)).f3 + (j : Int) * (arOf B (cu_at C i)).f6) (by omega), ← el, ← eh, w64 (n := wlo A B (cu_at C i) j) (by omega), w64 (n := whi A B (cu_at C i) j) (by omega), rd_0, rd_1]; rw [if_pos (by show (0 : Int) < ((2 : Nat) : Int); decide), if_pos (by show (1 : Int) < ((2 : Nat) : Int); decide), if_pos (by rw [List.length_map, List.length_range]; omega)]; exact nx
 exact st (wn B (cu_at C i)) k 0 (by omega) (by omega) (by omega)
theorem impl_cue {A : List S87} {B : List S91} {C : List S80} (h : isShow A B C = true) {i : Nat} (hi : i < C.length) (k : Nat) (hk : 300 ≤ k) : impl_windowsOfCue.f k A B C (cu_at C i).f0 (cu_at C i).f1 (cu_at C i).f2 (cu_at C i).f3 = some (cueW2 A B (cu_at C i)) := by
 obtain ⟨h1, h2, h3, h4, h5, h6⟩ := cu_ok h hi; have hn := wn_range h hi; have ha := art_true h6
 unfold impl_windowsOfCue.f impl_shotWindows.f
 rw [artFor_ok h hi k (by omega)]; simp only [Option.bind_some]; rw [(cue_time h hi k (by omega)).2]; simp only [Option.bind_some]
 have st : ∀ d k j, wn B (cu_at C i) - j = d → j ≤ wn B (cu_at C i) → d + 110 ≤ k → impl_shotWindows.l0 k (ftime A B (cu_at C i)) ((List.range j).map (fun j => [wlo A B (cu_at C i) j, whi A B (cu_at C i) j])) (j : Int) (arOf B (cu_at C i)).f0 (arOf B (cu_at C i)).f1 (arOf B (cu_at C i)).f2 (arOf B (cu_at C i)).f3 (arOf B (cu_at C i)).f4 (arOf B (cu_at C i)).f5 (arOf B (cu_at C i)).f6 (arOf B (cu_at C i)).f7 (arOf B (cu_at C i)).f8 = some (cueW2 A B (cu_at C i)) := by
  intro d
  induction d with
  | zero =>
   intro k j hd hj hk; obtain ⟨k, rfl⟩ : ∃ m, k = m + 1 := ⟨k - 1, by omega⟩; simp only [impl_shotWindows.l0]; rw [if_neg (by omega)]
   have e : j = wn B (cu_at C i) := by omega
   subst e
   rfl
  | succ d ih =>
   intro k j hd hj hk; obtain ⟨k, rfl⟩ : ∃ m, k = m + 1 := ⟨k - 1, by omega⟩; have r := w_range h hi (show j < wn B (cu_at C i) by omega); have nx := ih k (j + 1) (by omega) (by omega) (by omega); rw [List.range_succ, List.map_append, List.map_singleton] at nx; simp only [impl_shotWindows.l0]; have el : wlo A B (cu_at C i) j = ftime A B (cu_at C i) + (arOf B (cu_at C i)).f3 + (j : Int) * (arOf B (cu_at C i)).f6 - (arOf B (cu_at C i)).f4 := rfl; have eh : whi A B (cu_at C i) j = ftime A B (cu_at C i) + (arOf B (cu_at C i)).f3 + (j : Int) * (arOf B (cu_at C i)).f6 + (arOf B (cu_at C i)).f4 := rfl; rw [if_pos (by omega), if_pos (by rw [List.length_map, List.length_range]; omega), w64 (n := (j : Int) + 1) (by omega), w64 (n := ftime A B (cu_at C i) + (arOf B (cu_at C i)).f3) (by omega), w64 (n := (j : Int) * (arOf B (cu_at C i)).f6) (by omega), w64 (n := ftime A B (cu_at C i) + (arOf B (cu_at C i)).f3 + (j : Int) * (arOf B (cu_at C i)).f6) (by omega), ← el, ← eh, w64 (n := wlo A B (cu_at C i) j) (by omega), w64 (n := whi A B (cu_at C i) j) (by omega)]; exact nx
 rw [show impl_shotWindows.l0 k (ftime A B (cu_at C i)) ([] : List (List Int)) 0 (arOf B (cu_at C i)).f0 (arOf B (cu_at C i)).f1 (arOf B (cu_at C i)).f2 (arOf B (cu_at C i)).f3 (arOf B (cu_at C i)).f4 (arOf B (cu_at C i)).f5 (arOf B (cu_at C i)).f6 (arOf B (cu_at C i)).f7 (arOf B (cu_at C i)).f8 = some (cueW2 A B (cu_at C i)) from st (wn B (cu_at C i)) k 0 (by omega) (by omega) (by omega)]
 rfl
def allW (A : List S87) (B : List S91) (C : List S80) : Nat → List (List Int)
 | 0 => []
 | i + 1 => allW A B C i ++ cueW3 A B (cu_at C i) (i : Int)
theorem allW_len {A : List S87} {B : List S91} {C : List S80} (h : isShow A B C = true) : ∀ i, i ≤ C.length → (allW A B C i).length ≤ 50 * i
 | 0, _ => Nat.le_refl _
 | i + 1, hi => by
  have := allW_len h i (by omega); have := (wn_range h (show i < C.length by omega)).2.1
  unfold allW
  rw [List.length_append, cueW3_len]; omega
theorem allW_mem {A : List S87} {B : List S91} {C : List S80} : ∀ i w, w ∈ allW A B C i ↔ ∃ a j, a < i ∧ j < wn B (cu_at C a) ∧ w = [wlo A B (cu_at C a) j, whi A B (cu_at C a) j, (a : Int)]
 | 0, w => by
  unfold allW
  exact ⟨fun h => absurd h List.not_mem_nil, fun ⟨a, _, h, _⟩ => absurd h (by omega)⟩
 | i + 1, w => by
  unfold allW
  rw [List.mem_append, allW_mem i w]
  unfold cueW3
  rw [List.mem_map]; constructor
  ·rintro (⟨a, j, h1, h2⟩ | ⟨j, h1, h2⟩)
   ·exact ⟨a, j, by omega, h2⟩
   ·exact ⟨i, j, by omega, List.mem_range.1 h1, h2.symm⟩
  ·rintro ⟨a, j, h1, h2, h3⟩
   by_cases c : a = i
   ·subst c
    exact .inr ⟨j, List.mem_range.2 h2, h3.symm⟩
   ·exact .inl ⟨a, j, by omega, h2, h3⟩
theorem spec_all {A : List S87} {B : List S91} {C : List S80} (h : isShow A B C = true) (k : Nat) (hk : 500 ≤ k) : spec_l09All.f k A B C = some (allW A B C C.length) := by
 have hC := (isShow_true h).2.2.1
 have st : ∀ d k i, C.length - i = d → i ≤ C.length → d + 310 ≤ k → spec_l09All.l0 k (allW A B C i) (i : Int) A B C = some (allW A B C C.length) := by
  intro d
  induction d with
  | zero =>
   intro k i hd hi hk; obtain ⟨k, rfl⟩ : ∃ m, k = m + 1 := ⟨k - 1, by omega⟩; simp only [spec_l09All.l0]; rw [if_neg (by omega), show i = C.length by omega]
  | succ d ih =>
   intro k i hd hi hk; obtain ⟨k, rfl⟩ : ∃ m, k = m + 1 := ⟨k - 1, by omega⟩; have hl := allW_len h i hi; have hw := (wn_range h (show i < C.length by omega)).2.1; have nx := ih k (i + 1) (by omega) (by omega) (by omega); simp only [spec_l09All.l0]; rw [if_pos (by omega), spec_cue h (show i < C.length by omega) k (by omega), w64 (n := (i : Int) + 1) (by omega)]; simp only [Option.bind_some]; rw [if_pos (by rw [cueW3_len]; omega)]; exact nx
 exact st C.length k 0 (by omega) (by omega) (by omega)
theorem impl_all {A : List S87} {B : List S91} {C : List S80} (h : isShow A B C = true) : Evt (fun k => impl_windowsOf.f k A B C = some (allW A B C C.length)) := by
 have hC := (isShow_true h).2.2.1
 have inner : ∀ i, i < C.length → ∀ d j, wn B (cu_at C i) - j = d → j ≤ wn B (cu_at C i) → ∀ k, impl_windowsOf.l1 (k + (d + 1)) (allW A B C i ++ ((List.range j).map (fun j => [wlo A B (cu_at C i) j, whi A B (cu_at C i) j, (i : Int)]))) (i : Int) C (C.length : Int) (i : Int) (cueW2 A B (cu_at C i)) ((wn B (cu_at C i) : Nat) : Int) (j : Int) A B C = impl_windowsOf.l0 k (allW A B C (i + 1)) C (C.length : Int) ((i + 1 : Nat) : Int) A B C := by
  intro i hi d; have hl := allW_len h i (by omega); have hw := (wn_range h hi).2.1
  induction d with
  | zero =>
   intro j hd hj k; simp only [impl_windowsOf.l1]; rw [if_neg (by omega), w64 (n := (i : Int) + 1) (by omega), show j = wn B (cu_at C i) by omega]
   rfl
  | succ d ih =>
   intro j hd hj k; have nx := ih (j + 1) (by omega) (by omega) k; rw [List.range_succ, List.map_append, List.map_singleton, ← List.append_assoc] at nx; rw [← nx, show k + (d + 1 + 1) = (k + (d + 1)) + 1 by omega]; simp only [impl_windowsOf.l1]; rw [if_pos (by omega), if_pos (by omega), cueW2_len, if_pos (by omega), rdL_cue2 _ _ _ (show j < wn B (cu_at C i) by omega), w64 (n := (j : Int) + 1) (by omega), rd_0, rd_1, if_pos (by show (0 : Int) < ((2 : Nat) : Int); decide), if_pos (by show (1 : Int) < ((2 : Nat) : Int); decide), if_pos (by rw [List.length_append, List.length_map, List.length_range]; omega)]
   rfl
 have st : ∀ d i, C.length - i = d → i ≤ C.length → Evt (fun k => impl_windowsOf.l0 k (allW A B C i) C (C.length : Int) (i : Int) A B C = some (allW A B C C.length)) := by
  intro d
  induction d with
  | zero =>
   intro i hd hi; refine Evt.succ (Evt.of fun k => ?_); show impl_windowsOf.l0 (k + 1) _ _ _ (i : Int) _ _ _ = _; simp only [impl_windowsOf.l0]; rw [if_neg (by omega), show i = C.length by omega]
  | succ d ih =>
   intro i hd hi; have hw := (wn_range h (show i < C.length by omega)).2.1; obtain ⟨K, hK⟩ := ih (i + 1) (by omega) (by omega); refine ⟨K + 400, fun k hk => ?_⟩; obtain ⟨k, rfl⟩ : ∃ m, k = (m + (wn B (cu_at C i) + 1)) + 1 := ⟨k - wn B (cu_at C i) - 2, by omega⟩; show impl_windowsOf.l0 (k + (wn B (cu_at C i) + 1) + 1) _ _ _ (i : Int) _ _ _ = _; simp only [impl_windowsOf.l0]; rw [if_pos (by omega), if_pos (by omega), if_pos (by omega), rd_cue, impl_cue h (show i < C.length by omega) _ (by omega)]; simp only [Option.bind_some]; rw [cueW2_len]; have z := inner i (by omega) (wn B (cu_at C i)) 0 (by omega) (by omega) k; rw [show (List.range 0).map (fun j => [wlo A B (cu_at C i) j, whi A B (cu_at C i) j, (i : Int)]) = [] from rfl, List.append_nil] at z; exact z.trans (hK k (by omega))
 obtain ⟨K, hK⟩ := st C.length 0 (by omega) (by omega); exact ⟨K, fun k hk => hK k hk⟩
def starts (W : List (List Int)) : List Int := W.map (fun w => rd w 0)
theorem rdL_get {W : List (List Int)} {i : Nat} (h : i < W.length) : rd_L5 W (i : Int) = W[i] := by
 unfold rd_L5
 rw [Int.toNat_natCast, List.getD_eq_getElem?_getD, List.getElem?_eq_getElem h]; rfl
theorem rd_starts (W : List (List Int)) (i : Nat) (h : i < W.length) : rd (starts W) (i : Int) = rd (rd_L5 W (i : Int)) 0 := by
 rw [rdL_get h]; show (starts W).getD ((i : Int)).toNat 0 = _
 unfold starts
 rw [Int.toNat_natCast, List.getD_eq_getElem?_getD, List.getElem?_map, List.getElem?_eq_getElem h]; rfl
theorem rdL_mem {W : List (List Int)} {i : Nat} (h : i < W.length) : rd_L5 W (i : Int) ∈ W := by
 unfold rd_L5
 rw [Int.toNat_natCast, List.getD_eq_getElem?_getD, List.getElem?_eq_getElem h]; exact List.getElem_mem h
def insAt (O : List Int) (p : Nat) (i : Int) : List Int := O.take p ++ i :: O.drop p
theorem insAt_len (O : List Int) (p : Nat) (i : Int) (h : p ≤ O.length) : (insAt O p i).length = O.length + 1 := by
 unfold insAt
 rw [List.length_append, List.length_take, List.length_cons, List.length_drop]; omega
theorem insAt_get (O : List Int) (p : Nat) (i : Int) (h : p ≤ O.length) (j : Nat) : (insAt O p i).getD j 0 = if j < p then O.getD j 0 else if j = p then i else O.getD (j - 1) 0 := by
 unfold insAt
 simp only [List.getD_eq_getElem?_getD]
 have hl : (O.take p).length = p := by rw [List.length_take]; omega
 by_cases c : j < p
 ·rw [if_pos c, List.getElem?_append_left (by omega), List.getElem?_take, if_pos c]
 ·rw [if_neg c, List.getElem?_append_right (by omega), hl]
  by_cases e : j = p
  ·rw [if_pos e, e, Nat.sub_self, List.getElem?_cons_zero]; rfl
  ·rw [if_neg e, show j - p = (j - 1 - p) + 1 by omega, List.getElem?_cons_succ, List.getElem?_drop, show p + (j - 1 - p) = j - 1 by omega]
def posF (T O : List Int) (t : Int) : Nat → Nat → Nat
 | x, 0 => x
 | x, d + 1 => if rd T (O.getD x 0) ≤ t then posF T O t (x + 1) d else x
theorem posF_range (T O : List Int) (t : Int) : ∀ d x, x ≤ posF T O t x d ∧ posF T O t x d ≤ x + d
 | 0, x => by unfold posF; omega
 | d + 1, x => by
  have := posF_range T O t d (x + 1)
  unfold posF
  split <;> omega
theorem posF_before (T O : List Int) (t : Int) : ∀ d x j, x ≤ j → j < posF T O t x d → rd T (O.getD j 0) ≤ t
 | 0, x, j, h1, h2 => by unfold posF at h2; omega
 | d + 1, x, j, h1, h2 => by
  unfold posF at h2
  by_cases c : rd T (O.getD x 0) ≤ t
  ·rw [if_pos c] at h2
   by_cases e : j = x
   ·rw [e]; exact c
   ·exact posF_before T O t d (x + 1) j (by omega) h2
  ·rw [if_neg c] at h2; omega
theorem posF_at (T O : List Int) (t : Int) : ∀ d x, posF T O t x d < x + d → t < rd T (O.getD (posF T O t x d) 0)
 | 0, x, h => by unfold posF at h; omega
 | d + 1, x, h => by
  unfold posF at h ⊢
  by_cases c : rd T (O.getD x 0) ≤ t
  ·rw [if_pos c] at h ⊢
   exact posF_at T O t d (x + 1) (by omega)
  ·rw [if_neg c]; omega
def pos (T O : List Int) (i : Nat) : Nat := posF T O (rd T (i : Int)) 0 O.length
def ordF (T : List Int) : Nat → List Int
 | 0 => []
 | i + 1 => insAt (ordF T i) (pos T (ordF T i) i) (i : Int)
theorem pos_le (T O : List Int) (i : Nat) : pos T O i ≤ O.length := by
 have := posF_range T O (rd T (i : Int)) O.length 0
 unfold pos; omega
structure Ord (T O : List Int) (m : Nat) : Prop where
 l : O.length = m
 r : ∀ j, j < m → 0 ≤ O.getD j 0 ∧ O.getD j 0 < (m : Int)
 s : ∀ a b, a < b → b < m → rd T (O.getD a 0) < rd T (O.getD b 0) ∨ (rd T (O.getD a 0) = rd T (O.getD b 0) ∧ O.getD a 0 < O.getD b 0)
theorem Ord.after {T O : List Int} {m : Nat} (h : Ord T O m) {i j : Nat} (h1 : pos T O i ≤ j) (h2 : j < m) : rd T (i : Int) < rd T (O.getD j 0) := by
 have e := posF_at T O (rd T (i : Int)) O.length 0; have hl := h.l; have hp : posF T O (rd T (i : Int)) 0 O.length = pos T O i := rfl; rw [hp] at e; have e1 := e (by omega)
 by_cases c : pos T O i = j
 ·rw [← c]; exact e1
 ·have := h.s (pos T O i) j (by omega) h2
  omega
theorem Ord.before {T O : List Int} {i j : Nat} (h1 : j < pos T O i) : rd T (O.getD j 0) ≤ rd T (i : Int) := posF_before T O _ O.length 0 j (by omega) h1
theorem ordF_ord (T : List Int) : ∀ m, Ord T (ordF T m) m
 | 0 => ⟨rfl, fun j h => absurd h (by omega), fun a b _ h => absurd h (by omega)⟩
 | m + 1 => by
  have ih := ordF_ord T m; have hp := pos_le T (ordF T m) m; have hl := ih.l
  unfold ordF
  refine ⟨by rw [insAt_len _ _ _ hp]; omega, fun j hj => ?_, fun a b hab hb => ?_⟩
  ·rw [insAt_get _ _ _ hp]
   split
   ·have := ih.r j (by omega); omega
   ·split
    ·omega
    ·have := ih.r (j - 1) (by omega); omega
  ·rw [insAt_get _ _ _ hp a, insAt_get _ _ _ hp b]
   by_cases a1 : a < pos T (ordF T m) m
   ·rw [if_pos a1]
    by_cases b1 : b < pos T (ordF T m) m
    ·rw [if_pos b1]; exact ih.s a b hab (by omega)
    ·rw [if_neg b1]
     by_cases b2 : b = pos T (ordF T m) m
     ·rw [if_pos b2]
      have h1 := Ord.before (T := T) (O := ordF T m) (i := m) a1; have h2 := (ih.r a (by omega)).2
      omega
     ·rw [if_neg b2]; exact ih.s a (b - 1) (by omega) (by omega)
   ·rw [if_neg a1, if_neg (show ¬ b < pos T (ordF T m) m by omega), if_neg (show ¬ b = pos T (ordF T m) m by omega)]
    by_cases a2 : a = pos T (ordF T m) m
    ·rw [if_pos a2]
     have h1 := ih.after (i := m) (j := b - 1) (by omega) (by omega); exact .inl h1
    ·rw [if_neg a2]; exact ih.s (a - 1) (b - 1) (by omega) (by omega)
theorem spec_order_in (T : List Int) (hT : T.length ≤ 100000) (i : Nat) (hi : i < T.length) (O : List Int) (hO : O.length = i) (hr : ∀ j, j < O.length → 0 ≤ O.getD j 0 ∧ O.getD j 0 < (T.length : Int)) : ∀ d x, O.length - x = d → x ≤ O.length → ∀ k, spec_l08Order.l1 (k + (posF T O (rd T (i : Int)) x d - x + 1)) T O (i : Int) (x : Int) = spec_l08Order.l0 k T (insAt O (posF T O (rd T (i : Int)) x d) (i : Int)) ((i + 1 : Nat) : Int) := by
 have hw : wrap64 ((i : Int) + 1) = ((i + 1 : Nat) : Int) := w64 (by omega)
 have stop : ∀ (x : Nat) (k : Nat), x ≤ O.length → (([] : List Int) ++ O.take x ++ [(i : Int)] ++ O.drop x) = insAt O x (i : Int) := fun x k _ => by
  unfold insAt; rw [List.nil_append, List.append_assoc]; rfl
 have l1 : ∀ x, x ≤ O.length → (([] : List Int).length + (O.take x).length < 17592186044416) ∧ (([] : List Int) ++ O.take x).length + [(i : Int)].length < 17592186044416 ∧ (([] : List Int) ++ O.take x ++ [(i : Int)]).length + (O.drop x).length < 17592186044416 := fun x hx => by
  simp only [List.length_append, List.length_take, List.length_drop, List.length_nil, List.length_cons]; omega
 intro d
 induction d with
 | zero =>
  intro x hd hx k; show spec_l08Order.l1 (k + (x - x + 1)) T O (i : Int) (x : Int) = spec_l08Order.l0 k T (insAt O x (i : Int)) ((i + 1 : Nat) : Int); rw [show k + (x - x + 1) = k + 1 by omega]; obtain ⟨c1, c2, c3⟩ := l1 x hx
  unfold spec_l08Order.l1
  simp only [Option.bind_some]; rw [if_neg (by omega), if_pos (by omega), if_pos (by omega), Int.toNat_natCast, if_pos c1, if_pos c2, if_pos c3, stop x k hx, hw]
 | succ d ih =>
  intro x hd hx k; have hrx := hr x (by omega)
  by_cases c : rd T (O.getD x 0) ≤ rd T (i : Int)
  ·have hp : posF T O (rd T (i : Int)) x (d + 1) = posF T O (rd T (i : Int)) (x + 1) d := by
    show (if rd T (O.getD x 0) ≤ rd T (i : Int) then _ else _) = _; rw [if_pos c]
   have hg := posF_range T O (rd T (i : Int)) d (x + 1); have e := ih (x + 1) (by omega) (by omega) k; rw [hp, show k + (posF T O (rd T (i : Int)) (x + 1) d - x + 1) = (k + (posF T O (rd T (i : Int)) (x + 1) d - (x + 1) + 1)) + 1 by omega]
   revert e
   generalize k + (posF T O (rd T (i : Int)) (x + 1) d - (x + 1) + 1) = q; intro e
   unfold spec_l08Order.l1
   rw [if_pos (by omega), if_pos (by omega), rd_nat, if_pos hrx.1, if_pos hrx.2, if_pos (by omega), if_pos (by omega), if_pos c, w64 (n := (x : Int) + 1) (by omega)]; exact e
  ·have hp : posF T O (rd T (i : Int)) x (d + 1) = x := by
    show (if rd T (O.getD x 0) ≤ rd T (i : Int) then _ else _) = _; rw [if_neg c]
   rw [hp, show k + (x - x + 1) = k + 1 by omega]; obtain ⟨c1, c2, c3⟩ := l1 x hx
   unfold spec_l08Order.l1
   simp only [Option.bind_some]; rw [if_pos (by omega), if_pos (by omega), rd_nat, if_pos hrx.1, if_pos hrx.2, if_pos (by omega), if_pos (by omega), if_neg c, Int.toNat_natCast, if_pos c1, if_pos (by omega), if_pos c2, if_pos c3, stop x k hx, hw]
theorem spec_order_go (T : List Int) (hT : T.length ≤ 100000) : ∀ d i, T.length - i = d → i ≤ T.length → ∀ k, d * (T.length + 3) + 1 ≤ k → spec_l08Order.l0 k T (ordF T i) (i : Int) = some (ordF T T.length) := by
 intro d
 induction d with
 | zero =>
  intro i hd hi k hk; obtain ⟨k, rfl⟩ : ∃ m, k = m + 1 := ⟨k - 1, by omega⟩
  unfold spec_l08Order.l0
  rw [if_neg (by omega), show i = T.length by omega]
 | succ d ih =>
  intro i hd hi k hk; have ho := ordF_ord T i; have hl := ho.l; have hp := pos_le T (ordF T i) i; have hm : (d + 1) * (T.length + 3) = d * (T.length + 3) + (T.length + 3) := Nat.succ_mul _ _; obtain ⟨k, rfl⟩ : ∃ m, k = m + (pos T (ordF T i) i - 0 + 1) + 1 := ⟨k - (pos T (ordF T i) i - 0 + 1) - 1, by omega⟩
  unfold spec_l08Order.l0
  rw [if_pos (by omega)]; refine (spec_order_in T hT i (by omega) (ordF T i) hl (fun j hj => by have := ho.r j (by omega); omega) (ordF T i).length 0 (by omega) (by omega) k).trans ?_; exact ih (i + 1) (by omega) (by omega) k (by omega)
theorem spec_order (T : List Int) (hT : T.length ≤ 100000) (k : Nat) (hk : T.length * (T.length + 3) + 1 ≤ k) : spec_l08Order.f k T = some (ordF T T.length) := spec_order_go T hT T.length 0 (by omega) (by omega) k hk
end Go.Proofs.Ytnifblnlpepehaa.F
