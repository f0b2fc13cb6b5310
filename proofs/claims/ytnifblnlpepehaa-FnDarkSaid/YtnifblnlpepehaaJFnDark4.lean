import Derived.Test.YtnifblnlpepehaaJFnDark3
import Derived.Below
import Derived.Deep.Draws
import Derived.Deep.AppendLies
import Derived.Maps.AppendAt
import Derived.OwnWalk
import Derived.Laws.BytesArg
import Derived.Laws.MakeOwn
import Derived.Laws.OwnMore
import Derived.Tactics
import Derived.Lib.ConvBytes
import Derived.Laws.Slices
import Derived.WalkKit
import Derived.KernelRfl
import Derived.RowKit3
import Derived.Deep.LoopGhost
import Derived.Deep.QuietTactic
import Derived.BigQuiet
import Derived.WideLaws
import Derived.Deep.DeepCutAuto
import Derived.Deep.CutBlock
import Derived.Deep.RegionHeld3
import Derived.Lib.AppendStr
import Derived.ArgAppend
import Derived.Laws.IdiomCopy
import Derived.RowKit
import Derived.OrdersHeld
import Derived.Laws.BitsLemmas
import Derived.Laws.StructEq
import Derived.Test.YtnifblnlpepehaaProg
import Derived.Laws.Cover1
namespace Go.Proofs.Ytnifblnlpepehaa.F
open Go.RowKit Go.Proofs.YtnifblnlpepehaaW.PrintWords Go.Proofs.YtnifblnlpepehaaW.PrintLast Go.Proofs.YtnifblnlpepehaaW.PrintMore
attribute [local go_sem] max2_int min2_int max_two min_two max_three min_three max_four min_four
set_option linter.unusedVariables false
set_option linter.unusedSimpArgs false
set_option maxHeartbeats 8000000
set_option maxRecDepth 100000
def impl_windowsOfCue.f (k : Nat) (l0_0 : List (S87)) (l0_1 : List (S91)) (l0_2 : List (S80)) (a1_0 : Int) (a1_1 : Int) (a1_2 : ByteArray) (a1_3 : Int) : Option ((List (List Int))) := (impl_articleFor.f k l0_0 l0_1 l0_2 a1_0 a1_1 a1_2 a1_3).bind fun bt326 => ((impl_firedAt.f k l0_0 l0_1 l0_2 a1_0 a1_1 a1_2 a1_3).bind fun t335 => ((impl_shotWindows.f k bt326.1 bt326.2.1 bt326.2.2.1 bt326.2.2.2.1 bt326.2.2.2.2.1 bt326.2.2.2.2.2.1 bt326.2.2.2.2.2.2.1 bt326.2.2.2.2.2.2.2.1 bt326.2.2.2.2.2.2.2.2 t335).bind fun t336 => (some t336)))
def impl_windowsOfCue.T1 : Bool × List (List Nat × List Nat) := (true, [([], []), ([], []), ([0, 1], [0, 1]), ([], []), ([], []), ([3, 4, 2], [3, 4]), ([2, 5, 5], [2, 5]), ([6, 6, 0, 1, 2, 3, 4, 5, 6], [6])])
def impl_windowsOfCue.B1 : List Nat := [0, 0, 3, 0, 0, 31, 63, 127]
theorem impl_windowsOfCue.tab1 : rtab .any (opsOf Try.f65 1) = impl_windowsOfCue.T1 := by kernel_rfl
theorem impl_windowsOfCue.bits1 : waitsOk impl_windowsOfCue.T1.2 impl_windowsOfCue.B1 = true := by kernel_rfl
theorem impl_windowsOfCue.calls (k : Nat) (A0_0 : Option Addr) (c0_0 : Nat) (l0_0 : List (S87)) (A0_1 : Option Addr) (c0_1 : Nat) (l0_1 : List (S91)) (A0_2 : Option Addr) (c0_2 : Nat) (l0_2 : List (S80)) (a1_0 : Int) (a1_1 : Int) (a1_2 : ByteArray) (a1_3 : Int) (r : List (List Int)) (w : World) (hr0_0 : Kd.C k87 w A0_0 l0_0.length l0_0) (hc0_0 : l0_0.length ≤ c0_0) (hr0_1 : Kd.C k91 w A0_1 l0_1.length l0_1) (hc0_1 : l0_1.length ≤ c0_1) (hr0_2 : Kd.C k80 w A0_2 l0_2.length l0_2) (hc0_2 : l0_2.length ≤ c0_2) (h : impl_windowsOfCue.f k l0_0 l0_1 l0_2 a1_0 a1_1 a1_2 a1_3 = some r) :
  Calls Try.prog 65 #[.agg #[.slice A0_0 l0_0.length c0_0, .slice A0_1 l0_1.length c0_1, .slice A0_2 l0_2.length c0_2], .agg #[.int .i64 a1_0, .int .i64 a1_1, .string a1_2, .int .i64 a1_3]] w fun e w' => ∃ v0_ : Value, e = .returned (v0_) ∧ Kd.S (Kd.slice 2 (Kd.int .i64)) 47 w' w.heap.size (fun _ => True) v0_ r ∧ Below w.heap.size w w' := by
 have hu35 := Try.underlying35; have hu80 := Try.underlying80; have HR0_0 := am_ hr0_0; have HC0_0 := am_ hc0_0; clear hr0_0 hc0_0; have HR0_1 := am_ hr0_1; have HC0_1 := am_ hc0_1; clear hr0_1 hc0_1; have HR0_2 := am_ hr0_2; have HC0_2 := am_ hc0_2; clear hr0_2 hc0_2; have HB := am_ (Below.refl w.heap.size w); have H : ((impl_articleFor.f k l0_0 l0_1 l0_2 a1_0 a1_1 a1_2 a1_3).bind fun bt326 => ((impl_firedAt.f k l0_0 l0_1 l0_2 a1_0 a1_1 a1_2 a1_3).bind fun t335 => ((impl_shotWindows.f k bt326.1 bt326.2.1 bt326.2.2.1 bt326.2.2.2.1 bt326.2.2.2.2.1 bt326.2.2.2.2.2.1 bt326.2.2.2.2.2.2.1 bt326.2.2.2.2.2.2.2.1 bt326.2.2.2.2.2.2.2.2 t335).bind fun t336 => (some t336)))) = some r := h; clear h; obtain ⟨⟨t326, t327, t328, t329, t330, t331, t332, t333, t334⟩, A3, H⟩ := bE_ H
 dsimp only at H
 obtain ⟨t335, A4, H⟩ := bE_ H; obtain ⟨t336, A5, H⟩ := bE_ H; obtain rfl := Option.some.inj H
 go_enter Try.func65, Try.ntmps65
 try go_wp2_with (first | ((with_reducible refine gate_dst (N := 2) rfl ?_); refine boxZ 2 #[.slice A0_0 l0_0.length c0_0, .slice A0_1 l0_1.length c0_1, .slice A0_2 l0_2.length c0_2] 35 ?_; intro gb324 hg w6 hbox hb; replace BK324 := am_ (hbox); replace GW324 := am_ ((Ze : w.heap.size ≤ gb324)); replace GE324 := GW324; replace HB := (bsZ Zf hb); clear hb hbox hg) | ((with_reducible refine gate_dst (N := 3) rfl ?_); refine boxZ 3 #[.int .i64 a1_0, .int .i64 a1_1, .string a1_2, .int .i64 a1_3] 80 ?_; intro gb325 hg w7 hbox hb; replace BK325 := am_ (hbox); replace GW325 := am_ (((Zk GE324) : w.heap.size ≤ gb325)); replace GE325 := GW325; replace HB := (bsZ (Zh GE324) hb); replace NB324_325 := am_ ((by rw [hg]; exact Nat.ne_of_lt (blk_lt (g := gb324) (b0Z BK324)) : gb324 ≠ gb325)); replace NB325_324 := am_ ((by rw [hg]; exact Nat.ne_of_gt (blk_lt (g := gb324) (b0Z BK324)) : gb325 ≠ gb324)); replace BK324 := (bkZ BK324 hb); clear hb hbox hg))
 replace BK324 := am_ (blk_drew BK324.out); replace BK325 := am_ (blk_drew BK325.out); replace HB := am_ (below_drew1 HB.out); refine start_ (n := 8) (S := fun w' => w'.cell? ⟨gb324, 0, none⟩ = some (.slice A0_0 l0_0.length c0_0) ∧ w'.cell? ⟨gb324, 1, none⟩ = some (.slice A0_1 l0_1.length c0_1) ∧ w'.cell? ⟨gb324, 2, none⟩ = some (.slice A0_2 l0_2.length c0_2) ∧ w'.cell? ⟨gb325, 0, none⟩ = some (.int .i64 a1_0) ∧ w'.cell? ⟨gb325, 1, none⟩ = some (.int .i64 a1_1) ∧ w'.cell? ⟨gb325, 2, none⟩ = some (.string a1_2) ∧ w'.cell? ⟨gb325, 3, none⟩ = some (.int .i64 a1_3)) (ds := []) (bT 8 0) Zi rfl rfl ⟨(blk_cell BK324.out 0).trans rfl, (blk_cell BK324.out 1).trans rfl, (blk_cell BK324.out 2).trans rfl, (blk_cell BK325.out 0).trans rfl, (blk_cell BK325.out 1).trans rfl, (blk_cell BK325.out 2).trans rfl, (blk_cell BK325.out 3).trans rfl⟩ (fun hHeld => ?_); refine with_tabW impl_windowsOfCue.tab1 impl_windowsOfCue.bits1 (fun HT_ HW_ => ?_); generalize w7.drew = w8 at BK324 BK325 HB hHeld ⊢; refine takeZ7 HT_ HW_ 0 (some 5) (bT 8 1) hHeld ?_; refine takeZ7 HT_ HW_ 1 (some 6) (bT 8 2) hHeld ?_; refine takeZ7 HT_ HW_ 3 (some 8) (bB 8 11) hHeld ?_; refine takeZ7 HT_ HW_ 4 (some 9) (bB 8 27) hHeld ?_; refine one_ (i := 2) (N := some 7) (bT 8 5) rfl rfl (one_of HT_.out Zi) (by decide) (fun K hK => ?_); refine goes_ Try.func81 Zi rfl #[.agg #[.slice A0_0 l0_0.length c0_0, .slice A0_1 l0_1.length c0_1, .slice A0_2 l0_2.length c0_2], .agg #[.int .i64 a1_0, .int .i64 a1_1, .string a1_2, .int .i64 a1_3]] (by rfl) rfl rfl Zj ?_
 with_reducible refine (impl_articleFor.calls k _ _ l0_0 _ _ l0_1 _ _ l0_2 a1_0 a1_1 a1_2 a1_3 t326 t327 t328 t329 t330 t331 t332 t333 t334 _ ?side1 ?side2 ?side3 ?side4 ?side5 ?side6 A3.out).mono ?_
 (case side1 => exact (Zl HR0_0))
 (case side2 => exact HC0_0.out)
 (case side3 => exact (Zl HR0_1))
 (case side4 => exact HC0_1.out)
 (case side5 => exact (Zl HR0_2))
 (case side6 => exact HC0_2.out)
 rintro e w9 ⟨rfl, hb⟩; refine ⟨_, rfl, ?_⟩; replace BK324 := (bkZ BK324 hb); replace BK325 := (bkZ BK325 hb); replace HB := (bsZ (Zn GE324 GE325) hb)
 (try clear hb)
 (try clear hb2)
 (try clear hk)
 (try clear hi)
 refine hK.out _ _ (Zau BK324 BK325) (fun hHeld => ?_); clear hK K; refine normZ 7 ?_; refine one_ (i := 5) (N := some 10) (bT 8 6) rfl rfl (one_of HT_.out Zi) (by decide) (fun K hK => ?_); refine goes_ Try.func64 Zi rfl #[.agg #[.slice A0_0 l0_0.length c0_0, .slice A0_1 l0_1.length c0_1, .slice A0_2 l0_2.length c0_2], .agg #[.int .i64 a1_0, .int .i64 a1_1, .string a1_2, .int .i64 a1_3]] (by rfl) rfl rfl Zj ?_
 with_reducible refine (impl_firedAt.calls k _ _ l0_0 _ _ l0_1 _ _ l0_2 a1_0 a1_1 a1_2 a1_3 t335 _ ?side1 ?side2 ?side3 ?side4 ?side5 ?side6 A4.out).mono ?_
 (case side1 => exact (Zl HR0_0))
 (case side2 => exact HC0_0.out)
 (case side3 => exact (Zl HR0_1))
 (case side4 => exact HC0_1.out)
 (case side5 => exact (Zl HR0_2))
 (case side6 => exact HC0_2.out)
 rintro e w10 ⟨rfl, hb⟩; refine ⟨_, rfl, ?_⟩; replace BK324 := (bkZ BK324 hb); replace BK325 := (bkZ BK325 hb); replace HB := (bsZ (Zn GE324 GE325) hb)
 (try clear hb)
 (try clear hb2)
 (try clear hk)
 (try clear hi)
 refine hK.out _ _ (Zau BK324 BK325) (fun hHeld => ?_); clear hK K; refine normZ 10 ?_; refine one_ (i := 6) (N := some 11) (bT 8 7) rfl rfl (one_of HT_.out Zi) (by decide) (fun K hK => ?_); refine goes_ Try.func80 Zi rfl #[.agg #[.string t326, .int .i64 t327, .int .i64 t328, .int .i64 t329, .int .i64 t330, .int .i64 t331, .int .i64 t332, .int .i64 t333, .int .i64 t334], .int .i64 t335] (by rfl) rfl rfl Zj ?_
 with_reducible refine (impl_shotWindows.calls k t326 t327 t328 t329 t330 t331 t332 t333 t334 t335 t336 _ A5.out).mono ?_
 rintro e w11 ⟨v337, rfl, ho0, hb⟩; refine ⟨_, rfl, ?_⟩; replace HO338 := am_ (Kd.S_lower ho0 (below_size (Zn GE324 GE325))); replace BK324 := (bkZ BK324 hb); replace BK325 := (bkZ BK325 hb); replace HB := (bsZ (Zn GE324 GE325) hb)
 (try clear hb)
 (try clear hb2)
 (try clear hk)
 (try clear hi)
 (try clear ho0)
 refine hK.out _ _ (Zau BK324 BK325) (fun hHeld => ?_); clear hK K; refine normZ 11 ?_; refine pureZ HT_ 7 (some 4) (bT 8 8) ?_; refine done_ (done_of HT_.out Zi) ?_
 try go_wp2
 go_ret
 exact ⟨_, Zg, (Zx HO338), (Zn GE324 GE325)⟩
mutual
def impl_windowsOf.l0 : Nat → List (List Int) → List (S80) → Int → Int → List (S87) → List (S91) → List (S80) → Option ((List (List Int)))
 | 0, _, _, _, _, _, _, _ => none
 | k + 1, x3, x9, x10, x11, x340000, x340001, x340002 => if x11 < x10 then (if 0 ≤ x11 then (if x11 < (x9.length : Int) then ((impl_windowsOfCue.f k x340000 x340001 x340002 ((rd_T80 x9 x11).f0) ((rd_T80 x9 x11).f1) ((rd_T80 x9 x11).f2) ((rd_T80 x9 x11).f3)).bind fun t342 => (impl_windowsOf.l1 k x3 x11 x9 x10 x11 t342 (t342.length : Int) 0 x340000 x340001 x340002)) else (none)) else (none)) else (some x3)
def impl_windowsOf.l1 : Nat → List (List Int) → Int → List (S80) → Int → Int → List (List Int) → Int → Int → List (S87) → List (S91) → List (S80) → Option ((List (List Int)))
 | 0, _, _, _, _, _, _, _, _, _, _, _ => none
 | k + 1, x3, x4, x9, x10, x11, x18, x19, x20, x340000, x340001, x340002 => if x20 < x19 then (if 0 ≤ x20 then (if x20 < (x18.length : Int) then (if 0 < ((rd_L5 x18 x20).length : Int) then (if 1 < ((rd_L5 x18 x20).length : Int) then (if x3.length < 5864062014805 then (impl_windowsOf.l1 k (x3 ++ [(([rd (rd_L5 x18 x20) 0, rd (rd_L5 x18 x20) 1, x4] : List Int))]) x4 x9 x10 x11 x18 x19 (wrap64 (x20 + 1)) x340000 x340001 x340002) else (none)) else (none)) else (none)) else (none)) else (none)) else (impl_windowsOf.l0 k x3 x9 x10 (wrap64 (x11 + 1)) x340000 x340001 x340002)
end
def impl_windowsOf.f (k : Nat) (l0_0 : List (S87)) (l0_1 : List (S91)) (l0_2 : List (S80)) : Option ((List (List Int))) := impl_windowsOf.l0 k ([] : List (List Int)) l0_2 (l0_2.length : Int) 0 l0_0 l0_1 l0_2
def impl_windowsOf.T8 : Bool × List (List Nat × List Nat) := (true, [([], []), ([], []), ([1], [1]), ([2], [2]), ([], []), ([4], [4]), ([5], [5]), ([], []), ([3, 6, 7], [3, 6, 7]), ([8], [8]), ([0, 9], [0, 9]), ([10, 10, 0, 1, 2, 3, 4, 5, 6, 7, 8, 9, 10], [0, 10])])
def impl_windowsOf.B8 : List Nat := [0, 0, 2, 6, 0, 16, 48, 0, 254, 510, 1023, 2047]
theorem impl_windowsOf.tab8 : rtab .any (opsOf Try.f32 8) = impl_windowsOf.T8 := by kernel_rfl
theorem impl_windowsOf.bits8 : waitsOk impl_windowsOf.T8.2 impl_windowsOf.B8 = true := by kernel_rfl
theorem impl_windowsOf.calls (k : Nat) (A0_0 : Option Addr) (c0_0 : Nat) (l0_0 : List (S87)) (A0_1 : Option Addr) (c0_1 : Nat) (l0_1 : List (S91)) (A0_2 : Option Addr) (c0_2 : Nat) (l0_2 : List (S80)) (r : List (List Int)) (w : World) (hr0_0 : Kd.C k87 w A0_0 l0_0.length l0_0) (hc0_0 : l0_0.length ≤ c0_0) (hr0_1 : Kd.C k91 w A0_1 l0_1.length l0_1) (hc0_1 : l0_1.length ≤ c0_1) (hr0_2 : Kd.C k80 w A0_2 l0_2.length l0_2) (hc0_2 : l0_2.length ≤ c0_2) (h : impl_windowsOf.f k l0_0 l0_1 l0_2 = some r) :
  Calls Try.prog 32 #[.agg #[.slice A0_0 l0_0.length c0_0, .slice A0_1 l0_1.length c0_1, .slice A0_2 l0_2.length c0_2]] w fun e w' => ∃ v0_ : Value, e = .returned (v0_) ∧ Kd.S (Kd.slice 2 (Kd.int .i64)) 47 w' w.heap.size (fun _ => True) v0_ r ∧ Below w.heap.size w w' := by
 have hu35 := Try.underlying35; have hu80 := Try.underlying80; have HR0_0 := am_ hr0_0; have HC0_0 := am_ hc0_0; clear hr0_0 hc0_0; have HR0_1 := am_ hr0_1; have HC0_1 := am_ hc0_1; clear hr0_1 hc0_1; have HR0_2 := am_ hr0_2; have HC0_2 := am_ hc0_2; clear hr0_2 hc0_2; have HB := am_ (Below.refl w.heap.size w); have H : (impl_windowsOf.l0 k ([] : List (List Int)) l0_2 (l0_2.length : Int) 0 l0_0 l0_1 l0_2) = some r := h; clear h; have H' := am_ H; clear H
 go_enter Try.func32, Try.ntmps32
 go_wp2_with (first | ((with_reducible refine gate_dst (N := 1) rfl ?_); refine boxZ 1 #[.slice A0_0 l0_0.length c0_0, .slice A0_1 l0_1.length c0_1, .slice A0_2 l0_2.length c0_2] 35 ?_; intro gb339 hg w2 hbox hb; replace BK339 := am_ (hbox); replace GW339 := am_ ((Ze : w.heap.size ≤ gb339)); replace GE339 := GW339; replace HB := (bsZ Zf hb); clear hb hbox hg; refine ci3 BK339 ?_; intros))
 go_loopg [3, 11] k (fun kq v3 v11 w' => ∃ (x3_1 : List (List Int)) (x11_1 : Int), v11 = .int .i64 x11_1 ∧ Aside0 (impl_windowsOf.l0 kq x3_1 l0_2 (l0_2.length : Int) x11_1 l0_0 l0_1 l0_2 = some r) ∧ Aside0 (kq ≤ k) ∧ Aside0 (Kd.S (Kd.slice 2 (Kd.int .i64)) 47 w' w.heap.size (fun _ => True) v3 x3_1) ∧ Aside0 (w'.heap[gb339]? = some (.cells #[(.slice A0_0 l0_0.length c0_0), (.slice A0_1 l0_1.length c0_1), (.slice A0_2 l0_2.length c0_2)] 35 (0, 0))) ∧ Aside0 (Below w.heap.size w w'))
 case atStart => exact ⟨(([] : List (List Int))), (0), Za, H', ⟨Nat.le_refl _⟩, ⟨Zar⟩, ⟨(Zq BK339)⟩, ⟨(Zh GE339)⟩⟩
 case round =>
  clear H'
  try clear p2
  try clear c3
  obtain ⟨x3_1, x11_1, rfl, HA, HK1, HO_3, BK339, HB⟩ := hrel
  cases gk with
  | zero => exact absurd HA.out (by simp [impl_windowsOf.l0])
  | succ k1 =>
   have H := HA.out; clear HA; simp only [impl_windowsOf.l0] at H
   by_cases c4 : x11_1 < (l0_2.length : Int)
   ·rw [if_pos c4] at H
    have c4b0 := decide_eq_true c4; clear c4
    by_cases c5 : 0 ≤ x11_1
    ·rw [if_pos c5] at H
     have c5b0 := decide_eq_true c5; clear c5
     by_cases c6 : x11_1 < (l0_2.length : Int)
     ·rw [if_pos c6] at H
      have c6b0 := decide_eq_true c6; clear c6; obtain ⟨t342, A7, H⟩ := bE_ H; have H' := am_ H; clear H; have p340 : 0 ≤ (x11_1 : Int) := of_decide_eq_true Zc; have q340 : x11_1 < (l0_2.length : Int) := of_decide_eq_true Zc; obtain ⟨ad340, e340, hx340_0, hx340_1, hx340_2, hx340_3⟩ := at_T80 HR0_2.out x11_1 p340 q340
      cases e340
      replace hx340_0 := cbH HB hx340_0; replace hx340_1 := cbH HB hx340_1; replace hx340_2 := cbH HB hx340_2; replace hx340_3 := cbH HB hx340_3; replace p340 := eq_true p340; replace q340 := eq_true q340
      go_wp2_with (first | ((with_reducible refine gate_dst (N := 5) rfl ?_); refine boxZ 5 #[.int .i64 0, .int .i64 0, .string (⟨#[]⟩ : ByteArray), .int .i64 0] 80 ?_; intro gb341 hg w8 hbox hb; replace HO_3 := am_ (Kd.S_below (Zx HO_3) hb); replace BK341 := am_ (hbox); replace GW341 := am_ (((Zk GE339) : w.heap.size ≤ gb341)); replace GE341 := GW341; replace HB := (bsZ (Zh GE339) hb); replace NB339_341 := am_ ((by rw [hg]; exact Nat.ne_of_lt (blk_lt (g := gb339) (b0Z BK339)) : gb339 ≠ gb341)); replace NB341_339 := am_ ((by rw [hg]; exact Nat.ne_of_gt (blk_lt (g := gb339) (b0Z BK339)) : gb341 ≠ gb339)); replace BK339 := (bkZ BK339 hb); clear hb hbox hg; have hnb9 := NB341_339.out; have hnc9 := NB339_341.out; refine ci4 BK341 ?_; intros; refine ci3 BK339 ?_; intros) | ((with_reducible refine gate_callee (f := 65) rfl ?_); refine gZ 18 Try.func65 #[.agg #[.slice A0_0 l0_0.length c0_0, .slice A0_1 l0_1.length c0_1, .slice (some ad340) l0_2.length c0_2], .agg #[.int .i64 ((rd_T80 l0_2 x11_1).f0), .int .i64 ((rd_T80 l0_2 x11_1).f1), .string ((rd_T80 l0_2 x11_1).f2), .int .i64 ((rd_T80 l0_2 x11_1).f3)]] ?_; (with_reducible refine (impl_windowsOfCue.calls k1 _ _ l0_0 _ _ l0_1 _ _ l0_2 ((rd_T80 l0_2 x11_1).f0) ((rd_T80 l0_2 x11_1).f1) ((rd_T80 l0_2 x11_1).f2) ((rd_T80 l0_2 x11_1).f3) t342 _ ?_ ?_ ?_ ?_ ?_ ?_ A7.out).mono ?_); exact Kd.C_below HR0_0.out (Zn GE339 GE341); exact HC0_0.out; exact Kd.C_below HR0_1.out (Zn GE339 GE341); exact HC0_1.out; exact Kd.C_below HR0_2.out (Zn GE339 GE341); exact HC0_2.out; rintro e w12 ⟨v343, rfl, ho0, hb⟩; refine ⟨_, rfl, ?_⟩; replace HO344 := am_ (Kd.S_lower (Kd.S_new' ho0 (Kd.S_lt (Zav HO_3 BK341))) (below_size (Zn GE339 GE341))); replace HO_3 := am_ (Kd.S_elder' (Zav HO_3 BK341) (Kd.S_base ho0) hb); replace BK339 := am_ (blk_below (g := gb339) (bfZ BK339 NB339_341) hb); replace BK341 := am_ (blk_below (g := gb341) (o := .cells #[.int .i64 ((rd_T80 l0_2 x11_1).f0), .int .i64 ((rd_T80 l0_2 x11_1).f1), .string ((rd_T80 l0_2 x11_1).f2), .int .i64 ((rd_T80 l0_2 x11_1).f3)] 80 (0, 0)) (bpZ BK341) hb); replace HB := (bsZ (Zn GE339 GE341) hb); clear hb ho0; obtain ⟨Ao13, co13, eo13⟩ := Kd.S_slice HO344.out; subst eo13))
      go_loopg [3, 20] k1 (fun kq v3 v20 w' => ∃ (x3_2 : List (List Int)) (x20_2 : Int), v20 = .int .i64 x20_2 ∧ Aside0 (impl_windowsOf.l1 kq x3_2 x11_1 l0_2 (l0_2.length : Int) x11_1 t342 (t342.length : Int) x20_2 l0_0 l0_1 l0_2 = some r) ∧ Aside0 (kq ≤ k1) ∧ Aside0 (Kd.S (Kd.slice 2 (Kd.int .i64)) 47 w' w.heap.size (fun k_ => some k_ ≠ ((.slice Ao13 t342.length co13) : Value).ownBlock) v3 x3_2) ∧ Aside0 (Kd.S (Kd.slice 2 (Kd.int .i64)) 47 w' w.heap.size (fun k_ => some k_ ≠ (v3 : Value).ownBlock) (.slice Ao13 t342.length co13) t342) ∧ Aside0 (w'.heap[gb339]? = some (.cells #[(.slice A0_0 l0_0.length c0_0), (.slice A0_1 l0_1.length c0_1), (.slice (some ad340) l0_2.length c0_2)] 35 (0, 0))) ∧ Aside0 (w'.heap[gb341]? = some (.cells #[.int .i64 ((rd_T80 l0_2 x11_1).f0), .int .i64 ((rd_T80 l0_2 x11_1).f1), .string ((rd_T80 l0_2 x11_1).f2), .int .i64 ((rd_T80 l0_2 x11_1).f3)] 80 (0, 0))) ∧ Aside0 (Below w.heap.size w w'))
      case atStart => exact ⟨(x3_1), (0), Za, H', ⟨Nat.le_refl _⟩, ⟨(Zaw HO_3)⟩, ⟨(Zaw HO344)⟩, ⟨(Zq BK339)⟩, ⟨(Zq BK341)⟩, ⟨(Zn GE339 GE341)⟩⟩
      case round =>
       clear H'
       try clear p2
       try clear c3
       try clear p3
       try clear q3
       try clear hx3
       try clear c4
       try clear c4b0
       try clear c5
       try clear c5b0
       try clear c6
       try clear c6b0
       try clear c9
       try clear hx340_0
       try clear hx340_1
       try clear hx340_2
       try clear hx340_3
       try clear p2
       try clear p340
       try clear q340
       obtain ⟨x3_2, x20_2, rfl, HA, HK2, HO_3, HO_18, BK339, BK341, HB⟩ := hrel
       cases gk with
       | zero => exact absurd HA.out (by simp [impl_windowsOf.l1])
       | succ k2 =>
        have H := HA.out; clear HA; simp only [impl_windowsOf.l1] at H
        by_cases c14 : x20_2 < (t342.length : Int)
        ·rw [if_pos c14] at H
         have c14b0 := decide_eq_true c14; clear c14
         by_cases c15 : 0 ≤ x20_2
         ·rw [if_pos c15] at H
          have c15b0 := decide_eq_true c15; clear c15
          by_cases c16 : x20_2 < (t342.length : Int)
          ·rw [if_pos c16] at H
           have c16b0 := decide_eq_true c16; clear c16
           by_cases c17 : 0 < ((rd_L5 t342 x20_2).length : Int)
           ·rw [if_pos c17] at H
            have c17b0 := decide_eq_true c17; have c17b1 : decide (0 < (rd_L5 t342 x20_2).length) = true := decide_eq_true (by omega); clear c17
            by_cases c18 : 1 < ((rd_L5 t342 x20_2).length : Int)
            ·rw [if_pos c18] at H
             have c18b0 := decide_eq_true c18; have c18b1 : decide (1 < (rd_L5 t342 x20_2).length) = true := decide_eq_true (by omega); clear c18; obtain ⟨y348, hy348⟩ : ∃ y_ : List Int, y_ = (([rd (rd_L5 t342 x20_2) 0, rd (rd_L5 t342 x20_2) 1, x11_1] : List Int)) := ⟨_, rfl⟩
             (first | (rw [← hy348] at H; with_reducible replace H := bindZ H) | rw [← hy348] at H | skip)
             have Ny348 := am_ hy348; clear hy348
             by_cases c19 : x3_2.length < 5864062014805
             ·rw [if_pos c19] at H
              have LMc19 := am_ c19; clear c19; obtain ⟨y351, hy351⟩ : ∃ y_ : List (List Int), y_ = (x3_2 ++ [y348]) := ⟨_, rfl⟩
              (first | (rw [← hy351] at H; with_reducible replace H := bindZ H) | rw [← hy351] at H | skip)
              have Ny351 := am_ hy351; clear hy351; have H' := am_ H; clear H; have p345 : 0 ≤ (x20_2 : Int) := of_decide_eq_true Zc; have q345 : x20_2 < (t342.length : Int) := of_decide_eq_true Zc; obtain ⟨ad345, A345_0, c345_0, e345, hx345_0, hl345_0, hi345_0⟩ := at_L5 (Kd.S_reads' HO_18.out).2.2 x20_2 p345 q345
              cases e345
              obtain ⟨ce345, hce345, hMe345, hcc345⟩ := Kd.S_get HO_18.out [] x20_2 p345 (by first | exact q345 | exact of_decide_eq_true Zc | (have e_ := (Kd.S_reads' HO_18.out).1; omega)); obtain ⟨ve345_0, rfl, ge345_0⟩ := hMe345; have hv345_0 := hcc345 0 _ rfl; rw [Nat.add_zero, show ((Kd.slice 2 (Kd.int .i64))).sz = 1 from rfl, Nat.mul_one] at hv345_0; replace hv345_0 := Option.some.inj (hv345_0.symm.trans hx345_0); rw [hv345_0] at ge345_0; have HL345_0 := am_ (show Kd.R (Kd.int .i64) 2 _ _ _ _ (rd_L5 t342 x20_2) from ge345_0); clear hv345_0 ge345_0; clear hcc345 hce345; have HR345_0 := am_ hi345_0; have HC345_0 := am_ hl345_0; clear hi345_0 hl345_0; replace p345 := eq_true p345; replace q345 := eq_true q345
              try go_wp2
              replace HO_3 := am_ (Kd.S_drew HO_3.out); replace HO_18 := am_ (Kd.S_drew HO_18.out); replace HL345_0 := am_ (Kd.R_drew HL345_0.out); replace BK339 := am_ (blk_drew BK339.out); replace BK341 := am_ (blk_drew BK341.out); replace HR345_0 := am_ (Kd.C_drew HR345_0.out); replace HB := am_ (below_drew1 HB.out); have p346 : 0 ≤ (0 : Int) := (by omega); have q346 : 0 < ((rd_L5 t342 x20_2).length : Int) := of_decide_eq_true Zc; obtain ⟨ad346, e346, hx346_0⟩ := Kd.at_int (Zad HR345_0) 0 p346 q346
              cases e346
              have qi346 : (0 < (rd_L5 t342 x20_2).length) = True := eq_true (by omega)
              (try rw [show ((0 : Int)).toNat = 0 from rfl] at hx346_0)
              (try rw [Addr.add_zero'] at hx346_0)
              replace p346 := eq_true p346; replace q346 := eq_true q346; have p347 : 0 ≤ (1 : Int) := (by omega); have q347 : 1 < ((rd_L5 t342 x20_2).length : Int) := of_decide_eq_true Zc; obtain ⟨ad347, e347, hx347_0⟩ := Kd.at_int (Zad HR345_0) 1 p347 q347; obtain rfl : ad346 = ad347 := (by injection e347)
              (try simp only [show (1 : Int).toNat = 1 from rfl, Nat.reduceMul, Nat.reduceEqDiff, Go.Addr.add, ↓reduceIte] at hx347_0)
              have qi347 : (1 < (rd_L5 t342 x20_2).length) = True := eq_true (by omega)
              (try rw [show ((1 : Int)).toNat = 1 from rfl] at hx347_0)
              replace p347 := eq_true p347; replace q347 := eq_true q347; refine start_ (n := 12) (S := fun w' => w'.cell? ad346 = some (.int .i64 (rd (rd_L5 t342 x20_2) 0)) ∧ w'.cell? ⟨ad346.block, ad346.off + 1, none⟩ = some (.int .i64 (rd (rd_L5 t342 x20_2) 1))) (ds := [9, 10]) (bT 12 0) Zi rfl rfl ⟨hx346_0, hx347_0⟩ (fun hHeld => ?_); refine with_tabW impl_windowsOf.tab8 impl_windowsOf.bits8 (fun HT_ HW_ => ?_); generalize wr.drew = w20 at HO_3 HO_18 HL345_0 BK339 BK341 HR345_0 HB hx346_0 hx347_0 hHeld ⊢; refine pureZ HT_ 0 (some 24) (bT 12 1) ?_; refine pureZ HT_ 1 (some 25) (bT 12 2) ?_; refine pureZ HT_ 2 (some 26) (bT 12 3) ?_; refine pureZ HT_ 4 (some 28) (bB 12 23) ?_; refine pureZ HT_ 5 (some 29) (bB 12 55) ?_; refine pureZ HT_ 7 (some 31) (bB 12 183) ?_; refine takeZ2 HT_ HW_ 3 (some 27) (bB 12 191) hHeld ?_; refine takeZ2 HT_ HW_ 6 (some 30) (bT 12 8) hHeld ?_; refine one_ (i := 8) (N := some 32) (bT 12 9) rfl rfl (one_of HT_.out Zi) (by decide) (fun K hK => ?_); refine Kd.R_lit_step (Kd.int .i64) _ 2 ?hg (N := 32) ?hd (xs := ([rd (rd_L5 t342 x20_2) 0, rd (rd_L5 t342 x20_2) 1, x11_1] : List Int)) (inner := [.int .i64 (rd (rd_L5 t342 x20_2) 0), .int .i64 (rd (rd_L5 t342 x20_2) 1), .int .i64 x11_1]) (ok := fun _ => True) (okp := fun _ => True) ?hr ?hp (fun _ hk => hk) trivial (Below.refl _ _) (Nat.le_refl _) (by simp) ?_; (case hd => rfl); (case hg => rfl); (case hr => first | (go_simp; done) | (go_simp; rfl)); (case hp => exact (Reps.one (show Kd.M (Kd.int .i64) _ _ _ (rd (rd_L5 t342 x20_2) 0) [.int .i64 (rd (rd_L5 t342 x20_2) 0)] from rfl) (Reps.one (show Kd.M (Kd.int .i64) _ _ _ (rd (rd_L5 t342 x20_2) 1) [.int .i64 (rd (rd_L5 t342 x20_2) 1)] from rfl) (Reps.one (show Kd.M (Kd.int .i64) _ _ _ x11_1 [.int .i64 x11_1] from rfl) (Reps.none _ _))))); intro v349 w21 ho22 hb hg_ hnew_; have HS0_ := (hb.cell (World.block_lt_of_cell? _ _ (hHeld.1))).trans (hHeld.1); have HS1_ := (hb.cell (World.block_lt_of_cell? _ _ (hHeld.2))).trans (hHeld.2); clear hg_ hnew_
              (first | rw [← Ny348.out] at ho22 | (simp only [Int.reduceToNat] at ho22; rw [← Ny348.out] at ho22))
              replace HO_3 := am_ (Kd.S_elder' (Zx HO_3) (Kd.R_base ho22) hb); replace HO_18 := am_ (Kd.S_elder' (Zx HO_18) (Kd.R_base ho22) hb); replace HO350 := am_ (Kd.R_lower (Kd.R_new' ho22 (Kd.R_lt (Zr HL345_0))) (below_size (Zn GE339 GE341))); replace HL345_0 := am_ (Kd.R_elder' (Zr HL345_0) (Kd.R_base ho22) hb); replace BK339 := (bkZ BK339 hb); replace BK341 := (bkZ BK341 hb); replace HR345_0 := am_ (Kd.C_below (Zad HR345_0) hb); replace HB := (bsZ (Zn GE339 GE341) hb); clear hb ho22; obtain ⟨Ao24, co24, eo24⟩ := Kd.R_slice HO350.out
              (first | subst eo24 | (injection eo24 with f1_ f2_ f3_; have f4_ := f1_.symm; have f5_ := f3_.symm; clear f1_ f2_ f3_; subst f4_; subst f5_))
              refine hK.out _ _ ⟨HS0_, HS1_⟩ (fun hHeld => ?_); clear hK K; refine normZ 32 ?_; refine last_ (i := 9) (N := some 33) (bT 12 10) rfl rfl (one_of HT_.out Zi) (by decide) (fun K hK => ?_); refine value_ (w1 := ?_) (v := ?_) (by rfl) rfl ?_ ?_; rotate_left 2
              ·go_simp
               constructor
               ·rfl
               ·rfl
              refine hK.out _ _ ?_; clear hK K; refine normZ 33 ?_; refine last_ (i := 10) (N := some 34) (bT 12 11) rfl rfl (one_of HT_.out Zi) (by decide) (fun K hK => ?_); refine Kd.S_append_step (Kd.slice 2 (Kd.int .i64)) (w0 := w) w.heap.size (by rfl) (.tmp 24) (.tmp 33) 28 47 (.slice none 0 0) 24 rfl Try.underlying28 info47 rfl (by decide) (by omega) u3 x3_2 y348 [.slice Ao24 y348.length co24] (fun k_ => some k_ ≠ (.slice (some ad345) t342.length co13 : Value).ownBlock) (fun k_ => some k_ = (.slice Ao24 y348.length co24 : Value).ownBlock) rfl rfl ?aP (fun k_ hk_ => ((Kd.R_mono (ok' := fun k_ => ((fun k_ => some k_ ≠ (.slice (some ad345) t342.length co13 : Value).ownBlock)) k_ ∧ some k_ ≠ (u3 : Value).ownBlock) (Kd.R_apart' (Kd.R_apart' (HO350.out) (Kd.S_typed HO_18.out) (by decide)) (Kd.S_typed HO_3.out) (by decide)) (fun k_ hk => ⟨hk.1.2, hk.2⟩))).1 k_ hk_.symm) ?aF ?aO ?aB ?aS ?aL ?_
              (case aP => exact Kd.M_row (Kd.R_mono (Kd.R_tight rfl (Kd.R_mono (ok' := fun k_ => ((fun k_ => some k_ ≠ (.slice (some ad345) t342.length co13 : Value).ownBlock)) k_ ∧ some k_ ≠ (u3 : Value).ownBlock) (Kd.R_apart' (Kd.R_apart' (HO350.out) (Kd.S_typed HO_18.out) (by decide)) (Kd.S_typed HO_3.out) (by decide)) (fun k_ hk => ⟨hk.1.2, hk.2⟩))) (fun _ h_ => h_)))
              (case aB => exact (Zn GE339 GE341))
              (case aF => exact (fun k_ hk => Kd.fresh' (Kd.S_lt (Zx HO_18)) k_ hk))
              (case aO => exact (by (with_reducible repeat (first | apply Kd.S_alloc | apply Kd.S_drewN | apply Kd.S_drew)); exact Kd.S_mono HO_3.out (fun k_ hk => ⟨hk.1, fun e_ => hk.2 e_⟩)))
              (case aS => exact (below_size (Zn GE339 GE341)))
              (case aL => have := LMc19.out; omega)
              intro v352 w23 ho hb hg hat; rw [← Ny351.out] at ho; replace HO_18 := am_ (Kd.S_after (ok := (fun k_ => some k_ ≠ (.slice Ao24 y348.length co24 : Value).ownBlock)) (by (with_reducible repeat (first | apply Kd.S_alloc | apply Kd.S_drewN | apply Kd.S_drew)); exact Kd.S_mono HO_18.out (fun _ hk => ⟨hk.2, hk.1⟩)) hg hat); replace BK339 := am_ (blk_grown (g := gb339) (b0Z BK339) hg (Kd.S_ne HO_3.out BK339.out (by decide))); replace BK341 := am_ (blk_grown (g := gb341) (b0Z BK341) hg (Kd.S_ne HO_3.out BK341.out (by decide))); replace HL345_0 := am_ (Kd.R_after (ok := (fun k_ => some k_ ≠ (.slice (some ad345) t342.length co13 : Value).ownBlock ∧ some k_ ≠ (.slice Ao24 y348.length co24 : Value).ownBlock)) (by (with_reducible repeat (first | apply Kd.R_alloc | apply Kd.R_drewN | apply Kd.R_drew)); exact Kd.R_mono HL345_0.out (fun _ hk => ⟨⟨hk.1.2, hk.2⟩, hk.1.1⟩)) hg hat); replace HB := am_ (hb); replace HO353 := am_ (ho); clear HO_3 HO350; clear ho hb hg hat; refine hK.out _ _ ?_; clear hK K; refine normZ 34 ?_; refine pureZ HT_ 11 (some 3) (bT 12 12) ?_; refine done_ (done_of HT_.out Zi) ?_
              try go_wp2
              go_roundg k2
              case measure => have := HK1.out; have := HK2.out; omega
              case rel => exact ⟨(y351), (wrap64 (x20_2 + 1)), Za, H', ⟨Zac⟩, ⟨(Zx HO353)⟩, ⟨(Zaw HO_18)⟩, ⟨(Zq BK339)⟩, ⟨(Zq BK341)⟩, ⟨(Zn GE339 GE341)⟩⟩
             ·exact nN c19 H
            ·exact nN c18 H
           ·exact nN c17 H
          ·exact nN c16 H
         ·exact nN c15 H
        ·rw [if_neg c14] at H
         have c14b0 := decide_eq_false c14; clear c14; have H' := am_ H; clear H
         go_wp2
         go_roundg k2
         case measure => have := HK1.out; have := HK2.out; omega
         case rel => exact ⟨(x3_2), (wrap64 (x11_1 + 1)), Za, H', ⟨Zac⟩, ⟨(Zz HO_3)⟩, ⟨(Zq BK339)⟩, ⟨(Zn GE339 GE341)⟩⟩
     ·exact nN c6 H
    ·exact nN c5 H
   ·rw [if_neg c4] at H
    have c4b0 := decide_eq_false c4; clear c4; obtain rfl := Option.some.inj H
    go_wp2
    go_ret
    exact ⟨_, Zg, (Zx HO_3), (Zh GE339)⟩
mutual
def impl_DarkGaps.l0 : Nat → Int → List (List Int) → Int → Int → Option ((List (List Int)) × Int)
 | 0, _, _, _, _ => none
 | k + 1, x1, x6, x24, x25 => if x25 < x24 then (impl_DarkGaps.l1 k x1 x6 x25 x24 x25) else (impl_DarkGaps.l2 k x1 x6 ([] : List (List Int)) x6 (x6.length : Int) 0)
def impl_DarkGaps.l1 : Nat → Int → List (List Int) → Int → Int → Int → Option ((List (List Int)) × Int)
 | 0, _, _, _, _, _ => none
 | k + 1, x1, x6, x8, x24, x25 => if x8 > 0 then (if 0 ≤ (wrap64 (x8 - 1)) then (if (wrap64 (x8 - 1)) < (x6.length : Int) then (if 0 < ((rd_L5 x6 (wrap64 (x8 - 1))).length : Int) then (if 0 ≤ x8 then (if x8 < (x6.length : Int) then (if 0 < ((rd_L5 x6 x8).length : Int) then (if (rd (rd_L5 x6 (wrap64 (x8 - 1))) 0) > (rd (rd_L5 x6 x8) 0) then (impl_DarkGaps.l1 k x1 ((x6.set ((wrap64 (x8 - 1)) : Int).toNat (rd_L5 x6 x8)).set (x8 : Int).toNat (rd_L5 x6 (wrap64 (x8 - 1)))) (wrap64 (x8 - 1)) x24 x25) else (impl_DarkGaps.l0 k x1 x6 x24 (wrap64 (x25 + 1)))) else (none)) else (none)) else (none)) else (none)) else (none)) else (none)) else (impl_DarkGaps.l0 k x1 x6 x24 (wrap64 (x25 + 1)))
def impl_DarkGaps.l2 : Nat → Int → List (List Int) → List (List Int) → List (List Int) → Int → Int → Option ((List (List Int)) × Int)
 | 0, _, _, _, _, _, _ => none
 | k + 1, x1, x6, x9, x66, x67, x68 => if x68 < x67 then (if 0 ≤ x68 then (if x68 < (x66.length : Int) then (if x68 = 0 then (impl_DarkGaps.l2 k x1 x6 x9 x66 x67 (wrap64 (x68 + 1))) else (if 0 < (x6.length : Int) then (if 1 < ((rd_L5 x6 0).length : Int) then (if x68 ≤ (x6.length : Int) then ((some (x6.take (x68 : Int).toNat : List (List Int))).bind fun y371 => (impl_DarkGaps.l3 k x1 x6 x9 (rd_L5 x66 x68) (rd (rd_L5 x6 0) 1) x66 x67 x68 y371 (y371.length : Int) 0)) else (none)) else (none)) else (none))) else (none)) else (none)) else (some (x9, 0))
def impl_DarkGaps.l3 : Nat → Int → List (List Int) → List (List Int) → List Int → Int → List (List Int) → Int → Int → List (List Int) → Int → Int → Option ((List (List Int)) × Int)
 | 0, _, _, _, _, _, _, _, _, _, _, _ => none
 | k + 1, x1, x6, x9, x11, x12, x66, x67, x68, x82, x83, x84 => if x84 < x83 then (if 0 ≤ x84 then (if x84 < (x82.length : Int) then (if 1 < ((rd_L5 x82 x84).length : Int) then (impl_DarkGaps.l3 k x1 x6 x9 x11 (mx x12 (rd (rd_L5 x82 x84) 1)) x66 x67 x68 x82 x83 (wrap64 (x84 + 1))) else (none)) else (none)) else (none)) else (if 0 < (x11.length : Int) then (if (wrap64 ((wrap64 ((rd x11 0) - x12)) - 1)) ≥ x1 then (if x9.length < 5864062014805 then (impl_DarkGaps.l2 k x1 x6 (x9 ++ [(([wrap64 (x12 + 1), wrap64 ((rd x11 0) - 1)] : List Int))]) x66 x67 (wrap64 (x68 + 1))) else (none)) else (impl_DarkGaps.l2 k x1 x6 x9 x66 x67 (wrap64 (x68 + 1)))) else (none))
end
def impl_DarkGaps.f (k : Nat) (l0_0 : List (S87)) (l0_1 : List (S91)) (l0_2 : List (S80)) (a1 : Int) : Option ((List (List Int)) × Int) := (impl_IsShow.f k l0_0 l0_1 l0_2).bind fun t355 => (if t355 = true then ((impl_within.f a1 1 10000000).bind fun t356 => (if t356 = true then ((impl_windowsOf.f k l0_0 l0_1 l0_2).bind fun t357 => (impl_DarkGaps.l0 k a1 t357 (t357.length : Int) 0)) else (some (([] : List (List Int)), 2)))) else (some (([] : List (List Int)), 1)))
def impl_DarkGaps.T10 : Bool × List (List Nat × List Nat) := (true, [([], []), ([0], [0]), ([1], [1]), ([2], [2]), ([2], [2]), ([4, 2], [2, 4]), ([3, 5, 2], [2, 3, 5]), ([6, 2], [2, 6]), ([7, 2], [2, 7]), ([8, 2], [2, 8]), ([2], [2]), ([2], [2]), ([10, 11, 2], [2, 10, 11]), ([12, 2], [2, 12]), ([13, 2], [2, 13]), ([14, 2], [2, 14]), ([9, 15, 2], [2, 9, 15]), ([2, 16], [2, 16])])
def impl_DarkGaps.B10 : List Nat := [0, 1, 3, 7, 7, 23, 63, 127, 255, 511, 7, 7, 3079, 7175, 15367, 31751, 65535, 131071]
theorem impl_DarkGaps.tab10 : rtab .any (opsOf Try.f8 10) = impl_DarkGaps.T10 := by kernel_rfl
theorem impl_DarkGaps.bits10 : waitsOk impl_DarkGaps.T10.2 impl_DarkGaps.B10 = true := by kernel_rfl
def impl_DarkGaps.T12 : Bool × List (List Nat × List Nat) := (true, [([], []), ([], []), ([1], [1]), ([], []), ([], []), ([], []), ([], []), ([5, 6], [5, 6]), ([7], [7]), ([], []), ([], []), ([10], [10]), ([9, 11], [9, 11]), ([12], [12]), ([0, 2, 0, 1, 2, 5, 6, 7, 8, 13], [0, 2]), ([14, 8, 0, 1, 2, 5, 6, 7, 8, 13], [8, 14]), ([3, 4, 0, 1, 2, 3, 4, 5, 6, 7, 8, 9, 10, 11, 12, 13, 14, 15], [3, 4]), ([16, 13, 15, 0, 1, 2, 3, 4, 5, 6, 7, 8, 9, 10, 11, 12, 13, 14, 15], [13, 16])])
def impl_DarkGaps.B12 : List Nat := [0, 0, 2, 0, 0, 0, 0, 96, 224, 0, 0, 1024, 3584, 7680, 16359, 32743, 65535, 131071]
theorem impl_DarkGaps.tab12 : rtab .any (opsOf Try.f8 12) = impl_DarkGaps.T12 := by kernel_rfl
theorem impl_DarkGaps.bits12 : waitsOk impl_DarkGaps.T12.2 impl_DarkGaps.B12 = true := by kernel_rfl
theorem impl_DarkGaps.calls (k : Nat) (A0_0 : Option Addr) (c0_0 : Nat) (l0_0 : List (S87)) (A0_1 : Option Addr) (c0_1 : Nat) (l0_1 : List (S91)) (A0_2 : Option Addr) (c0_2 : Nat) (l0_2 : List (S80)) (a1 : Int) (r1 : List (List Int)) (r2 : Int) (w : World) (hr0_0 : Kd.C k87 w A0_0 l0_0.length l0_0) (hc0_0 : l0_0.length ≤ c0_0) (hr0_1 : Kd.C k91 w A0_1 l0_1.length l0_1) (hc0_1 : l0_1.length ≤ c0_1) (hr0_2 : Kd.C k80 w A0_2 l0_2.length l0_2) (hc0_2 : l0_2.length ≤ c0_2) (h : impl_DarkGaps.f k l0_0 l0_1 l0_2 a1 = some (r1, r2)) :
  Calls Try.prog 8 #[.agg #[.slice A0_0 l0_0.length c0_0, .slice A0_1 l0_1.length c0_1, .slice A0_2 l0_2.length c0_2], .int .i64 a1] w fun e w' => ∃ v0_ : Value, e = .returned (.tuple #[v0_, .int .i64 r2]) ∧ Kd.S (Kd.slice 2 (Kd.int .i64)) 47 w' w.heap.size (fun _ => True) v0_ r1 ∧ Below w.heap.size w w' := by
 have hu35 := Try.underlying35; have HR0_0 := am_ hr0_0; have HC0_0 := am_ hc0_0; clear hr0_0 hc0_0; have HR0_1 := am_ hr0_1; have HC0_1 := am_ hc0_1; clear hr0_1 hc0_1; have HR0_2 := am_ hr0_2; have HC0_2 := am_ hc0_2; clear hr0_2 hc0_2; have HB := am_ (Below.refl w.heap.size w); have H : ((impl_IsShow.f k l0_0 l0_1 l0_2).bind fun t355 => (if t355 = true then ((impl_within.f a1 1 10000000).bind fun t356 => (if t356 = true then ((impl_windowsOf.f k l0_0 l0_1 l0_2).bind fun t357 => (impl_DarkGaps.l0 k a1 t357 (t357.length : Int) 0)) else (some (([] : List (List Int)), 2)))) else (some (([] : List (List Int)), 1)))) = some (r1, r2) := h; clear h; obtain ⟨t355, A3, H⟩ := bE_ H; have HS_ := am_ H; clear H
 go_enter Try.func8, Try.ntmps8
 go_wp2_with (first | ((with_reducible refine gate_dst (N := 2) rfl ?_); refine boxZ 2 #[.slice A0_0 l0_0.length c0_0, .slice A0_1 l0_1.length c0_1, .slice A0_2 l0_2.length c0_2] 35 ?_; intro gb354 hg w8 hbox hb; replace BK354 := am_ (hbox); replace GW354 := am_ ((Ze : w.heap.size ≤ gb354)); replace GE354 := GW354; replace HB := (bsZ Zf hb); clear hb hbox hg; refine ci3 BK354 ?_; intros) | ((with_reducible refine gate_callee (f := 30) rfl ?_); refine gZ 16 Try.func30 #[.agg #[.slice A0_0 l0_0.length c0_0, .slice A0_1 l0_1.length c0_1, .slice A0_2 l0_2.length c0_2]] ?_; (with_reducible refine (impl_IsShow.calls k _ _ l0_0 _ _ l0_1 _ _ l0_2 t355 _ ?_ ?_ ?_ ?_ ?_ ?_ A3.out).mono ?_); exact (Zl HR0_0); exact HC0_0.out; exact (Zl HR0_1); exact HC0_1.out; exact (Zl HR0_2); exact HC0_2.out; rintro e w10 ⟨rfl, hb⟩; refine ⟨_, rfl, ?_⟩; replace BK354 := (bkZ BK354 hb); replace HB := (bsZ (Zh GE354) hb); clear hb; refine ?roundEnd))
 case roundEnd =>
  by_cases c4 : t355 = true
  ·have H := HS_.out
   clear HS_; subst c4; rw [if_pos rfl] at H; obtain ⟨t356, A5, H⟩ := bE_ H; have HS_ := am_ H; clear H
   by_cases c6 : t356 = true
   ·have H := HS_.out
    clear HS_; subst c6; rw [if_pos rfl] at H; obtain ⟨t357, A7, H⟩ := bE_ H; have H' := am_ H; clear H
    go_wp2_with (first | ((with_reducible refine gate_callee (f := 31) rfl ?_); refine gZ 19 Try.func31 #[.int .i64 a1, .int .i64 1, .int .i64 10000000] ?_; (with_reducible refine (impl_within.calls a1 1 10000000 true _ A5.out).mono ?_); rintro e w' ⟨rfl, ⟨nd, rfl⟩⟩; refine ⟨_, rfl, ?_⟩; refine ci3 BK354 ?_; intros) | ((with_reducible refine gate_callee (f := 32) rfl ?_); refine gZ 22 Try.func32 #[.agg #[.slice A0_0 l0_0.length c0_0, .slice A0_1 l0_1.length c0_1, .slice A0_2 l0_2.length c0_2]] ?_; (with_reducible refine (impl_windowsOf.calls k _ _ l0_0 _ _ l0_1 _ _ l0_2 t357 _ ?_ ?_ ?_ ?_ ?_ ?_ A7.out).mono ?_); exact (Zo HR0_0 GE354); exact HC0_0.out; exact (Zo HR0_1 GE354); exact HC0_1.out; exact (Zo HR0_2 GE354); exact HC0_2.out; rintro e w12 ⟨v358, rfl, ho0, hb⟩; refine ⟨_, rfl, ?_⟩; replace HO359 := am_ (Kd.N_lower (Kd.N_mono (ok' := fun k_ => k_ ≠ gb354) (Kd.S_N (Kd.S_bound ho0)) (fun k_ hk_ => (Kd.freshB (g := gb354) (b0Z BK354) k_ hk_.2.1))) (below_size (Zh GE354))); replace BK354 := (bkZ BK354 hb); replace HB := (bsZ (Zh GE354) hb); clear hb ho0; obtain ⟨Ao13, co13, eo13⟩ := Kd.N_slice HO359.out; subst eo13))
    go_loopg [25] k (fun kq v25 w' => ∃ (x6_1 : List (List Int)) (x25_1 : Int), v25 = .int .i64 x25_1 ∧ Aside0 (impl_DarkGaps.l0 kq a1 x6_1 (t357.length : Int) x25_1 = some (r1, r2)) ∧ Aside0 (kq ≤ k) ∧ Aside0 (Kd.N (Kd.slice 2 (Kd.int .i64)) 47 w' w.heap.size (fun k_ => k_ ≠ gb354) (.slice Ao13 t357.length co13) x6_1) ∧ Aside0 (w'.heap[gb354]? = some (.cells #[(.slice A0_0 l0_0.length c0_0), (.slice A0_1 l0_1.length c0_1), (.slice A0_2 l0_2.length c0_2)] 35 (0, 0))) ∧ Aside0 (Below w.heap.size w w'))
    case atStart => exact ⟨(t357), (0), Za, H', ⟨Nat.le_refl _⟩, ⟨(Zaa HO359)⟩, ⟨(Zq BK354)⟩, ⟨(Zh GE354)⟩⟩
    case round =>
     clear H'
     try clear p2
     try clear c3
     try clear c4
     try clear c6
     try clear c8
     obtain ⟨x6_1, x25_1, rfl, HA, HK1, HO_6, BK354, HB⟩ := hrel; have hl6_1 := (Kd.N_reads' HO_6.out).1; rw [hl6_1] at HO_6
     (try simp only [hl6_1])
     (try simp only [hl6_1] at BK354)
     cases gk with
     | zero => exact absurd HA.out (by simp [impl_DarkGaps.l0])
     | succ k1 =>
      have H := HA.out; clear HA; simp only [impl_DarkGaps.l0] at H
      (try simp only [hl6_1] at H)
      by_cases c14 : x25_1 < (x6_1.length : Int)
      ·rw [if_pos c14] at H
       have c14b0 := decide_eq_true c14; clear c14; have H' := am_ H; clear H
       go_wp2
       go_loopg [8] k1 (fun kq v8 w' => ∃ (x6_2 : List (List Int)) (x8_2 : Int), v8 = .int .i64 x8_2 ∧ Aside0 (impl_DarkGaps.l1 kq a1 x6_2 x8_2 (x6_1.length : Int) x25_1 = some (r1, r2)) ∧ Aside0 (kq ≤ k1) ∧ Aside0 (Kd.N (Kd.slice 2 (Kd.int .i64)) 47 w' w.heap.size (fun k_ => k_ ≠ gb354) (.slice Ao13 x6_1.length co13) x6_2) ∧ Aside0 (w'.heap[gb354]? = some (.cells #[(.slice A0_0 l0_0.length c0_0), (.slice A0_1 l0_1.length c0_1), (.slice A0_2 l0_2.length c0_2)] 35 (0, 0))) ∧ Aside0 (Below w.heap.size w w'))
       case atStart => exact ⟨(x6_1), (x25_1), Za, H', ⟨Nat.le_refl _⟩, ⟨(Zax HO_6)⟩, ⟨(Zay BK354)⟩, ⟨(Zh GE354)⟩⟩
       case round =>
        clear H'
        try clear c1
        try clear p2
        try clear c3
        try clear c4
        try clear c6
        try clear c8
        try clear c14
        try clear c14b0
        try clear p2
        obtain ⟨x6_2, x8_2, rfl, HA, HK2, HO_6, BK354, HB⟩ := hrel; have hl6_2 := (Kd.N_reads' HO_6.out).1; rw [hl6_2] at HO_6
        (try simp only [hl6_2])
        (try simp only [hl6_2] at BK354)
        cases gk with
        | zero => exact absurd HA.out (by simp [impl_DarkGaps.l1])
        | succ k2 =>
         have H := HA.out; clear HA; simp only [impl_DarkGaps.l1] at H
         by_cases c15 : x8_2 > 0
         ·rw [if_pos c15] at H
          have c15b0 : decide (0 < x8_2) = true := decide_eq_true c15; clear c15; obtain ⟨ji16, hji16⟩ : ∃ j_ : Int, (wrap64 (x8_2 - 1)) = j_ := ⟨_, rfl⟩
          replace H : (if 0 ≤ (ji16) then (if (ji16) < (x6_2.length : Int) then (if 0 < ((rd_L5 x6_2 (ji16)).length : Int) then (if 0 ≤ x8_2 then (if x8_2 < (x6_2.length : Int) then (if 0 < ((rd_L5 x6_2 x8_2).length : Int) then (if (rd (rd_L5 x6_2 (ji16)) 0) > (rd (rd_L5 x6_2 x8_2) 0) then (impl_DarkGaps.l1 k2 a1 ((x6_2.set ((ji16) : Int).toNat (rd_L5 x6_2 x8_2)).set (x8_2 : Int).toNat (rd_L5 x6_2 (ji16))) ji16 (x6_1.length : Int) x25_1) else (impl_DarkGaps.l0 k2 a1 x6_2 (x6_1.length : Int) (wrap64 (x25_1 + 1)))) else (none)) else (none)) else (none)) else (none)) else (none)) else (none)) = some (r1, r2) := by first | (rw [hji16] at H; exact H) | (simp only [hji16] at H ⊢; exact H)
          have hji16w : (IntKind.i64.wrap (x8_2 - 1)) = ji16 := (i64_w _).trans hji16
          by_cases c17 : 0 ≤ (ji16)
          ·rw [if_pos c17] at H
           have c17b0 := decide_eq_true c17; clear c17
           by_cases c18 : (ji16) < (x6_2.length : Int)
           ·rw [if_pos c18] at H
            have c18b0 := decide_eq_true c18; clear c18
            by_cases c19 : 0 < ((rd_L5 x6_2 (ji16)).length : Int)
            ·rw [if_pos c19] at H
             have c19b0 := decide_eq_true c19; have c19b1 : decide (0 < (rd_L5 x6_2 (ji16)).length) = true := decide_eq_true (by omega); clear c19
             by_cases c20 : 0 ≤ x8_2
             ·rw [if_pos c20] at H
              have c20b0 := decide_eq_true c20; clear c20
              by_cases c21 : x8_2 < (x6_2.length : Int)
              ·rw [if_pos c21] at H
               have c21b0 := decide_eq_true c21; clear c21
               by_cases c22 : 0 < ((rd_L5 x6_2 x8_2).length : Int)
               ·rw [if_pos c22] at H
                have c22b0 := decide_eq_true c22; have c22b1 : decide (0 < (rd_L5 x6_2 x8_2).length) = true := decide_eq_true (by omega); clear c22
                by_cases c23 : (rd (rd_L5 x6_2 (ji16)) 0) > (rd (rd_L5 x6_2 x8_2) 0)
                ·rw [if_pos c23] at H
                 have c23b0 : decide ((rd (rd_L5 x6_2 x8_2) 0) < (rd (rd_L5 x6_2 (ji16)) 0)) = true := decide_eq_true c23; clear c23; obtain ⟨y366, hy366⟩ : ∃ y_ : List (List Int), y_ = (x6_2.set ((ji16) : Int).toNat (rd_L5 x6_2 x8_2)) := ⟨_, rfl⟩
                 (first | (rw [← hy366] at H; with_reducible replace H := bindZ H) | rw [← hy366] at H | skip)
                 have Ny366 := am_ hy366; clear hy366; obtain ⟨y367, hy367⟩ : ∃ y_ : List (List Int), y_ = (y366.set (x8_2 : Int).toNat (rd_L5 x6_2 (ji16))) := ⟨_, rfl⟩
                 (first | (rw [← hy367] at H; with_reducible replace H := bindZ H) | rw [← hy367] at H | skip)
                 have Ny367 := am_ hy367; clear hy367; have H' := am_ H; clear H
                 try go_wp2
                 replace HO_6 := am_ (Kd.N_drew HO_6.out); replace BK354 := am_ (blk_drew BK354.out); replace HB := am_ (below_drew1 HB.out); have p360 : 0 ≤ ((ji16) : Int) := of_decide_eq_true Zc; have q360 : (ji16) < (x6_2.length : Int) := of_decide_eq_true Zc; obtain ⟨ad360, A360_0, c360_0, e360, hx360_0, hl360_0, hi360_0⟩ := at_L5 (Kd.N_reads' HO_6.out).2.2 (ji16) p360 q360
                 cases e360
                 obtain ⟨ce360, hce360, hMe360, hcc360⟩ := Kd.N_get HO_6.out [] (ji16) p360 (by first | exact q360 | exact of_decide_eq_true Zc | (have e_ := (Kd.N_reads' HO_6.out).1; omega)); obtain ⟨ua360_0, uc360_0, rfl, ul360_0, ge360_0⟩ := Kd.FK_slice_open hMe360; have hv360_0 := hcc360 0 _ rfl; rw [Nat.add_zero, show ((Kd.slice 2 (Kd.int .i64))).sz = 1 from rfl, Nat.mul_one] at hv360_0; replace hv360_0 := Option.some.inj (hv360_0.symm.trans hx360_0); injection hv360_0 with hva_ hvn_ hvc_; rw [hva_] at ge360_0; rw [hvc_] at ul360_0; have HL360_0 := am_ (show Kd.V (Kd.int .i64) 2 _ w.heap.size _ _ (rd_L5 x6_2 (ji16)) from Kd.V_mk ul360_0 ge360_0); clear hva_ hvn_ hvc_ ge360_0 ul360_0; clear hcc360 hce360; have HR360_0 := am_ hi360_0; have HC360_0 := am_ hl360_0; clear hi360_0 hl360_0; replace p360 := eq_true p360; replace q360 := eq_true q360; have p361 : 0 ≤ (0 : Int) := (by omega); have q361 : 0 < ((rd_L5 x6_2 (ji16)).length : Int) := of_decide_eq_true Zc; obtain ⟨ad361, e361, hx361_0⟩ := Kd.at_int (Zad HR360_0) 0 p361 q361
                 cases e361
                 have qi361 : (0 < (rd_L5 x6_2 (ji16)).length) = True := eq_true (by omega)
                 (try rw [show ((0 : Int)).toNat = 0 from rfl] at hx361_0)
                 (try rw [Addr.add_zero'] at hx361_0)
                 replace p361 := eq_true p361; replace q361 := eq_true q361; have p362 : 0 ≤ (x8_2 : Int) := of_decide_eq_true Zc; have q362 : x8_2 < (x6_2.length : Int) := of_decide_eq_true Zc; obtain ⟨ad362, A362_0, c362_0, e362, hx362_0, hl362_0, hi362_0⟩ := at_L5 (Kd.N_reads' HO_6.out).2.2 x8_2 p362 q362; obtain rfl : ad360 = ad362 := (by injection e362); obtain ⟨ce362, hce362, hMe362, hcc362⟩ := Kd.N_get HO_6.out [] x8_2 p362 (by first | exact q362 | exact of_decide_eq_true Zc | (have e_ := (Kd.N_reads' HO_6.out).1; omega)); obtain ⟨ua362_0, uc362_0, rfl, ul362_0, ge362_0⟩ := Kd.FK_slice_open hMe362; have hv362_0 := hcc362 0 _ rfl; rw [Nat.add_zero, show ((Kd.slice 2 (Kd.int .i64))).sz = 1 from rfl, Nat.mul_one] at hv362_0; replace hv362_0 := Option.some.inj (hv362_0.symm.trans hx362_0); injection hv362_0 with hva_ hvn_ hvc_; rw [hva_] at ge362_0; rw [hvc_] at ul362_0; have HL362_0 := am_ (show Kd.V (Kd.int .i64) 2 _ w.heap.size _ _ (rd_L5 x6_2 x8_2) from Kd.V_mk ul362_0 ge362_0); clear hva_ hvn_ hvc_ ge362_0 ul362_0; clear hcc362 hce362; have HR362_0 := am_ hi362_0; have HC362_0 := am_ hl362_0; clear hi362_0 hl362_0; replace p362 := eq_true p362; replace q362 := eq_true q362; have p363 : 0 ≤ (0 : Int) := (by omega); have q363 : 0 < ((rd_L5 x6_2 x8_2).length : Int) := of_decide_eq_true Zc; obtain ⟨ad363, e363, hx363_0⟩ := Kd.at_int (Zad HR362_0) 0 p363 q363
                 cases e363
                 have qi363 : (0 < (rd_L5 x6_2 x8_2).length) = True := eq_true (by omega)
                 (try rw [show ((0 : Int)).toNat = 0 from rfl] at hx363_0)
                 (try rw [Addr.add_zero'] at hx363_0)
                 replace p363 := eq_true p363; replace q363 := eq_true q363; refine start_ (n := 18) (S := fun w' => w'.cell? (ad360.add ((ji16)).toNat) = some (.slice (some ad361) (rd_L5 x6_2 (ji16)).length c360_0) ∧ w'.cell? ad361 = some (.int .i64 (rd (rd_L5 x6_2 (ji16)) 0)) ∧ w'.cell? (ad360.add (x8_2).toNat) = some (.slice (some ad363) (rd_L5 x6_2 x8_2).length c362_0) ∧ w'.cell? ad363 = some (.int .i64 (rd (rd_L5 x6_2 x8_2) 0))) (ds := []) (bT 18 0) Zi rfl rfl ⟨hx360_0, hx361_0, hx362_0, hx363_0⟩ (fun hHeld => ?_); refine with_tabW impl_DarkGaps.tab10 impl_DarkGaps.bits10 (fun HT_ HW_ => ?_); generalize wr.drew = w26 at HO_6 BK354 HB HL360_0 HL362_0 HR360_0 HR362_0 hx360_0 hx361_0 hx362_0 hx363_0 hHeld ⊢; refine pureZ HT_ 0 (some 29) (bT 18 1) ?_; refine pureZ HT_ 1 (some 30) (bT 18 2) ?_; refine pureZ HT_ 2 (some 31) (bT 18 3) ?_; refine pureZ HT_ 3 (some 32) (bT 18 4) ?_; refine pureZ HT_ 4 (some 33) (bT 18 5) ?_; refine pureZ HT_ 5 (some 34) (bT 18 6) ?_; refine pureZ HT_ 6 (some 35) (bT 18 7) ?_; refine pureZ HT_ 10 (some 39) (bB 18 1151) ?_; refine pureZ HT_ 11 (some 40) (bB 18 3199) ?_; refine pureZ HT_ 12 (some 41) (bB 18 7295) ?_; refine takeZ4 HT_ HW_ 7 (some 36) (bB 18 7423) hHeld ?_; refine pureZ HT_ 8 (some 37) (bB 18 7679) ?_; refine takeZ4 HT_ HW_ 9 (some 38) (bT 18 13) hHeld ?_; refine takeZ4 HT_ HW_ 13 (some 42) (bT 18 14) hHeld ?_; refine pureZ HT_ 14 (some 43) (bT 18 15) ?_; refine takeZ4 HT_ HW_ 15 (some 44) (bT 18 16) hHeld ?_; refine pureZ HT_ 16 (some 45) (bT 18 17) ?_; refine pureZ HT_ 17 (some 46) (bT 18 18) ?_; refine done_ (done_of HT_.out Zi) ?_
                 try go_wp2
                 replace HO_6 := am_ (Kd.N_drew HO_6.out); replace HL360_0 := am_ (Kd.V_drew HL360_0.out); replace HL362_0 := am_ (Kd.V_drew HL362_0.out); replace BK354 := am_ (blk_drew BK354.out); replace HR360_0 := am_ (Kd.C_drew HR360_0.out); replace HR362_0 := am_ (Kd.C_drew HR362_0.out); replace HB := am_ (below_drew1 HB.out); have p364 : 0 ≤ (x8_2 : Int) := of_decide_eq_true Zc; have q364 : x8_2 < (x6_2.length : Int) := of_decide_eq_true Zc; obtain ⟨ad364, A364_0, c364_0, e364, hx364_0, hl364_0, hi364_0⟩ := at_L5 (Kd.N_reads' HO_6.out).2.2 x8_2 p364 q364; obtain rfl : ad360 = ad364 := (by injection e364); obtain ⟨ce364, hce364, hMe364, hcc364⟩ := Kd.N_get HO_6.out [] x8_2 p364 (by first | exact q364 | exact of_decide_eq_true Zc | (have e_ := (Kd.N_reads' HO_6.out).1; omega)); obtain ⟨ua364_0, uc364_0, rfl, ul364_0, ge364_0⟩ := Kd.FK_slice_open hMe364; have hv364_0 := hcc364 0 _ rfl; rw [Nat.add_zero, show ((Kd.slice 2 (Kd.int .i64))).sz = 1 from rfl, Nat.mul_one] at hv364_0; replace hv364_0 := Option.some.inj (hv364_0.symm.trans hx364_0); injection hv364_0 with hva_ hvn_ hvc_; rw [hva_] at ge364_0; rw [hvc_] at ul364_0; have HL364_0 := am_ (show Kd.V (Kd.int .i64) 2 _ w.heap.size _ _ (rd_L5 x6_2 x8_2) from Kd.V_mk ul364_0 ge364_0); clear hva_ hvn_ hvc_ ge364_0 ul364_0; clear hcc364 hce364; have HR364_0 := am_ hi364_0; have HC364_0 := am_ hl364_0; clear hi364_0 hl364_0; replace p364 := eq_true p364; replace q364 := eq_true q364; have p365 : 0 ≤ ((ji16) : Int) := of_decide_eq_true Zc; have q365 : (ji16) < (x6_2.length : Int) := of_decide_eq_true Zc; obtain ⟨ad365, A365_0, c365_0, e365, hx365_0, hl365_0, hi365_0⟩ := at_L5 (Kd.N_reads' HO_6.out).2.2 (ji16) p365 q365; obtain rfl : ad360 = ad365 := (by injection e365); obtain ⟨ce365, hce365, hMe365, hcc365⟩ := Kd.N_get HO_6.out [] (ji16) p365 (by first | exact q365 | exact of_decide_eq_true Zc | (have e_ := (Kd.N_reads' HO_6.out).1; omega)); obtain ⟨ua365_0, uc365_0, rfl, ul365_0, ge365_0⟩ := Kd.FK_slice_open hMe365; have hv365_0 := hcc365 0 _ rfl; rw [Nat.add_zero, show ((Kd.slice 2 (Kd.int .i64))).sz = 1 from rfl, Nat.mul_one] at hv365_0; replace hv365_0 := Option.some.inj (hv365_0.symm.trans hx365_0); injection hv365_0 with hva_ hvn_ hvc_; rw [hva_] at ge365_0; rw [hvc_] at ul365_0; have HL365_0 := am_ (show Kd.V (Kd.int .i64) 2 _ w.heap.size _ _ (rd_L5 x6_2 (ji16)) from Kd.V_mk ul365_0 ge365_0); clear hva_ hvn_ hvc_ ge365_0 ul365_0; clear hcc365 hce365; have HR365_0 := am_ hi365_0; have HC365_0 := am_ hl365_0; clear hi365_0 hl365_0; replace p365 := eq_true p365; replace q365 := eq_true q365; have p24 : 0 ≤ ((ji16) : Int) := of_decide_eq_true Zc; have q24 : ((ji16) : Int) < ((x6_2.length : Int) : Int) := of_decide_eq_true Zc; obtain ⟨go24, co24, eo24, gb24, gl24, cl24, HG24⟩ := Kd.N_form HO_6.out (by omega)
                 (first | cases eo24 | (injection eo24 with ea_ en_ ec_; (first | subst ea_ | (injection ea_ with ea_; subst ea_)); subst ec_; clear en_))
                 have GB24 := am_ gb24; have GG24 := am_ HG24; clear gb24 gl24 HG24
                 (first | simp only [add_plain] at hx360_0 | skip)
                 (first | simp only [add_plain] at hx362_0 | skip)
                 (first | simp only [add_plain] at hx364_0 | skip)
                 (first | simp only [add_plain] at hx365_0 | skip)
                 obtain ⟨ce24, hcl24, hM24, hcc24, hfr24⟩ := Kd.N_elem HO_6.out [] ((ji16) : Int) p24 q24; obtain ⟨ua24_0, uc24_0, rfl, ul24_0, ge24_0⟩ := Kd.FK_slice_open hM24; have hx24_0 := hcc24 0 _ rfl; have hf24_0 := hfr24 0
                 (try simp only [World.setCells] at hx24_0 hf24_0)
                 (try simp only [show ((Kd.slice 2 (Kd.int .i64))).sz = 1 from rfl, Nat.mul_one, Nat.add_zero] at hx24_0)
                 (try simp only [show ((Kd.slice 2 (Kd.int .i64))).sz = 1 from rfl, Nat.mul_one, Nat.add_zero] at hf24_0)
                 clear hcl24 hcc24 hfr24 hM24; replace p24 := eq_true p24; replace q24 := eq_true q24; have HX28 := am_ (show Kd.N (Kd.slice 2 (Kd.int .i64)) 47 _ w.heap.size (fun k_ => k_ ≠ gb354) (.slice (some ⟨go24, 0, none⟩) x6_2.length co13) x6_2 from (Kd.N_mono (HO_6.out) (fun k_ hk => hk))); obtain ⟨ce28, hcl28, hM28, hcc28, hfr28⟩ := Kd.N_elem HX28.out [] ((ji16) : Int) (of_decide_eq_true Zc) (by have h_ : ((ji16) : Int) < ((x6_2.length : Int) : Int) := of_decide_eq_true Zc; first | exact h_ | (have e_ := (Kd.N_reads' HO_6.out).1; omega) | simpa using h_); obtain ⟨ua28_0, uc28_0, rfl, ul28_0, ge28_0⟩ := Kd.FK_slice_open hM28; have HP28 := (Kd.N_seg HX28.out ((ji16) : Int) (of_decide_eq_true Zc) (by have h_ : ((ji16) : Int) < ((x6_2.length : Int) : Int) := of_decide_eq_true Zc; first | exact h_ | (have e_ := (Kd.N_reads' HO_6.out).1; omega) | simpa using h_) (seg := [.slice A364_0 (rd_L5 x6_2 x8_2).length c364_0]) (j := 0) hcl28 hcc28 (show 1 ≤ 1 from (by decide)) (x' := rd_L5 x6_2 x8_2) (Kd.FK_slice_mk (Kd.V_reads' (Kd.V_mono (ok' := (fun k_ => ((fun k_ => k_ ≠ gb354)) k_ ∧ k_ ≠ go24)) (HL364_0.out) (fun k_ hk => ⟨hk.1, fun e_ => (hk.2) (by rw [e_]; rfl)⟩))).2.1 (Kd.V_F (Kd.V_mono (ok' := (fun k_ => ((fun k_ => k_ ≠ gb354)) k_ ∧ k_ ≠ go24)) (HL364_0.out) (fun k_ hk => ⟨hk.1, fun e_ => (hk.2) (by rw [e_]; rfl)⟩)))) (fun _ hk => hk)).1
                 (try simp only [show ((Kd.slice 2 (Kd.int .i64))).sz = 1 from rfl, Nat.mul_one, Nat.add_zero] at HP28)
                 rw [← Ny366.out] at HP28; have HQ28 := am_ HP28; clear hcl28 hcc28 hfr28 hM28 HP28; have p25 : 0 ≤ (x8_2 : Int) := of_decide_eq_true Zc; have q25 : (x8_2 : Int) < ((x6_2.length : Int) : Int) := of_decide_eq_true Zc; obtain ⟨ce25, hcl25, hM25, hcc25, hfr25⟩ := Kd.N_elem HQ28.out [] (x8_2 : Int) p25 q25; obtain ⟨ua25_0, uc25_0, rfl, ul25_0, ge25_0⟩ := Kd.FK_slice_open hM25; have hx25_0 := hcc25 0 _ rfl; have hf25_0 := hfr25 0
                 (try simp only [World.setCells] at hx25_0 hf25_0)
                 (try simp only [show ((Kd.slice 2 (Kd.int .i64))).sz = 1 from rfl, Nat.mul_one, Nat.add_zero] at hx25_0)
                 (try simp only [show ((Kd.slice 2 (Kd.int .i64))).sz = 1 from rfl, Nat.mul_one, Nat.add_zero] at hf25_0)
                 clear hcl25 hcc25 hfr25 hM25; replace p25 := eq_true p25; replace q25 := eq_true q25; have HX29 := am_ (show Kd.N (Kd.slice 2 (Kd.int .i64)) 47 _ w.heap.size (fun k_ => k_ ≠ gb354) (.slice (some ⟨go24, 0, none⟩) x6_2.length co13) y366 from (Kd.N_mono (HQ28.out) (fun k_ hk => hk))); obtain ⟨ce29, hcl29, hM29, hcc29, hfr29⟩ := Kd.N_elem HX29.out [] (x8_2 : Int) (of_decide_eq_true Zc) (by have h_ : (x8_2 : Int) < ((x6_2.length : Int) : Int) := of_decide_eq_true Zc; first | exact h_ | (have e_ := (Kd.N_reads' HO_6.out).1; omega) | simpa using h_); obtain ⟨ua29_0, uc29_0, rfl, ul29_0, ge29_0⟩ := Kd.FK_slice_open hM29; have HP29 := (Kd.N_seg HX29.out (x8_2 : Int) (of_decide_eq_true Zc) (by have h_ : (x8_2 : Int) < ((x6_2.length : Int) : Int) := of_decide_eq_true Zc; first | exact h_ | (have e_ := (Kd.N_reads' HO_6.out).1; omega) | simpa using h_) (seg := [.slice A365_0 (rd_L5 x6_2 (ji16)).length c365_0]) (j := 0) hcl29 hcc29 (show 1 ≤ 1 from (by decide)) (x' := rd_L5 x6_2 (ji16)) (Kd.FK_slice_mk (Kd.V_reads' (Kd.V_mono (ok' := (fun k_ => ((fun k_ => k_ ≠ gb354)) k_ ∧ k_ ≠ go24)) ((Kd.V_far (p := ⟨go24, ((ji16) : Int).toNat, none⟩) (Kd.V_mono HL365_0.out (fun k_ hk => (⟨hk, fun e_ => hk.2 (by rw [e_]; rfl)⟩ : _ ∧ k_ ≠ go24))) (fun _ hk => hk.2) (.slice A364_0 (rd_L5 x6_2 x8_2).length c364_0))) (fun k_ hk => ⟨hk.1.1, fun e_ => (hk.1.2) (by rw [e_]; rfl)⟩))).2.1 (Kd.V_F (Kd.V_mono (ok' := (fun k_ => ((fun k_ => k_ ≠ gb354)) k_ ∧ k_ ≠ go24)) ((Kd.V_far (p := ⟨go24, ((ji16) : Int).toNat, none⟩) (Kd.V_mono HL365_0.out (fun k_ hk => (⟨hk, fun e_ => hk.2 (by rw [e_]; rfl)⟩ : _ ∧ k_ ≠ go24))) (fun _ hk => hk.2) (.slice A364_0 (rd_L5 x6_2 x8_2).length c364_0))) (fun k_ hk => ⟨hk.1.1, fun e_ => (hk.1.2) (by rw [e_]; rfl)⟩)))) (fun _ hk => hk)).1
                 (try simp only [show ((Kd.slice 2 (Kd.int .i64))).sz = 1 from rfl, Nat.mul_one, Nat.add_zero] at HP29)
                 rw [← Ny367.out] at HP29; have HQ29 := am_ HP29; clear hcl29 hcc29 hfr29 hM29 HP29; refine start_ (n := 18) (S := fun w' => w'.cell? ⟨go24, (x8_2).toNat, none⟩ = some (.slice A364_0 (rd_L5 x6_2 x8_2).length c364_0) ∧ w'.cell? ⟨go24, ((ji16)).toNat, none⟩ = some (.slice A365_0 (rd_L5 x6_2 (ji16)).length c365_0)) (ds := [15, 17]) (bT 18 0) Zi rfl rfl ⟨hx364_0, hx365_0⟩ (fun hHeld => ?_); refine with_tabW impl_DarkGaps.tab12 impl_DarkGaps.bits12 (fun HT_ HW_ => ?_); generalize w26.drew = w27 at HO_6 HL360_0 HL362_0 BK354 HR360_0 HR362_0 HB GG24 HL364_0 HL365_0 HQ28 HQ29 HR364_0 HR365_0 hf24_0 hf25_0 hx24_0 hx25_0 hx360_0 hx362_0 hx364_0 hx365_0 hHeld ⊢; refine pureZ HT_ 0 (some 49) (bT 18 1) ?_; refine pureZ HT_ 1 (some 50) (bT 18 2) ?_; refine pureZ HT_ 2 (some 51) (bT 18 3) ?_; refine pureZ HT_ 3 (some 52) (bT 18 4) ?_; refine pureZ HT_ 4 (some 53) (bT 18 5) ?_; refine pureZ HT_ 5 (some 54) (bT 18 6) ?_; refine pureZ HT_ 6 (some 55) (bT 18 7) ?_; refine pureZ HT_ 7 (some 56) (bT 18 8) ?_; refine pureZ HT_ 9 (some 58) (bB 18 767) ?_; refine pureZ HT_ 10 (some 59) (bB 18 1791) ?_; refine pureZ HT_ 11 (some 60) (bB 18 3839) ?_; refine pureZ HT_ 12 (some 61) (bB 18 7935) ?_; refine takeZ2 HT_ HW_ 8 (some 57) (bT 18 13) hHeld ?_; refine takeZ2 HT_ HW_ 13 (some 62) (bT 18 14) hHeld ?_; refine pureZ HT_ 14 (some 63) (bT 18 15) ?_; refine last_ (i := 15) (N := none) (bT 18 16) rfl rfl (one_of HT_.out Zi) (by decide) (fun K hK => ?_); refine skip_ (w1 := ?_) (by rfl) rfl ?_ ?_; rotate_left
                 ·go_simp
                  rfl
                 refine hK.out _ _ ?_; clear hK K; refine pureZ HT_ 16 (some 64) (bT 18 17) ?_; refine last_ (i := 17) (N := none) (bT 18 18) rfl rfl (one_of HT_.out Zi) (by decide) (fun K hK => ?_); refine skip_ (w1 := ?_) (by rfl) rfl ?_ ?_; rotate_left
                 ·go_simp
                  rfl
                 refine hK.out _ _ ?_; clear hK K; refine done_ (done_of HT_.out Zi) ?_
                 try go_wp2
                 (try simp only [← hl6_2])
                 go_roundg k2
                 case measure => have := HK1.out; have := HK2.out; omega
                 case rel => exact ⟨(y367), (ji16), (by first | rfl | (simp; done) | (simp only [← hji16] <;> (first | rfl | simp)) | (simp [*]; done)), H', ⟨Zac⟩, ⟨by (try simp only [hl6_1]); (try simp only [hl6_2]); (with_reducible repeat (first | apply Kd.N_alloc | apply Kd.N_drewN | apply Kd.N_drew)); exact HQ29.out⟩, ⟨by (try simp only [hl6_1]); (try simp only [hl6_2]); (with_reducible repeat (first | refine blk_drewN ?_ _ | refine blk_drew ?_ | refine blk_alloc ?_ _)); refine blk_far ?_ (by have h_ := Kd.N_away HO_6.out (fun _ hk => hk); intro e_; exact h_ (by rw [e_]; rfl)) _; (with_reducible repeat (first | refine blk_drewN ?_ _ | refine blk_drew ?_ | refine blk_alloc ?_ _)); refine blk_far ?_ (by have h_ := Kd.N_away HO_6.out (fun _ hk => hk); intro e_; exact h_ (by rw [e_]; rfl)) _; (with_reducible repeat (first | refine blk_drewN ?_ _ | refine blk_drew ?_ | refine blk_alloc ?_ _)); exact BK354.out⟩, ⟨by repeat (first | (with_reducible first | exact HB.out | apply below_alloc | apply pw_below_drewN | apply below_drew1 | refine below_set ?_ GB24.out | refine below_set ?_ GB24.out | refine below_set ?_ GE354.out) | exact HB.out)⟩⟩
                ·rw [if_neg c23] at H
                 have c23b0 : decide ((rd (rd_L5 x6_2 x8_2) 0) < (rd (rd_L5 x6_2 (ji16)) 0)) = false := decide_eq_false c23; clear c23; have H' := am_ H; clear H
                 try go_wp2
                 replace HO_6 := am_ (Kd.N_drew HO_6.out); replace BK354 := am_ (blk_drew BK354.out); replace HB := am_ (below_drew1 HB.out); have p360 : 0 ≤ ((ji16) : Int) := of_decide_eq_true Zc; have q360 : (ji16) < (x6_2.length : Int) := of_decide_eq_true Zc; obtain ⟨ad360, A360_0, c360_0, e360, hx360_0, hl360_0, hi360_0⟩ := at_L5 (Kd.N_reads' HO_6.out).2.2 (ji16) p360 q360
                 cases e360
                 obtain ⟨ce360, hce360, hMe360, hcc360⟩ := Kd.N_get HO_6.out [] (ji16) p360 (by first | exact q360 | exact of_decide_eq_true Zc | (have e_ := (Kd.N_reads' HO_6.out).1; omega)); obtain ⟨ua360_0, uc360_0, rfl, ul360_0, ge360_0⟩ := Kd.FK_slice_open hMe360; have hv360_0 := hcc360 0 _ rfl; rw [Nat.add_zero, show ((Kd.slice 2 (Kd.int .i64))).sz = 1 from rfl, Nat.mul_one] at hv360_0; replace hv360_0 := Option.some.inj (hv360_0.symm.trans hx360_0); injection hv360_0 with hva_ hvn_ hvc_; rw [hva_] at ge360_0; rw [hvc_] at ul360_0; have HL360_0 := am_ (show Kd.V (Kd.int .i64) 2 _ w.heap.size _ _ (rd_L5 x6_2 (ji16)) from Kd.V_mk ul360_0 ge360_0); clear hva_ hvn_ hvc_ ge360_0 ul360_0; clear hcc360 hce360; have HR360_0 := am_ hi360_0; have HC360_0 := am_ hl360_0; clear hi360_0 hl360_0; replace p360 := eq_true p360; replace q360 := eq_true q360; have p361 : 0 ≤ (0 : Int) := (by omega); have q361 : 0 < ((rd_L5 x6_2 (ji16)).length : Int) := of_decide_eq_true Zc; obtain ⟨ad361, e361, hx361_0⟩ := Kd.at_int (Zad HR360_0) 0 p361 q361
                 cases e361
                 have qi361 : (0 < (rd_L5 x6_2 (ji16)).length) = True := eq_true (by omega)
                 (try rw [show ((0 : Int)).toNat = 0 from rfl] at hx361_0)
                 (try rw [Addr.add_zero'] at hx361_0)
                 replace p361 := eq_true p361; replace q361 := eq_true q361; have p362 : 0 ≤ (x8_2 : Int) := of_decide_eq_true Zc; have q362 : x8_2 < (x6_2.length : Int) := of_decide_eq_true Zc; obtain ⟨ad362, A362_0, c362_0, e362, hx362_0, hl362_0, hi362_0⟩ := at_L5 (Kd.N_reads' HO_6.out).2.2 x8_2 p362 q362; obtain rfl : ad360 = ad362 := (by injection e362); obtain ⟨ce362, hce362, hMe362, hcc362⟩ := Kd.N_get HO_6.out [] x8_2 p362 (by first | exact q362 | exact of_decide_eq_true Zc | (have e_ := (Kd.N_reads' HO_6.out).1; omega)); obtain ⟨ua362_0, uc362_0, rfl, ul362_0, ge362_0⟩ := Kd.FK_slice_open hMe362; have hv362_0 := hcc362 0 _ rfl; rw [Nat.add_zero, show ((Kd.slice 2 (Kd.int .i64))).sz = 1 from rfl, Nat.mul_one] at hv362_0; replace hv362_0 := Option.some.inj (hv362_0.symm.trans hx362_0); injection hv362_0 with hva_ hvn_ hvc_; rw [hva_] at ge362_0; rw [hvc_] at ul362_0; have HL362_0 := am_ (show Kd.V (Kd.int .i64) 2 _ w.heap.size _ _ (rd_L5 x6_2 x8_2) from Kd.V_mk ul362_0 ge362_0); clear hva_ hvn_ hvc_ ge362_0 ul362_0; clear hcc362 hce362; have HR362_0 := am_ hi362_0; have HC362_0 := am_ hl362_0; clear hi362_0 hl362_0; replace p362 := eq_true p362; replace q362 := eq_true q362; have p363 : 0 ≤ (0 : Int) := (by omega); have q363 : 0 < ((rd_L5 x6_2 x8_2).length : Int) := of_decide_eq_true Zc; obtain ⟨ad363, e363, hx363_0⟩ := Kd.at_int (Zad HR362_0) 0 p363 q363
                 cases e363
                 have qi363 : (0 < (rd_L5 x6_2 x8_2).length) = True := eq_true (by omega)
                 (try rw [show ((0 : Int)).toNat = 0 from rfl] at hx363_0)
                 (try rw [Addr.add_zero'] at hx363_0)
                 replace p363 := eq_true p363; replace q363 := eq_true q363; refine start_ (n := 18) (S := fun w' => w'.cell? (ad360.add ((ji16)).toNat) = some (.slice (some ad361) (rd_L5 x6_2 (ji16)).length c360_0) ∧ w'.cell? ad361 = some (.int .i64 (rd (rd_L5 x6_2 (ji16)) 0)) ∧ w'.cell? (ad360.add (x8_2).toNat) = some (.slice (some ad363) (rd_L5 x6_2 x8_2).length c362_0) ∧ w'.cell? ad363 = some (.int .i64 (rd (rd_L5 x6_2 x8_2) 0))) (ds := []) (bT 18 0) Zi rfl rfl ⟨hx360_0, hx361_0, hx362_0, hx363_0⟩ (fun hHeld => ?_); refine with_tabW impl_DarkGaps.tab10 impl_DarkGaps.bits10 (fun HT_ HW_ => ?_); generalize wr.drew = w30 at HO_6 BK354 HB HL360_0 HL362_0 HR360_0 HR362_0 hx360_0 hx361_0 hx362_0 hx363_0 hHeld ⊢; refine pureZ HT_ 0 (some 29) (bT 18 1) ?_; refine pureZ HT_ 1 (some 30) (bT 18 2) ?_; refine pureZ HT_ 2 (some 31) (bT 18 3) ?_; refine pureZ HT_ 3 (some 32) (bT 18 4) ?_; refine pureZ HT_ 4 (some 33) (bT 18 5) ?_; refine pureZ HT_ 5 (some 34) (bT 18 6) ?_; refine pureZ HT_ 6 (some 35) (bT 18 7) ?_; refine pureZ HT_ 10 (some 39) (bB 18 1151) ?_; refine pureZ HT_ 11 (some 40) (bB 18 3199) ?_; refine pureZ HT_ 12 (some 41) (bB 18 7295) ?_; refine takeZ4 HT_ HW_ 7 (some 36) (bB 18 7423) hHeld ?_; refine pureZ HT_ 8 (some 37) (bB 18 7679) ?_; refine takeZ4 HT_ HW_ 9 (some 38) (bT 18 13) hHeld ?_; refine takeZ4 HT_ HW_ 13 (some 42) (bT 18 14) hHeld ?_; refine pureZ HT_ 14 (some 43) (bT 18 15) ?_; refine takeZ4 HT_ HW_ 15 (some 44) (bT 18 16) hHeld ?_; refine pureZ HT_ 16 (some 45) (bT 18 17) ?_; refine pureZ HT_ 17 (some 46) (bT 18 18) ?_; refine done_ (done_of HT_.out Zi) ?_
                 try go_wp2
                 (try simp only [← hl6_1, ← hl6_2])
                 go_roundg k2
                 case measure => have := HK1.out; have := HK2.out; omega
                 case rel => exact ⟨(x6_2), (wrap64 (x25_1 + 1)), Za, (by (try simp only [hl6_1]); exact H'), ⟨Zac⟩, ⟨by (try simp only [hl6_1]); (try simp only [hl6_2]); (with_reducible repeat (first | apply Kd.N_alloc | apply Kd.N_drewN | apply Kd.N_drew)); exact HO_6.out⟩, ⟨by (try simp only [hl6_1]); (try simp only [hl6_2]); (with_reducible repeat (first | refine blk_drewN ?_ _ | refine blk_drew ?_ | refine blk_alloc ?_ _)); exact BK354.out⟩, ⟨(Zh GE354)⟩⟩
               ·exact nN c22 H
              ·exact nN c21 H
             ·exact nN c20 H
            ·exact nN c19 H
           ·exact nN c18 H
          ·exact nN c17 H
         ·rw [if_neg c15] at H
          have c15b0 : decide (0 < x8_2) = false := decide_eq_false c15; clear c15; have H' := am_ H; clear H
          try go_wp2
          replace HO_6 := am_ (Kd.N_drew HO_6.out); replace BK354 := am_ (blk_drew BK354.out); replace HB := am_ (below_drew1 HB.out); refine start_ (n := 18) (S := fun w' => True) (ds := []) (bT 18 0) Zi rfl rfl trivial (fun hHeld => ?_); refine with_tabW impl_DarkGaps.tab10 impl_DarkGaps.bits10 (fun HT_ HW_ => ?_); generalize wr.drew = w31 at HO_6 BK354 HB hHeld ⊢; refine pureZ HT_ 0 (some 29) (bT 18 1) ?_; refine pureZ HT_ 1 (some 30) (bT 18 2) ?_; refine pureZ HT_ 2 (some 31) (bT 18 3) ?_; refine pureU HT_ 3 (some 32) (bT 18 4) ?_; refine pureU HT_ 4 (some 33) (bT 18 5) ?_; refine pureU HT_ 5 (some 34) (bT 18 6) ?_; refine pureU HT_ 6 (some 35) (bT 18 7) ?_; refine pureU HT_ 7 (some 36) (bT 18 8) ?_; refine pureU HT_ 8 (some 37) (bT 18 9) ?_; refine pureU HT_ 9 (some 38) (bT 18 10) ?_; refine pureU HT_ 10 (some 39) (bT 18 11) ?_; refine pureU HT_ 11 (some 40) (bT 18 12) ?_; refine pureU HT_ 12 (some 41) (bT 18 13) ?_; refine pureU HT_ 13 (some 42) (bT 18 14) ?_; refine pureU HT_ 14 (some 43) (bT 18 15) ?_; refine pureU HT_ 15 (some 44) (bT 18 16) ?_; refine pureU HT_ 16 (some 45) (bT 18 17) ?_; refine pureZ HT_ 17 (some 46) (bT 18 18) ?_; refine done_ (done_of HT_.out Zi) ?_
          try go_wp2
          (try simp only [← hl6_1, ← hl6_2])
          go_roundg k2
          case measure => have := HK1.out; have := HK2.out; omega
          case rel => exact ⟨(x6_2), (wrap64 (x25_1 + 1)), Za, (by (try simp only [hl6_1]); exact H'), ⟨Zac⟩, ⟨by (try simp only [hl6_1]); (try simp only [hl6_2]); (with_reducible repeat (first | apply Kd.N_alloc | apply Kd.N_drewN | apply Kd.N_drew)); exact HO_6.out⟩, ⟨by (try simp only [hl6_1]); (try simp only [hl6_2]); (with_reducible repeat (first | refine blk_drewN ?_ _ | refine blk_drew ?_ | refine blk_alloc ?_ _)); exact BK354.out⟩, ⟨(Zh GE354)⟩⟩
      ·rw [if_neg c14] at H
       have c14b0 := decide_eq_false c14; clear c14; have H' := am_ H; clear H
       go_wp2
       go_loopg [9, 68] k1 (fun kq v9 v68 w' => ∃ (x9_2 : List (List Int)) (x68_2 : Int), v68 = .int .i64 x68_2 ∧ Aside0 (impl_DarkGaps.l2 kq a1 x6_1 x9_2 x6_1 (x6_1.length : Int) x68_2 = some (r1, r2)) ∧ Aside0 (kq ≤ k1) ∧ Aside0 (Kd.N (Kd.slice 2 (Kd.int .i64)) 47 w' w.heap.size (fun k_ => some k_ ≠ (v9 : Value).ownBlock ∧ k_ ≠ gb354) (.slice Ao13 x6_1.length co13) x6_1) ∧ Aside0 (Kd.S (Kd.slice 2 (Kd.int .i64)) 47 w' w.heap.size (fun k_ => some k_ ≠ ((.slice Ao13 x6_1.length co13) : Value).ownBlock ∧ some k_ ≠ ((.slice Ao13 x6_1.length co13) : Value).ownBlock) v9 x9_2) ∧ Aside0 (Kd.N (Kd.slice 2 (Kd.int .i64)) 47 w' w.heap.size (fun k_ => some k_ ≠ (v9 : Value).ownBlock ∧ k_ ≠ gb354) (.slice Ao13 x6_1.length co13) x6_1) ∧ Aside0 (w'.heap[gb354]? = some (.cells #[(.slice A0_0 l0_0.length c0_0), (.slice A0_1 l0_1.length c0_1), (.slice A0_2 l0_2.length c0_2)] 35 (0, 0))) ∧ Aside0 (Below w.heap.size w w'))
       case atStart => exact ⟨(([] : List (List Int))), (0), Za, H', ⟨Nat.le_refl _⟩, ⟨by (try simp only [hl6_1]); (with_reducible repeat (first | apply Kd.N_alloc | apply Kd.N_drewN | apply Kd.N_drew)); exact Kd.N_mono HO_6.out (fun _ hk => ⟨(by simp [Value.ownBlock]), hk⟩)⟩, ⟨by (try simp only [hl6_1]); first | exact Kd.S_nil _ _ _ _ _ | exact Kd.N_nil _ _ _ _ _ | exact Kd.V_nil _ _ _ _ _ | exact Kd.Q_nil _ _ _ _ _ | exact Kd.R_nil _ _ _ _ _⟩, ⟨by (try simp only [hl6_1]); (with_reducible repeat (first | apply Kd.N_alloc | apply Kd.N_drewN | apply Kd.N_drew)); exact Kd.N_mono HO_6.out (fun _ hk => ⟨(by simp [Value.ownBlock]), hk⟩)⟩, ⟨(Zay BK354)⟩, ⟨(Zh GE354)⟩⟩
       case round =>
        clear H'
        try clear c1
        try clear c2
        try clear p2
        try clear q2
        try clear hx2
        try clear hf2
        try clear c3
        try clear p3
        try clear q3
        try clear hx3
        try clear qi3
        try clear p6
        try clear c14
        try clear c14b0
        try clear c15
        try clear c15b0
        try clear c17
        try clear c18
        try clear c19
        try clear c20
        try clear c21
        try clear c22
        try clear c23
        try clear c23b0
        try clear c24
        try clear p24
        try clear q24
        try clear hx24
        try clear hf24
        try clear c25
        try clear p25
        try clear q25
        try clear hx25
        try clear hf25
        try clear c28
        try clear c29
        try clear hx24_0
        try clear hx25_0
        try clear hx360_0
        try clear hx361_0
        try clear hx362_0
        try clear hx363_0
        try clear hx364_0
        try clear hx365_0
        try clear p24
        try clear p25
        try clear p360
        try clear p361
        try clear p362
        try clear p363
        try clear p364
        try clear p365
        try clear q24
        try clear q25
        try clear q360
        try clear q361
        try clear q362
        try clear q363
        try clear q364
        try clear q365
        obtain ⟨x9_2, x68_2, rfl, HA, HK2, HO_6, HO_9, HO_66, BK354, HB⟩ := hrel
        cases gk with
        | zero => exact absurd HA.out (by simp [impl_DarkGaps.l2])
        | succ k2 =>
         have H := HA.out; clear HA; simp only [impl_DarkGaps.l2] at H
         by_cases c32 : x68_2 < (x6_1.length : Int)
         ·rw [if_pos c32] at H
          have c32b0 := decide_eq_true c32; clear c32
          by_cases c33 : 0 ≤ x68_2
          ·rw [if_pos c33] at H
           have c33b0 := decide_eq_true c33; clear c33
           by_cases c34 : x68_2 < (x6_1.length : Int)
           ·rw [if_pos c34] at H
            have c34b0 := decide_eq_true c34; clear c34
            by_cases c35 : x68_2 = 0
            ·rw [if_pos c35] at H
             have c35b0 := beq_iff_eq.mpr c35; have c35b1 := bne_eq_false_iff_eq.mpr c35; clear c35; have H' := am_ H; clear H; have p368 : 0 ≤ (x68_2 : Int) := of_decide_eq_true Zc; have q368 : x68_2 < (x6_1.length : Int) := of_decide_eq_true Zc; obtain ⟨ad368, A368_0, c368_0, e368, hx368_0, hl368_0, hi368_0⟩ := at_L5 (Kd.N_reads' HO_66.out).2.2 x68_2 p368 q368
             cases e368
             obtain ⟨ce368, hce368, hMe368, hcc368⟩ := Kd.N_get HO_66.out [] x68_2 p368 (by first | exact q368 | exact of_decide_eq_true Zc | (have e_ := (Kd.N_reads' HO_66.out).1; omega)); obtain ⟨ua368_0, uc368_0, rfl, ul368_0, ge368_0⟩ := Kd.FK_slice_open hMe368; have hv368_0 := hcc368 0 _ rfl; rw [Nat.add_zero, show ((Kd.slice 2 (Kd.int .i64))).sz = 1 from rfl, Nat.mul_one] at hv368_0; replace hv368_0 := Option.some.inj (hv368_0.symm.trans hx368_0); injection hv368_0 with hva_ hvn_ hvc_; rw [hva_] at ge368_0; rw [hvc_] at ul368_0; have HL368_0 := am_ (show Kd.V (Kd.int .i64) 2 _ w.heap.size _ _ (rd_L5 x6_1 x68_2) from Kd.V_mk ul368_0 ge368_0); clear hva_ hvn_ hvc_ ge368_0 ul368_0; clear hcc368 hce368; have HR368_0 := am_ hi368_0; have HC368_0 := am_ hl368_0; clear hi368_0 hl368_0; replace p368 := eq_true p368; replace q368 := eq_true q368
             go_wp2
             go_roundg k2
             case measure => have := HK1.out; have := HK2.out; omega
             case rel => exact ⟨(x9_2), (wrap64 (x68_2 + 1)), Za, H', ⟨Zac⟩, ⟨(Zax HO_6)⟩, ⟨(Zaz HO_9)⟩, ⟨(Zax HO_66)⟩, ⟨(Zay BK354)⟩, ⟨(Zh GE354)⟩⟩
            ·rw [if_neg c35] at H
             have c35b0 := beq_eq_false_iff_ne.mpr c35; have c35b1 := bne_iff_ne.mpr c35
             by_cases c36 : 0 < (x6_1.length : Int)
             ·rw [if_pos c36] at H
              have c36b0 := decide_eq_true c36; have c36b1 : decide (0 < x6_1.length) = true := decide_eq_true (by omega); clear c36
              by_cases c37 : 1 < ((rd_L5 x6_1 0).length : Int)
              ·rw [if_pos c37] at H
               have c37b0 := decide_eq_true c37; have c37b1 : decide (1 < (rd_L5 x6_1 0).length) = true := decide_eq_true (by omega); clear c37; have c38b0 := eq_true (of_decide_eq_true Zc : 0 ≤ x68_2)
               by_cases c39 : x68_2 ≤ (x6_1.length : Int)
               ·rw [if_pos c39] at H
                have c39b0 := eq_true c39; have c39b1 := decide_eq_true c39; clear c39; obtain ⟨y371, hy371⟩ : ∃ y_ : List (List Int), y_ = (x6_1.take (x68_2 : Int).toNat) := ⟨_, rfl⟩
                (first | (rw [← hy371] at H; with_reducible replace H := bindZ H) | rw [← hy371] at H | skip)
                have Ny371 := am_ hy371; clear hy371; have H' := am_ H; clear H; have p368 : 0 ≤ (x68_2 : Int) := of_decide_eq_true Zc; have q368 : x68_2 < (x6_1.length : Int) := of_decide_eq_true Zc; obtain ⟨ad368, A368_0, c368_0, e368, hx368_0, hl368_0, hi368_0⟩ := at_L5 (Kd.N_reads' HO_66.out).2.2 x68_2 p368 q368
                cases e368
                obtain ⟨ce368, hce368, hMe368, hcc368⟩ := Kd.N_get HO_66.out [] x68_2 p368 (by first | exact q368 | exact of_decide_eq_true Zc | (have e_ := (Kd.N_reads' HO_66.out).1; omega)); obtain ⟨ua368_0, uc368_0, rfl, ul368_0, ge368_0⟩ := Kd.FK_slice_open hMe368; have hv368_0 := hcc368 0 _ rfl; rw [Nat.add_zero, show ((Kd.slice 2 (Kd.int .i64))).sz = 1 from rfl, Nat.mul_one] at hv368_0; replace hv368_0 := Option.some.inj (hv368_0.symm.trans hx368_0); injection hv368_0 with hva_ hvn_ hvc_; rw [hva_] at ge368_0; rw [hvc_] at ul368_0; have HL368_0 := am_ (show Kd.V (Kd.int .i64) 2 _ w.heap.size _ _ (rd_L5 x6_1 x68_2) from Kd.V_mk ul368_0 ge368_0); clear hva_ hvn_ hvc_ ge368_0 ul368_0; clear hcc368 hce368; have HR368_0 := am_ hi368_0; have HC368_0 := am_ hl368_0; clear hi368_0 hl368_0; replace p368 := eq_true p368; replace q368 := eq_true q368; have p369 : 0 ≤ (0 : Int) := (by omega); have q369 : 0 < (x6_1.length : Int) := of_decide_eq_true Zc; obtain ⟨ad369, A369_0, c369_0, e369, hx369_0, hl369_0, hi369_0⟩ := at_L5 (Kd.N_reads' HO_6.out).2.2 0 p369 q369; obtain rfl : ad368 = ad369 := (by injection e369); obtain ⟨ce369, hce369, hMe369, hcc369⟩ := Kd.N_get HO_6.out [] 0 p369 (by first | exact q369 | exact of_decide_eq_true Zc | (have e_ := (Kd.N_reads' HO_6.out).1; omega)); obtain ⟨ua369_0, uc369_0, rfl, ul369_0, ge369_0⟩ := Kd.FK_slice_open hMe369; have hv369_0 := hcc369 0 _ rfl; rw [Nat.add_zero, show ((Kd.slice 2 (Kd.int .i64))).sz = 1 from rfl, Nat.mul_one] at hv369_0; replace hv369_0 := Option.some.inj (hv369_0.symm.trans hx369_0); injection hv369_0 with hva_ hvn_ hvc_; rw [hva_] at ge369_0; rw [hvc_] at ul369_0; have HL369_0 := am_ (show Kd.V (Kd.int .i64) 2 _ w.heap.size _ _ (rd_L5 x6_1 0) from Kd.V_mk ul369_0 ge369_0); clear hva_ hvn_ hvc_ ge369_0 ul369_0; clear hcc369 hce369; have qi369 : (0 < x6_1.length) = True := eq_true (by omega)
                (try rw [show ((0 : Int)).toNat = 0 from rfl] at hx369_0)
                (try rw [Addr.add_zero'] at hx369_0)
                have HR369_0 := am_ hi369_0; have HC369_0 := am_ hl369_0; clear hi369_0 hl369_0; replace p369 := eq_true p369; replace q369 := eq_true q369; have p370 : 0 ≤ (1 : Int) := (by omega); have q370 : 1 < ((rd_L5 x6_1 0).length : Int) := of_decide_eq_true Zc; obtain ⟨ad370, e370, hx370_0⟩ := Kd.at_int (Zad HR369_0) 1 p370 q370
                cases e370
                (try simp only [show (1 : Int).toNat = 1 from rfl, Nat.reduceMul, Nat.reduceEqDiff, Go.Addr.add, ↓reduceIte] at hx370_0)
                have qi370 : (1 < (rd_L5 x6_1 0).length) = True := eq_true (by omega)
                (try rw [show ((1 : Int)).toNat = 1 from rfl] at hx370_0)
                replace p370 := eq_true p370; replace q370 := eq_true q370; have q40 : (x68_2 : Int) ≤ ((x6_1.length : Int) : Int) := of_decide_eq_true Zc; obtain ⟨i040, hi040, _, hsz40, _⟩ := info_parts info47; have hroom40 : x6_1.length ≤ co13 := (Kd.N_reads' HO_6.out).2.1; have hC40 : Kd.F (Kd.slice 2 (Kd.int .i64)) _ _ (some ad368) x6_1.length x6_1 := (Kd.V_at (base := w.heap.size) (Kd.N_V HO_6.out)).2.2; have hcut40 := cut_to (P := Try.prog) 28 47 .i64 Try.underlying28 hi040 (some ad368) x6_1.length co13 x68_2 (of_decide_eq_true Zc) q40 hroom40; have hr40 := Kd.F_take (m := (x68_2 : Int).toNat) hC40 (by omega); have hy40 : y371.length = (x68_2 : Int).toNat := (by rw [Ny371.out, List.length_take]; omega); rw [← Ny371.out] at hr40; rw [← hy40] at hcut40; have HO375 := am_ (show Kd.V (Kd.slice 2 (Kd.int .i64)) 47 _ w.heap.size _ (.slice (some ad368) y371.length co13) y371 from Kd.V_mk (by omega) hr40); have HC375 := am_ (show y371.length ≤ co13 from (by omega)); clear hr40 hC40 hroom40 hi040 hsz40; have KY40 := am_ hy40; clear hy40; replace q40 := eq_true q40
                go_wp2
                go_loopg [12, 84] k2 (fun kq v12 v84 w' => ∃ (x12_3 : Int) (x84_3 : Int), v12 = .int .i64 x12_3 ∧ v84 = .int .i64 x84_3 ∧ Aside0 (impl_DarkGaps.l3 kq a1 x6_1 x9_2 (rd_L5 x6_1 x68_2) x12_3 x6_1 (x6_1.length : Int) x68_2 y371 (y371.length : Int) x84_3 = some (r1, r2)) ∧ Aside0 (kq ≤ k2) ∧ Aside0 (Kd.N (Kd.slice 2 (Kd.int .i64)) 47 w' w.heap.size (fun k_ => some k_ ≠ (u9 : Value).ownBlock ∧ k_ ≠ gb354) (.slice (some ad368) x6_1.length co13) x6_1) ∧ Aside0 (Kd.S (Kd.slice 2 (Kd.int .i64)) 47 w' w.heap.size (fun k_ => some k_ ≠ ((.slice (some ad368) x6_1.length co13) : Value).ownBlock ∧ some k_ ≠ ((.slice (some ad368) x6_1.length co13) : Value).ownBlock) u9 x9_2) ∧ Aside0 (Kd.N (Kd.slice 2 (Kd.int .i64)) 47 w' w.heap.size (fun k_ => some k_ ≠ (u9 : Value).ownBlock ∧ k_ ≠ gb354) (.slice (some ad368) x6_1.length co13) x6_1) ∧ Aside0 (Kd.V (Kd.slice 2 (Kd.int .i64)) 47 w' w.heap.size (fun k_ => some k_ ≠ (u9 : Value).ownBlock ∧ k_ ≠ gb354) (.slice (some ad368) y371.length co13) y371) ∧ Aside0 (w'.heap[gb354]? = some (.cells #[(.slice A0_0 l0_0.length c0_0), (.slice A0_1 l0_1.length c0_1), (.slice A0_2 l0_2.length c0_2)] 35 (0, 0))) ∧ Aside0 (Kd.C (Kd.int .i64) w' A368_0 (rd_L5 x6_1 x68_2).length (rd_L5 x6_1 x68_2)) ∧ Aside0 (Kd.C (Kd.int .i64) w' (some ad370) (rd_L5 x6_1 0).length (rd_L5 x6_1 0)) ∧ Aside0 (Below w.heap.size w w'))
                case atStart => exact ⟨(rd (rd_L5 x6_1 0) 1), (0), Za, Za, H', ⟨Nat.le_refl _⟩, ⟨(Zax HO_6)⟩, ⟨(Zaz HO_9)⟩, ⟨(Zax HO_66)⟩, ⟨by (try simp only [hl6_1]); (with_reducible repeat (first | apply Kd.V_alloc | apply Kd.V_drewN | apply Kd.V_drew)); exact HO375.out⟩, ⟨(Zay BK354)⟩, ⟨(Zad HR368_0)⟩, ⟨(Zad HR369_0)⟩, ⟨(Zh GE354)⟩⟩
                case round =>
                 clear H'
                 try clear c1
                 try clear c2
                 try clear p2
                 try clear q2
                 try clear hx2
                 try clear hf2
                 try clear c3
                 try clear p3
                 try clear q3
                 try clear hx3
                 try clear qi3
                 try clear q4
                 try clear p6
                 try clear c14
                 try clear c14b0
                 try clear c15
                 try clear c15b0
                 try clear c17
                 try clear c18
                 try clear c19
                 try clear c20
                 try clear c21
                 try clear c22
                 try clear c23
                 try clear c23b0
                 try clear c24
                 try clear p24
                 try clear q24
                 try clear hx24
                 try clear hf24
                 try clear c25
                 try clear p25
                 try clear q25
                 try clear hx25
                 try clear hf25
                 try clear c28
                 try clear c29
                 try clear c32
                 try clear c32b0
                 try clear c33
                 try clear c33b0
                 try clear c34
                 try clear c34b0
                 try clear c35
                 try clear c35b0
                 try clear c35b1
                 try clear c36
                 try clear c36b0
                 try clear c36b1
                 try clear p36
                 try clear q36
                 try clear hx36
                 try clear qi36
                 try clear c37
                 try clear c37b0
                 try clear c37b1
                 try clear p37
                 try clear q37
                 try clear hx37
                 try clear qi37
                 try clear c38
                 try clear c38b0
                 try clear c39
                 try clear c39b0
                 try clear c39b1
                 try clear q40
                 try clear hx24_0
                 try clear hx25_0
                 try clear hx360_0
                 try clear hx361_0
                 try clear hx362_0
                 try clear hx363_0
                 try clear hx364_0
                 try clear hx365_0
                 try clear hx368_0
                 try clear hx369_0
                 try clear hx370_0
                 try clear p2
                 try clear p24
                 try clear p25
                 try clear p3
                 try clear p360
                 try clear p361
                 try clear p362
                 try clear p363
                 try clear p364
                 try clear p365
                 try clear p368
                 try clear p369
                 try clear p370
                 try clear p6
                 try clear q2
                 try clear q24
                 try clear q25
                 try clear q3
                 try clear q360
                 try clear q361
                 try clear q362
                 try clear q363
                 try clear q364
                 try clear q365
                 try clear q368
                 try clear q369
                 try clear q370
                 try clear q40
                 obtain ⟨x12_3, x84_3, rfl, rfl, HA, HK3, HO_6, HO_9, HO_66, HO_82, BK354, HR368_0, HR369_0, HB⟩ := hrel
                 cases gk with
                 | zero => exact absurd HA.out (by simp [impl_DarkGaps.l3])
                 | succ k3 =>
                  have H := HA.out; clear HA; simp only [impl_DarkGaps.l3] at H
                  by_cases c41 : x84_3 < (y371.length : Int)
                  ·rw [if_pos c41] at H
                   have c41b0 := decide_eq_true c41; clear c41
                   by_cases c42 : 0 ≤ x84_3
                   ·rw [if_pos c42] at H
                    have c42b0 := decide_eq_true c42; clear c42
                    by_cases c43 : x84_3 < (y371.length : Int)
                    ·rw [if_pos c43] at H
                     have c43b0 := decide_eq_true c43; clear c43
                     by_cases c44 : 1 < ((rd_L5 y371 x84_3).length : Int)
                     ·rw [if_pos c44] at H
                      have c44b0 := decide_eq_true c44; have c44b1 : decide (1 < (rd_L5 y371 x84_3).length) = true := decide_eq_true (by omega); clear c44; obtain ⟨ji45, hji45⟩ : ∃ j_ : Int, (mx x12_3 (rd (rd_L5 y371 x84_3) 1)) = j_ := ⟨_, rfl⟩
                      replace H : (impl_DarkGaps.l3 k3 a1 x6_1 x9_2 (rd_L5 x6_1 x68_2) ji45 x6_1 (x6_1.length : Int) x68_2 y371 (y371.length : Int) (wrap64 (x84_3 + 1))) = some (r1, r2) := by first | (rw [hji45] at H; exact H) | (simp only [hji45] at H ⊢; exact H)
                      have hji45_ : (if x12_3 < (rd (rd_L5 y371 x84_3) 1) then (rd (rd_L5 y371 x84_3) 1) else x12_3) = ji45 := hji45; have H' := am_ H; clear H; have p376 : 0 ≤ (x84_3 : Int) := of_decide_eq_true Zc; have q376 : x84_3 < (y371.length : Int) := of_decide_eq_true Zc; obtain ⟨ad376, A376_0, c376_0, e376, hx376_0, hl376_0, hi376_0⟩ := at_L5 (Kd.V_reads' HO_82.out).2.2 x84_3 p376 q376; obtain rfl : ad368 = ad376 := (by injection e376); obtain ⟨ce376, hce376, hMe376, hcc376⟩ := Kd.V_get HO_82.out [] x84_3 p376 (by first | exact q376 | exact of_decide_eq_true Zc | (have e_ := (Kd.V_reads' HO_82.out).1; omega)); obtain ⟨ua376_0, uc376_0, rfl, ul376_0, ge376_0⟩ := Kd.FK_slice_open hMe376; have hv376_0 := hcc376 0 _ rfl; rw [Nat.add_zero, show ((Kd.slice 2 (Kd.int .i64))).sz = 1 from rfl, Nat.mul_one] at hv376_0; replace hv376_0 := Option.some.inj (hv376_0.symm.trans hx376_0); injection hv376_0 with hva_ hvn_ hvc_; rw [hva_] at ge376_0; rw [hvc_] at ul376_0; have HL376_0 := am_ (show Kd.V (Kd.int .i64) 2 _ w.heap.size _ _ (rd_L5 y371 x84_3) from Kd.V_mk ul376_0 ge376_0); clear hva_ hvn_ hvc_ ge376_0 ul376_0; clear hcc376 hce376; have HR376_0 := am_ hi376_0; have HC376_0 := am_ hl376_0; clear hi376_0 hl376_0; replace p376 := eq_true p376; replace q376 := eq_true q376; have p377 : 0 ≤ (1 : Int) := (by omega); have q377 : 1 < ((rd_L5 y371 x84_3).length : Int) := of_decide_eq_true Zc; obtain ⟨ad377, e377, hx377_0⟩ := Kd.at_int (Zad HR376_0) 1 p377 q377
                      cases e377
                      (try simp only [show (1 : Int).toNat = 1 from rfl, Nat.reduceMul, Nat.reduceEqDiff, Go.Addr.add, ↓reduceIte] at hx377_0)
                      have qi377 : (1 < (rd_L5 y371 x84_3).length) = True := eq_true (by omega)
                      (try rw [show ((1 : Int)).toNat = 1 from rfl] at hx377_0)
                      replace p377 := eq_true p377; replace q377 := eq_true q377
                      go_wp2
                      go_roundg k3
                      case measure => have := HK1.out; have := HK2.out; have := HK3.out; omega
                      case rel => exact ⟨(ji45), (wrap64 (x84_3 + 1)), (by first | rfl | (simp; done) | (simp only [← hji45] <;> (first | rfl | simp)) | (simp [*]; done)), Za, H', ⟨by have := HK1.out; have := HK2.out; have := HK3.out; omega⟩, ⟨(Zax HO_6)⟩, ⟨(Zaz HO_9)⟩, ⟨(Zax HO_66)⟩, ⟨by (try simp only [hl6_1]); (with_reducible repeat (first | apply Kd.V_alloc | apply Kd.V_drewN | apply Kd.V_drew)); exact HO_82.out⟩, ⟨(Zay BK354)⟩, ⟨(Zad HR368_0)⟩, ⟨(Zad HR369_0)⟩, ⟨(Zh GE354)⟩⟩
                     ·exact nN c44 H
                    ·exact nN c43 H
                   ·exact nN c42 H
                  ·rw [if_neg c41] at H
                   have c41b0 := decide_eq_false c41; clear c41
                   by_cases c46 : 0 < ((rd_L5 x6_1 x68_2).length : Int)
                   ·rw [if_pos c46] at H
                    have c46b0 := decide_eq_true c46; have c46b1 : decide (0 < (rd_L5 x6_1 x68_2).length) = true := decide_eq_true (by omega); clear c46
                    by_cases c47 : (wrap64 ((wrap64 ((rd (rd_L5 x6_1 x68_2) 0) - x12_3)) - 1)) ≥ a1
                    ·rw [if_pos c47] at H
                     have c47b0 : decide (a1 ≤ (wrap64 ((wrap64 ((rd (rd_L5 x6_1 x68_2) 0) - x12_3)) - 1))) = true := decide_eq_true c47; clear c47; obtain ⟨y380, hy380⟩ : ∃ y_ : List Int, y_ = (([wrap64 (x12_3 + 1), wrap64 ((rd (rd_L5 x6_1 x68_2) 0) - 1)] : List Int)) := ⟨_, rfl⟩
                     (first | (rw [← hy380] at H; with_reducible replace H := bindZ H) | rw [← hy380] at H | skip)
                     have Ny380 := am_ hy380; clear hy380
                     by_cases c48 : x9_2.length < 5864062014805
                     ·rw [if_pos c48] at H
                      have LMc48 := am_ c48; clear c48; obtain ⟨y383, hy383⟩ : ∃ y_ : List (List Int), y_ = (x9_2 ++ [y380]) := ⟨_, rfl⟩
                      (first | (rw [← hy383] at H; with_reducible replace H := bindZ H) | rw [← hy383] at H | skip)
                      have Ny383 := am_ hy383; clear hy383; have H' := am_ H; clear H; have p378 : 0 ≤ (0 : Int) := (by omega); have q378 : 0 < ((rd_L5 x6_1 x68_2).length : Int) := of_decide_eq_true Zc; obtain ⟨ad378, e378, hx378_0⟩ := Kd.at_int HR368_0.out 0 p378 q378
                      cases e378
                      have qi378 : (0 < (rd_L5 x6_1 x68_2).length) = True := eq_true (by omega)
                      (try rw [show ((0 : Int)).toNat = 0 from rfl] at hx378_0)
                      (try rw [Addr.add_zero'] at hx378_0)
                      replace p378 := eq_true p378; replace q378 := eq_true q378; have p379 : 0 ≤ (0 : Int) := (by omega); have q379 : 0 < ((rd_L5 x6_1 x68_2).length : Int) := of_decide_eq_true Zc; obtain ⟨ad379, e379, hx379_0⟩ := Kd.at_int HR368_0.out 0 p379 q379; obtain rfl : ad378 = ad379 := (by injection e379); have qi379 : (0 < (rd_L5 x6_1 x68_2).length) = True := eq_true (by omega)
                      (try rw [show ((0 : Int)).toNat = 0 from rfl] at hx379_0)
                      (try rw [Addr.add_zero'] at hx379_0)
                      replace p379 := eq_true p379; replace q379 := eq_true q379
                      go_wp2_with (first | ((with_reducible refine gate_dst (N := 109) rfl ?_); refine Kd.R_lit (Kd.int .i64) _ 2 ?hg (N := 109) ?hd (xs := ([wrap64 (x12_3 + 1), wrap64 ((rd (rd_L5 x6_1 x68_2) 0) - 1)] : List Int)) (inner := [.int .i64 (wrap64 (x12_3 + 1)), .int .i64 (wrap64 ((rd (rd_L5 x6_1 x68_2) 0) - 1))]) (ok := fun _ => True) (okp := fun _ => True) ?hr ?hp (fun _ hk => hk) trivial (Below.refl _ _) (Nat.le_refl _) (by simp) ?_; (case hd => rfl); (case hg => rfl); (case hr => first | (go_simp; done) | (go_simp; rfl)); (case hp => exact (Reps.one (show Kd.M (Kd.int .i64) _ _ _ (wrap64 (x12_3 + 1)) [.int .i64 (wrap64 (x12_3 + 1))] from rfl) (Reps.one (show Kd.M (Kd.int .i64) _ _ _ (wrap64 ((rd (rd_L5 x6_1 x68_2) 0) - 1)) [.int .i64 (wrap64 ((rd (rd_L5 x6_1 x68_2) 0) - 1))] from rfl) (Reps.none _ _)))); intro v381 w49 ho50 hb hg_ hnew_; clear hg_ hnew_; (first | rw [← Ny380.out] at ho50 | (simp only [Int.reduceToNat] at ho50; rw [← Ny380.out] at ho50)); replace HO_6 := am_ (Kd.N_elder' (Zaa HO_6) (Kd.R_base ho50) hb); replace HO_9 := am_ (Kd.S_elder' (Zx HO_9) (Kd.R_base ho50) hb); replace HO_66 := am_ (Kd.N_elder' (Zaa HO_66) (Kd.R_base ho50) hb); replace HO_82 := am_ (Kd.V_elder' (Zam HO_82) (Kd.R_base ho50) hb); replace HO382 := am_ (Kd.R_lower ho50 (below_size (Zh GE354))); replace BK354 := (bkZ BK354 hb); replace HR368_0 := am_ (Kd.C_below (Zad HR368_0) hb); replace HR369_0 := am_ (Kd.C_below (Zad HR369_0) hb); replace HB := (bsZ (Zh GE354) hb); clear hb ho50; obtain ⟨Ao52, co52, eo52⟩ := Kd.R_slice HO382.out; subst eo52) | ((with_reducible refine gate_builtin (b := .append) (xs := #[.tmp 102, .tmp 110]) rfl ?_); at_builtin; refine Kd.S_append (Kd.slice 2 (Kd.int .i64)) (w0 := w) w.heap.size rfl (.tmp 102) (.tmp 110) 28 47 (.slice none 0 0) 24 rfl Try.underlying28 info47 rfl (by decide) (by omega) u9 x9_2 y380 [.slice Ao52 y380.length co52] (fun k_ => some k_ ≠ (.slice (some ad368) x6_1.length co13 : Value).ownBlock ∧ some k_ ≠ (.slice (some ad368) x6_1.length co13 : Value).ownBlock) (fun k_ => some k_ = (.slice Ao52 y380.length co52 : Value).ownBlock) rfl rfl ?aP (fun k_ hk_ => ((Kd.R_mono (ok' := fun k_ => ((fun k_ => some k_ ≠ (.slice (some ad368) x6_1.length co13 : Value).ownBlock ∧ some k_ ≠ (.slice (some ad368) x6_1.length co13 : Value).ownBlock)) k_ ∧ some k_ ≠ (u9 : Value).ownBlock) (Kd.R_apart' (Kd.R_apart' (Kd.R_apart' (HO382.out) (Kd.N_typed HO_6.out) (by decide)) (Kd.N_typed HO_66.out) (by decide)) (Kd.S_typed HO_9.out) (by decide)) (fun k_ hk => ⟨⟨hk.1.1.2, hk.1.2⟩, hk.2⟩))).1 k_ hk_.symm) ?aF ?aO ?aB ?aS ?aL ?_; (case aP => exact Kd.M_row (Kd.R_mono (Kd.R_tight rfl (Kd.R_mono (ok' := fun k_ => ((fun k_ => some k_ ≠ (.slice (some ad368) x6_1.length co13 : Value).ownBlock ∧ some k_ ≠ (.slice (some ad368) x6_1.length co13 : Value).ownBlock)) k_ ∧ some k_ ≠ (u9 : Value).ownBlock) (Kd.R_apart' (Kd.R_apart' (Kd.R_apart' (HO382.out) (Kd.N_typed HO_6.out) (by decide)) (Kd.N_typed HO_66.out) (by decide)) (Kd.S_typed HO_9.out) (by decide)) (fun k_ hk => ⟨⟨hk.1.1.2, hk.1.2⟩, hk.2⟩))) (fun _ h_ => h_))); (case aB => exact (Zh GE354)); (case aF => exact (fun k_ hk => ⟨Kd.fresh' (Kd.N_lt (Zaa HO_6)) k_ hk, Kd.fresh' (Kd.N_lt (Zaa HO_66)) k_ hk⟩)); (case aO => exact (by (with_reducible repeat (first | apply Kd.S_alloc | apply Kd.S_drewN | apply Kd.S_drew)); exact Kd.S_mono HO_9.out (fun k_ hk => ⟨⟨hk.1.1, hk.1.2⟩, fun e_ => hk.2 e_⟩))); (case aS => exact (below_size (Zh GE354))); (case aL => have := LMc48.out; omega); intro v384 w51 ho hb hg hat; rw [← Ny383.out] at ho; replace HO_6 := am_ (Kd.N_afterv (ok := (fun k_ => some k_ ≠ (.slice Ao52 y380.length co52 : Value).ownBlock ∧ k_ ≠ gb354)) (by (with_reducible repeat (first | apply Kd.N_alloc | apply Kd.N_drewN | apply Kd.N_drew)); exact Kd.N_mono HO_6.out (fun _ hk => ⟨⟨hk.2, hk.1.2⟩, hk.1.1⟩)) hg hat); replace HO_66 := am_ (Kd.N_afterv (ok := (fun k_ => some k_ ≠ (.slice Ao52 y380.length co52 : Value).ownBlock ∧ k_ ≠ gb354)) (by (with_reducible repeat (first | apply Kd.N_alloc | apply Kd.N_drewN | apply Kd.N_drew)); exact Kd.N_mono HO_66.out (fun _ hk => ⟨⟨hk.2, hk.1.2⟩, hk.1.1⟩)) hg hat); replace HO_82 := am_ (Kd.V_afterv (ok := (fun k_ => some k_ ≠ (.slice Ao52 y380.length co52 : Value).ownBlock ∧ k_ ≠ gb354)) (by (with_reducible repeat (first | apply Kd.V_alloc | apply Kd.V_drewN | apply Kd.V_drew)); exact Kd.V_mono HO_82.out (fun _ hk => ⟨⟨hk.2, hk.1.2⟩, hk.1.1⟩)) hg hat); replace BK354 := am_ (blk_grown (g := gb354) (b0Z BK354) hg (Kd.S_ne HO_9.out BK354.out (by decide))); replace HB := am_ (hb); replace HO385 := am_ (ho); clear HO_9 HO382; clear ho hb hg hat))
                      go_roundg k3
                      case measure => have := HK1.out; have := HK2.out; have := HK3.out; omega
                      case rel => exact ⟨(y383), (wrap64 (x68_2 + 1)), Za, H', ⟨by have := HK1.out; have := HK2.out; have := HK3.out; omega⟩, ⟨by (try simp only [hl6_1]); (with_reducible repeat (first | apply Kd.N_alloc | apply Kd.N_drewN | apply Kd.N_drew)); exact Kd.N_mono HO_6.out (fun _ hk => ⟨hk.2, hk.1.2⟩)⟩, ⟨(Zax HO385)⟩, ⟨by (try simp only [hl6_1]); (with_reducible repeat (first | apply Kd.N_alloc | apply Kd.N_drewN | apply Kd.N_drew)); exact Kd.N_mono HO_66.out (fun _ hk => ⟨hk.2, hk.1.2⟩)⟩, ⟨(Zay BK354)⟩, ⟨(Zh GE354)⟩⟩
                     ·exact nN c48 H
                    ·rw [if_neg c47] at H
                     have c47b0 : decide (a1 ≤ (wrap64 ((wrap64 ((rd (rd_L5 x6_1 x68_2) 0) - x12_3)) - 1))) = false := decide_eq_false c47; clear c47; have H' := am_ H; clear H; have p378 : 0 ≤ (0 : Int) := (by omega); have q378 : 0 < ((rd_L5 x6_1 x68_2).length : Int) := of_decide_eq_true Zc; obtain ⟨ad378, e378, hx378_0⟩ := Kd.at_int HR368_0.out 0 p378 q378
                     cases e378
                     have qi378 : (0 < (rd_L5 x6_1 x68_2).length) = True := eq_true (by omega)
                     (try rw [show ((0 : Int)).toNat = 0 from rfl] at hx378_0)
                     (try rw [Addr.add_zero'] at hx378_0)
                     replace p378 := eq_true p378; replace q378 := eq_true q378
                     go_wp2
                     go_roundg k3
                     case measure => have := HK1.out; have := HK2.out; have := HK3.out; omega
                     case rel => exact ⟨(x9_2), (wrap64 (x68_2 + 1)), Za, H', ⟨by have := HK1.out; have := HK2.out; have := HK3.out; omega⟩, ⟨(Zax HO_6)⟩, ⟨(Zaz HO_9)⟩, ⟨(Zax HO_66)⟩, ⟨(Zay BK354)⟩, ⟨(Zh GE354)⟩⟩
                   ·exact nN c46 H
               ·exact nN c39 H
              ·exact nN c37 H
             ·exact nN c36 H
           ·exact nN c34 H
          ·exact nN c33 H
         ·rw [if_neg c32] at H
          have c32b0 := decide_eq_false c32; clear c32; simp only [Option.some.injEq, Prod.mk.injEq] at H; obtain ⟨rfl, rfl⟩ := H
          go_wp2
          go_ret2
          exact ⟨_, Zg, (Zz HO_9), (Zh GE354)⟩
   ·have H := HS_.out
    clear HS_; replace c6 := Bool.eq_false_iff.mpr c6; subst c6; rw [if_neg fnt_] at H; simp only [Option.some.injEq, Prod.mk.injEq] at H; obtain ⟨rfl, rfl⟩ := H
    go_wp2_with (first | ((with_reducible refine gate_callee (f := 31) rfl ?_); refine gZ 19 Try.func31 #[.int .i64 a1, .int .i64 1, .int .i64 10000000] ?_; (with_reducible refine (impl_within.calls a1 1 10000000 false _ A5.out).mono ?_); rintro e w' ⟨rfl, ⟨nd, rfl⟩⟩; refine ⟨_, rfl, ?_⟩))
    go_ret2
    exact ⟨_, Zg, Zar, (Zh GE354)⟩
  ·have H := HS_.out
   clear HS_; replace c4 := Bool.eq_false_iff.mpr c4; subst c4; rw [if_neg fnt_] at H; simp only [Option.some.injEq, Prod.mk.injEq] at H; obtain ⟨rfl, rfl⟩ := H
   go_wp2_with (first | fail)
   go_ret2
   exact ⟨_, Zg, Zar, (Zh GE354)⟩
def laws_big.f (l0 : List Int) : Option (Bool) := some (decide ((l0.length : Int) > 4096))
theorem laws_big.calls (A0 : Option Addr) (c0 : Nat) (l0 : List Int) (r : Bool) (w : World) (hr0 : Kd.C (Kd.int .u8) w A0 l0.length l0) (hc0 : l0.length ≤ c0) (h : laws_big.f l0 = some r) :
  Calls Try.prog 14 #[.slice A0 l0.length c0] w fun e w' => e = .returned (.bool r) ∧ Drawn0 w w' := by
 have HR0 := am_ hr0; have HC0 := am_ hc0; clear hr0 hc0; have H : (some (decide ((l0.length : Int) > 4096))) = some r := h; clear h; obtain rfl := Option.some.inj H
 go_enter Try.func14, Try.ntmps14
 go_wp2
 go_ret
 exact ⟨Za, Zb⟩
def IsS99 (w0 W : World) (g : Nat) (f0 : List Int) (f1 : Int) (f2 : Int) : Prop := ∃ A0 c0, W.heap[g]? = some (.cells #[.slice A0 f0.length c0, .int .i64 f1, .int .i64 f2] 99 (0, 0)) ∧ w0.heap.size ≤ g ∧ Kd.C (Kd.int .u8) w0 A0 f0.length f0
theorem IsS99.grown {w0 W : World} {g : Nat} {f0 : List Int} {f1 : Int} {f2 : Int} {W1 : World} {row : Option Nat} (h : IsS99 w0 W g f0 f1 f2) (hw : W.grownBy W1 row) (hne : some g ≠ row) : IsS99 w0 W1 g f0 f1 f2 := by
 obtain ⟨A0, c0, hb, hg, hr0⟩ := h; exact ⟨A0, c0, blk_grown hb hw hne, hg, hr0⟩
theorem IsS99.kept {w0 W : World} {g : Nat} {f0 : List Int} {f1 : Int} {f2 : Int} {W1 : World} {S : Nat → Prop} (h : IsS99 w0 W g f0 f1 f2) (hk : Kept W W1 S) (hne : ¬ S g) : IsS99 w0 W1 g f0 f1 f2 := by
 obtain ⟨A0, c0, hb, hg, hr0⟩ := h; exact ⟨A0, c0, blk_kept hb hk hne, hg, hr0⟩
theorem IsS99.below {w0 W : World} {g : Nat} {f0 : List Int} {f1 : Int} {f2 : Int} {W1 : World} (h : IsS99 w0 W g f0 f1 f2) (hw : Below W.heap.size W W1) : IsS99 w0 W1 g f0 f1 f2 := h.grown (grown_of_below hw none) (by simp)
theorem IsS99.alloc {w0 W : World} {g : Nat} {f0 : List Int} {f1 : Int} {f2 : Int} (h : IsS99 w0 W g f0 f1 f2) (o : Obj) : IsS99 w0 (W.alloc o) g f0 f1 f2 := h.below (below_alloc (Below.refl _ _) o)
theorem IsS99.drewN {w0 W : World} {g : Nat} {f0 : List Int} {f1 : Int} {f2 : Int} (h : IsS99 w0 W g f0 f1 f2) (m : Nat) : IsS99 w0 (W.drewN m) g f0 f1 f2 := h
theorem IsS99.drew {w0 W : World} {g : Nat} {f0 : List Int} {f1 : Int} {f2 : Int} (h : IsS99 w0 W g f0 f1 f2) : IsS99 w0 W.drew g f0 f1 f2 := h
theorem IsS99.at_ {w0 W : World} {g : Nat} {f0 : List Int} {f1 : Int} {f2 : Int} {w' : World} {m : Nat} (hq : W.drewN m = w') (h : IsS99 w0 W g f0 f1 f2) : IsS99 w0 w' g f0 f1 f2 := by subst hq; exact IsS99.drewN h m
theorem IsS99.apart {w0 W : World} {g : Nat} {f0 : List Int} {f1 : Int} {f2 : Int} {α : Type} {d : Kd α} {e : Nat} {base : Nat} {ok : Nat → Prop} {v : Value} {xs : List α} (h : IsS99 w0 W g f0 f1 f2) (ho : d.R e W base ok v xs) (ht : ∀ q, q ∈ e :: d.E → q ≠ 99) : d.R e W base (fun k => ok k ∧ k ≠ g) v xs := by
 obtain ⟨A0, c0, hb, hg, hr0⟩ := h; exact Kd.R_types ho hb ht
theorem IsS99.own_ne {w0 W : World} {g : Nat} {f0 : List Int} {f1 : Int} {f2 : Int} {α : Type} {d : Kd α} {e : Nat} {base : Nat} {ok : Nat → Prop} {v : Value} {xs : List α} (h : IsS99 w0 W g f0 f1 f2) (ho : d.R e W base ok v xs) (ht : e ≠ 99) : some g ≠ v.ownBlock := by
 obtain ⟨A0, c0, hb, hg, hr0⟩ := h; exact Kd.R_ne ho hb ht
theorem IsS99.lt {w0 W : World} {g : Nat} {f0 : List Int} {f1 : Int} {f2 : Int} (h : IsS99 w0 W g f0 f1 f2) : g < W.heap.size := by
 obtain ⟨A0, c0, hb, hg, hr0⟩ := h; exact blk_lt hb
theorem IsS99.ge {w0 W : World} {g : Nat} {f0 : List Int} {f1 : Int} {f2 : Int} (h : IsS99 w0 W g f0 f1 f2) : w0.heap.size ≤ g := by
 obtain ⟨A0, c0, hb, hg, hr0⟩ := h; exact hg
theorem IsS99.ne_blk {w0 W : World} {g : Nat} {f0 : List Int} {f1 : Int} {f2 : Int} {a : Nat} {cs : Array Value} {t : TypeId} {fr : Nat × Nat} (h : IsS99 w0 W g f0 f1 f2) (hb2 : W.heap[a]? = some (.cells cs t fr)) (ht : t ≠ 99) : g ≠ a := by
 obtain ⟨A0, c0, hb, hg, hr0⟩ := h; rintro rfl; rw [hb] at hb2; injection hb2 with hb2; injection hb2 with _ ht2; exact ht ht2.symm
theorem IsS99.far {w0 W : World} {g : Nat} {f0 : List Int} {f1 : Int} {f2 : Int} {p : Addr} (h : IsS99 w0 W g f0 f1 f2) (hne : g ≠ p.block) (u : Value) : IsS99 w0 (W.setCell p u) g f0 f1 f2 := by
 obtain ⟨A0, c0, hb, hg, hr0⟩ := h; exact ⟨A0, c0, blk_far hb hne u, hg, hr0⟩
theorem cellS99_0 {W : World} {g : Nat} {A0 : Option Addr} {c0 : Nat} {f0 : List Int} {f1 : Int} {f2 : Int} (h : W.heap[g]? = some (.cells #[.slice A0 f0.length c0, .int .i64 f1, .int .i64 f2] 99 (0, 0))) : W.cell? ⟨g, 0, none⟩ = some (.slice A0 f0.length c0) := (blk_cell h 0).trans rfl
theorem cellS99_1 {W : World} {g : Nat} {A0 : Option Addr} {c0 : Nat} {f0 : List Int} {f1 : Int} {f2 : Int} (h : W.heap[g]? = some (.cells #[.slice A0 f0.length c0, .int .i64 f1, .int .i64 f2] 99 (0, 0))) : W.cell? ⟨g, 1, none⟩ = some (.int .i64 f1) := (blk_cell h 1).trans rfl
theorem IsS99.set_1 {w0 W : World} {g : Nat} {f0 : List Int} {f1 : Int} {f2 : Int} (h : IsS99 w0 W g f0 f1 f2) (x : Int) : IsS99 w0 (W.setCell ⟨g, 1, none⟩ (.int .i64 x)) g f0 x f2 := by
 obtain ⟨A0, c0, hb, hg, hr0⟩ := h; exact ⟨A0, c0, by simpa using blk_set hb 1 (.int .i64 x), hg, hr0⟩
theorem cellS99_2 {W : World} {g : Nat} {A0 : Option Addr} {c0 : Nat} {f0 : List Int} {f1 : Int} {f2 : Int} (h : W.heap[g]? = some (.cells #[.slice A0 f0.length c0, .int .i64 f1, .int .i64 f2] 99 (0, 0))) : W.cell? ⟨g, 2, none⟩ = some (.int .i64 f2) := (blk_cell h 2).trans rfl
theorem IsS99.set_2 {w0 W : World} {g : Nat} {f0 : List Int} {f1 : Int} {f2 : Int} (h : IsS99 w0 W g f0 f1 f2) (x : Int) : IsS99 w0 (W.setCell ⟨g, 2, none⟩ (.int .i64 x)) g f0 f1 x := by
 obtain ⟨A0, c0, hb, hg, hr0⟩ := h; exact ⟨A0, c0, by simpa using blk_set hb 2 (.int .i64 x), hg, hr0⟩
def spec_l01From.l0 : Nat → List Int → Int → List Int → Int → Int → Option (List Int × Int × Int)
 | 0, _, _, _, _, _ => none
 | k + 1, x0, x4, x387000, x387001, x387002 => if x4 < (x0.length : Int) then (if x4 < 64 then (if 0 ≤ x4 then (spec_l01From.l0 k x0 (wrap64 (x4 + 1)) x387000 x387001 (Int.tmod (wrap64 ((wrap64 (x387002 * 83)) + (wrap64 (rd x0 x4)))) 2147483647)) else (none)) else (some (x387000, x387001, x387002))) else (some (x387000, x387001, x387002))
def spec_l01From.f (k : Nat) (l0 : List Int) : Option (List Int × Int × Int) := spec_l01From.l0 k l0 0 l0 0 61043
def spec_l01From.T5 : Bool × List (List Nat × List Nat) := (true, [([], []), ([], []), ([1], [1]), ([2], [2]), ([3], [3]), ([4], [4]), ([], []), ([], []), ([6, 7], [6, 7]), ([8], [8]), ([9], [9]), ([5, 10], [5, 10]), ([11], [11]), ([0, 0, 1, 2, 3, 4, 5, 6, 7, 8, 9, 10, 11, 12], [0]), ([13, 0, 1, 2, 3, 4, 5, 6, 7, 8, 9, 10, 11, 12], [13]), ([14, 12, 0, 1, 2, 3, 4, 5, 6, 7, 8, 9, 10, 11, 12], [12, 14])])
def spec_l01From.B5 : List Nat := [0, 0, 2, 6, 14, 30, 0, 0, 192, 448, 960, 2046, 4094, 8191, 16383, 32767]
theorem spec_l01From.tab5 : rtab .any (opsOf Try.f42 5) = spec_l01From.T5 := by kernel_rfl
theorem spec_l01From.bits5 : waitsOk spec_l01From.T5.2 spec_l01From.B5 = true := by kernel_rfl
theorem spec_l01From.calls (k : Nat) (A0 : Option Addr) (c0 : Nat) (l0 : List Int) (r1 : List Int) (r2 : Int) (r3 : Int) (w0 w : World) (hB : Below w0.heap.size w0 w) (hr0 : Kd.C (Kd.int .u8) w0 A0 l0.length l0) (hc0 : l0.length ≤ c0) (h : spec_l01From.f k l0 = some (r1, r2, r3)) :
  Calls Try.prog 42 #[.slice A0 l0.length c0] w fun e w' => ∃ g_ : Nat, e = .returned (.pointer (some ⟨g_, 0, none⟩)) ∧ IsS99 w0 w' g_ r1 r2 r3 ∧ Below w0.heap.size w0 w' ∧ Below w.heap.size w w' := by
 have hu99 := Try.underlying99; have HR0 := am_ hr0; have HC0 := am_ hc0; clear hr0 hc0; have HBW := am_ (Below.refl w.heap.size w); have HW0 := am_ hB.size; have HB := am_ hB; clear hB; have H : (spec_l01From.l0 k l0 0 l0 0 61043) = some (r1, r2, r3) := h; clear h; have H' := am_ H; clear H
 go_enter Try.func42, Try.ntmps42
 go_wp2_with (first | ((with_reducible refine gate_dst (N := 7) rfl ?_); refine boxZ 7 #[.slice A0 l0.length c0, .int .i64 0, .int .i64 61043] 99 ?_; intro gb386 hg w2 hbox hb; replace HB := (bsZ Zf hb); replace BK386 := am_ (hbox); replace GW386 := am_ ((by rw [hg]; exact (below_size (by repeat (first | (with_reducible first | exact HBW.out | apply below_alloc | apply pw_below_drewN | apply below_drew1) | exact HBW.out))) : w.heap.size ≤ gb386)); replace GE386 := am_ ((Nat.le_trans HW0.out (by rw [hg]; exact (below_size (by repeat (first | (with_reducible first | exact HBW.out | apply below_alloc | apply pw_below_drewN | apply below_drew1) | exact HBW.out))) : w.heap.size ≤ gb386) : w0.heap.size ≤ gb386)); replace HBW := (bsZ HBW.out hb); clear hb hbox hg))
 go_loopg [4] k (fun kq v4 w' => ∃ (x4_1 : Int) (x387002_1 : Int), v4 = .int .i64 x4_1 ∧ Aside0 (spec_l01From.l0 kq l0 x4_1 l0 0 x387002_1 = some (r1, r2, r3)) ∧ Aside0 (kq ≤ k) ∧ Aside0 (w'.heap[gb386]? = some (.cells #[(.slice A0 l0.length c0), .int .i64 0, .int .i64 x387002_1] 99 (0, 0))) ∧ Aside0 (Below w0.heap.size w0 w') ∧ Aside0 (Below w.heap.size w w'))
 case atStart => exact ⟨(0), (61043), Za, H', ⟨Nat.le_refl _⟩, ⟨(Zq BK386)⟩, ⟨(Zh GE386)⟩, ⟨(Zba GW386)⟩⟩
 case round =>
  clear H'
  try clear p2
  obtain ⟨x4_1, x387002_1, rfl, HA, HK1, BK386, HB, HBW⟩ := hrel
  cases gk with
  | zero => exact absurd HA.out (by simp [spec_l01From.l0])
  | succ k1 =>
   have H := HA.out; clear HA; simp only [spec_l01From.l0] at H
   by_cases c3 : x4_1 < (l0.length : Int)
   ·rw [if_pos c3] at H
    have c3b0 := decide_eq_true c3; clear c3
    by_cases c4 : x4_1 < 64
    ·rw [if_pos c4] at H
     have c4b0 := decide_eq_true c4; clear c4
     by_cases c5 : 0 ≤ x4_1
     ·rw [if_pos c5] at H
      have c5b0 := decide_eq_true c5; clear c5; have H' := am_ H; clear H
      try go_wp2
      replace BK386 := am_ (blk_drew BK386.out); replace HB := am_ (below_drew1 HB.out); replace HBW := am_ (below_drew1 HBW.out); have p387 : 0 ≤ (x4_1 : Int) := of_decide_eq_true Zc; have q387 : x4_1 < (l0.length : Int) := of_decide_eq_true Zc; obtain ⟨ad387, e387, hx387_0⟩ := Kd.at_int HR0.out x4_1 p387 q387; have hw387_0 := hx387_0
      cases e387
      replace hx387_0 := pw_cell_below HB.out hx387_0; replace p387 := eq_true p387; replace q387 := eq_true q387; refine start_ (n := 16) (S := fun w' => w'.cell? ⟨gb386, 0, none⟩ = some (.slice (some ad387) l0.length c0) ∧ w'.cell? ⟨gb386, 1, none⟩ = some (.int .i64 0) ∧ w'.cell? ⟨gb386, 2, none⟩ = some (.int .i64 x387002_1) ∧ w'.cell? (ad387.add (x4_1).toNat) = some (.int .u8 (rd l0 x4_1))) (ds := [15]) (bT 16 0) Zi rfl rfl ⟨(blk_cell BK386.out 0).trans rfl, (blk_cell BK386.out 1).trans rfl, (blk_cell BK386.out 2).trans rfl, ((HB.out.cell (World.block_lt_of_cell? w0 _ hw387_0)).trans hw387_0)⟩ (fun hHeld => ?_); refine with_tabW spec_l01From.tab5 spec_l01From.bits5 (fun HT_ HW_ => ?_); generalize wr.drew = w6 at BK386 HB HBW hx387_0 hHeld ⊢; refine pureZ HT_ 0 (some 18) (bT 16 1) ?_; refine pureZ HT_ 1 (some 19) (bT 16 2) ?_; refine pureZ HT_ 2 (some 20) (bT 16 3) ?_; refine pureZ HT_ 3 (some 21) (bT 16 4) ?_; refine pureZ HT_ 6 (some 24) (bB 16 79) ?_; refine pureZ HT_ 7 (some 25) (bB 16 207) ?_; refine pureZ HT_ 8 (some 26) (bB 16 463) ?_; refine takeZ4 HT_ HW_ 4 (some 22) (bB 16 479) hHeld ?_; refine pureZ HT_ 5 (some 23) (bT 16 9) ?_; refine takeZ4 HT_ HW_ 9 (some 27) (bT 16 10) hHeld ?_; refine pureZ HT_ 10 (some 28) (bT 16 11) ?_; refine pureZ HT_ 11 (some 29) (bT 16 12) ?_; refine pureZ HT_ 12 (some 30) (bT 16 13) ?_; refine pureZ HT_ 13 (some 31) (bT 16 14) ?_; refine pureZ HT_ 14 (some 32) (bT 16 15) ?_; refine last_ (i := 15) (N := none) (bT 16 16) rfl rfl (one_of HT_.out Zi) (by decide) (fun K hK => ?_); have hs7 : w6.cell? ⟨gb386, 2, none⟩ = some (.int .i64 x387002_1) := (blk_cell BK386.out 2).trans rfl; have hfs7 := blk_frozen BK386.out 2; refine skip_ (w1 := ?_) (by rfl) rfl ?_ ?_; rotate_left
      ·go_simp
       rfl
      refine hK.out _ _ ?_; clear hK K; refine done_ (done_of HT_.out Zi) ?_
      try go_wp2
      go_roundg k1
      case measure => have := HK1.out; omega
      case rel => exact ⟨(wrap64 (x4_1 + 1)), (Int.tmod (wrap64 ((wrap64 (x387002_1 * 83)) + (wrap64 (rd l0 x4_1)))) 2147483647), Za, H', ⟨Zd⟩, ⟨by (with_reducible repeat (first | refine blk_drewN ?_ _ | refine blk_drew ?_ | refine blk_alloc ?_ _)); refine blk_put (cs := #[.slice (some ad387) l0.length c0, .int .i64 0, .int .i64 x387002_1]) ?_ 2 _ rfl; (with_reducible repeat (first | refine blk_drewN ?_ _ | refine blk_drew ?_ | refine blk_alloc ?_ _)); exact BK386.out⟩, ⟨(Zh GE386)⟩, ⟨(Zba GW386)⟩⟩
     ·exact nN c5 H
    ·rw [if_neg c4] at H
     have c4b0 := decide_eq_false c4; clear c4; simp only [Option.some.injEq, Prod.mk.injEq] at H; obtain ⟨rfl, rfl, rfl⟩ := H
     go_wp2
     go_ret
     exact ⟨_, rfl, (show IsS99 w0 _ gb386 l0 0 x387002_1 from ⟨_, _, (Zq BK386), GE386.out, HR0.out⟩), (Zh GE386), (Zba GW386)⟩
   ·rw [if_neg c3] at H
    have c3b0 := decide_eq_false c3; clear c3; simp only [Option.some.injEq, Prod.mk.injEq] at H; obtain ⟨rfl, rfl, rfl⟩ := H
    go_wp2
    go_ret
    exact ⟨_, rfl, (show IsS99 w0 _ gb386 l0 0 x387002_1 from ⟨_, _, (Zq BK386), GE386.out, HR0.out⟩), (Zh GE386), (Zba GW386)⟩
def spec_l01Next.f (s0_0 : List Int) (s0_1 : Int) (s0_2 : Int) (a1 : Int) : Option (Int × Int × Int) := if a1 ≤ 1 then (some (0, s0_1, s0_2)) else (if s0_1 < (s0_0.length : Int) then (if 0 ≤ s0_1 then (if a1 ≤ 256 then (if (Int.tmod (wrap64 (s0_1 + 1)) 2) = 0 then (if 0 ≤ (wrap64 ((wrap64 (s0_1 + 1)) - 1)) then (if (wrap64 ((wrap64 (s0_1 + 1)) - 1)) < (s0_0.length : Int) then (if a1 = 0 then (none) else (some (Int.tmod (wrap64 (rd s0_0 (wrap64 ((wrap64 (s0_1 + 1)) - 1)))) a1, wrap64 (s0_1 + 1), Int.tmod (wrap64 ((wrap64 (s0_2 * 48271)) + 29)) 2147483647))) else (none)) else (none)) else (if a1 = 0 then (none) else (some (Int.tmod (wrap64 ((wrap64 (Int.tdiv (Int.tmod (wrap64 ((wrap64 (s0_2 * 48271)) + 29)) 2147483647) 31)) + (wrap64 (rd s0_0 s0_1)))) a1, wrap64 (s0_1 + 1), Int.tmod (wrap64 ((wrap64 (s0_2 * 48271)) + 29)) 2147483647)))) else (if a1 = 0 then (none) else (some (Int.tmod (wrap64 ((wrap64 (Int.tdiv (Int.tmod (wrap64 ((wrap64 (s0_2 * 48271)) + 29)) 2147483647) 31)) + (wrap64 (rd s0_0 s0_1)))) a1, wrap64 (s0_1 + 1), Int.tmod (wrap64 ((wrap64 (s0_2 * 48271)) + 29)) 2147483647)))) else (none)) else (if a1 = 0 then (none) else (some (Int.tmod (wrap64 (Int.tdiv (Int.tmod (wrap64 ((wrap64 (s0_2 * 48271)) + 29)) 2147483647) 31)) a1, s0_1, Int.tmod (wrap64 ((wrap64 (s0_2 * 48271)) + 29)) 2147483647))))
theorem spec_l01Next.calls (g : Nat) (s0_0 : List Int) (s0_1 : Int) (s0_2 : Int) (a1 : Int) (r1 : Int) (r2 : Int) (r3 : Int) (w0 w : World) (hI : IsS99 w0 w g s0_0 s0_1 s0_2) (hB : Below w0.heap.size w0 w) (h : spec_l01Next.f s0_0 s0_1 s0_2 a1 = some (r1, r2, r3)) :
  Calls Try.prog 45 #[.pointer (some ⟨g, 0, none⟩), .int .i64 a1] w fun e w' => e = .returned (.int .i64 r1) ∧ IsS99 w0 w' g s0_0 r2 r3 ∧ Below w0.heap.size w0 w' ∧ KeepBut w w' g none := by
 have HI0 := am_ hI; have HK := am_ (KeepBut.refl w g none); have HL := am_ hB.size; clear hI; have HW0 := am_ hB.size; have HB := am_ hB; clear hB; have H : (if a1 ≤ 1 then (some (0, s0_1, s0_2)) else (if s0_1 < (s0_0.length : Int) then (if 0 ≤ s0_1 then (if a1 ≤ 256 then (if (Int.tmod (wrap64 (s0_1 + 1)) 2) = 0 then (if 0 ≤ (wrap64 ((wrap64 (s0_1 + 1)) - 1)) then (if (wrap64 ((wrap64 (s0_1 + 1)) - 1)) < (s0_0.length : Int) then (if a1 = 0 then (none) else (some (Int.tmod (wrap64 (rd s0_0 (wrap64 ((wrap64 (s0_1 + 1)) - 1)))) a1, wrap64 (s0_1 + 1), Int.tmod (wrap64 ((wrap64 (s0_2 * 48271)) + 29)) 2147483647))) else (none)) else (none)) else (if a1 = 0 then (none) else (some (Int.tmod (wrap64 ((wrap64 (Int.tdiv (Int.tmod (wrap64 ((wrap64 (s0_2 * 48271)) + 29)) 2147483647) 31)) + (wrap64 (rd s0_0 s0_1)))) a1, wrap64 (s0_1 + 1), Int.tmod (wrap64 ((wrap64 (s0_2 * 48271)) + 29)) 2147483647)))) else (if a1 = 0 then (none) else (some (Int.tmod (wrap64 ((wrap64 (Int.tdiv (Int.tmod (wrap64 ((wrap64 (s0_2 * 48271)) + 29)) 2147483647) 31)) + (wrap64 (rd s0_0 s0_1)))) a1, wrap64 (s0_1 + 1), Int.tmod (wrap64 ((wrap64 (s0_2 * 48271)) + 29)) 2147483647)))) else (none)) else (if a1 = 0 then (none) else (some (Int.tmod (wrap64 (Int.tdiv (Int.tmod (wrap64 ((wrap64 (s0_2 * 48271)) + 29)) 2147483647) 31)) a1, s0_1, Int.tmod (wrap64 ((wrap64 (s0_2 * 48271)) + 29)) 2147483647))))) = some (r1, r2, r3) := h; clear h
 by_cases c3 : a1 ≤ 1
 ·rw [if_pos c3] at H
  have c3b0 := decide_eq_true c3; clear c3; simp only [Option.some.injEq, Prod.mk.injEq] at H; obtain ⟨rfl, rfl, rfl⟩ := H
  go_enter Try.func45, Try.ntmps45
  go_wp2
  repeat (go_quiet (fail); try go_wp2)
  go_ret
  exact ⟨Zg, Zbb, Zbc, Zbd⟩
 ·rw [if_neg c3] at H
  have c3b0 := decide_eq_false c3; clear c3
  by_cases c4 : s0_1 < (s0_0.length : Int)
  ·rw [if_pos c4] at H
   have c4b0 := decide_eq_true c4; clear c4
   by_cases c5 : 0 ≤ s0_1
   ·rw [if_pos c5] at H
    have c5b0 := decide_eq_true c5; clear c5
    by_cases c6 : a1 ≤ 256
    ·rw [if_pos c6] at H
     have c6b0 := decide_eq_true c6; clear c6
     by_cases c7 : (Int.tmod (wrap64 (s0_1 + 1)) 2) = 0
     ·rw [if_pos c7] at H
      have c7b0 := beq_iff_eq.mpr c7; have c7b1 := bne_eq_false_iff_eq.mpr c7; clear c7; obtain ⟨ji8, hji8⟩ : ∃ j_ : Int, (wrap64 ((wrap64 (s0_1 + 1)) - 1)) = j_ := ⟨_, rfl⟩
      replace H : (if 0 ≤ (ji8) then (if (ji8) < (s0_0.length : Int) then (if a1 = 0 then (none) else (some (Int.tmod (wrap64 (rd s0_0 (ji8))) a1, wrap64 (s0_1 + 1), Int.tmod (wrap64 ((wrap64 (s0_2 * 48271)) + 29)) 2147483647))) else (none)) else (none)) = some (r1, r2, r3) := by first | (rw [hji8] at H; exact H) | (simp only [hji8] at H ⊢; exact H)
      have hji8w : (IntKind.i64.wrap ((wrap64 (s0_1 + 1)) - 1)) = ji8 := (i64_w _).trans hji8
      by_cases c9 : 0 ≤ (ji8)
      ·rw [if_pos c9] at H
       have c9b0 := decide_eq_true c9; clear c9
       by_cases c10 : (ji8) < (s0_0.length : Int)
       ·rw [if_pos c10] at H
        have c10b0 := decide_eq_true c10; clear c10
        by_cases c11 : a1 = 0
        ·rw [if_pos c11] at H
         exact absurd H (by simp)
        ·rw [if_neg c11] at H
         have c11b0 := beq_eq_false_iff_ne.mpr c11; have c11b1 := bne_iff_ne.mpr c11; simp only [Option.some.injEq, Prod.mk.injEq] at H; obtain ⟨rfl, rfl, rfl⟩ := H; obtain ⟨ASz12_0, cSz12_0, HGz12, hgz12, HSz12_0⟩ := HI0.out; have hcz12_0 := cellS99_0 HGz12; have hcz12_1 := cellS99_1 HGz12; have hcz12_2 := cellS99_2 HGz12; have hfz12_1 := blk_frozen HGz12 1; have hfz12_2 := blk_frozen HGz12 2; clear HGz12 hgz12; have p388 : 0 ≤ (s0_1 : Int) := of_decide_eq_true Zc; have q388 : s0_1 < (s0_0.length : Int) := of_decide_eq_true Zc; obtain ⟨ad388, e388, hx388_0⟩ := Kd.at_int HSz12_0 s0_1 p388 q388
         cases e388
         have hn388_0 : ad388.block ≠ g := Nat.ne_of_lt (Nat.lt_of_lt_of_le (Zbe hx388_0) (IsS99.ge HI0.out)); replace hx388_0 := pw_cell_below HB.out hx388_0; replace hx388_0 := (cell_far (p := ⟨g, 2, none⟩) Zbf (.int .i64 (Int.tmod (wrap64 ((wrap64 (s0_2 * 48271)) + 29)) 2147483647))).trans hx388_0
         (try have hy388_0 := fun (n_ : Nat) => (show (((w.drewN n_).setCell ⟨g, 2, none⟩ (.int .i64 (Int.tmod (wrap64 ((wrap64 (s0_2 * 48271)) + 29)) 2147483647)))).cell? _ = some _ from hx388_0))
         clear hn388_0; replace p388 := eq_true p388; replace q388 := eq_true q388; have p389 : 0 ≤ ((ji8) : Int) := of_decide_eq_true Zc; have q389 : (ji8) < (s0_0.length : Int) := of_decide_eq_true Zc; obtain ⟨ad389, e389, hx389_0⟩ := Kd.at_int HSz12_0 (ji8) p389 q389; obtain rfl : ad388 = ad389 := (by injection e389); have hn389_0 : ad388.block ≠ g := Nat.ne_of_lt (Nat.lt_of_lt_of_le (Zbe hx389_0) (IsS99.ge HI0.out)); have hn389_1 : ad388.block ≠ g := Nat.ne_of_lt (Nat.lt_of_lt_of_le (Zbe hx389_0) (IsS99.ge HI0.out)); replace hx389_0 := pw_cell_below HB.out hx389_0; replace hx389_0 := (cell_far (p := ⟨g, 2, none⟩) (by first | (rw [add_block]; exact hn389_0) | (show (Addr.add _ _).block ≠ _; rw [add_block]; exact hn389_0) | exact hn389_0) (.int .i64 (Int.tmod (wrap64 ((wrap64 (s0_2 * 48271)) + 29)) 2147483647))).trans hx389_0; replace hx389_0 := (cell_far (p := ⟨g, 1, none⟩) (by first | (rw [add_block]; exact hn389_1) | (show (Addr.add _ _).block ≠ _; rw [add_block]; exact hn389_1) | exact hn389_1) (.int .i64 (wrap64 (s0_1 + 1)))).trans hx389_0
         (try have hy389_0 := fun (n_ : Nat) => (show ((((w.drewN n_).setCell ⟨g, 2, none⟩ (.int .i64 (Int.tmod (wrap64 ((wrap64 (s0_2 * 48271)) + 29)) 2147483647))).setCell ⟨g, 1, none⟩ (.int .i64 (wrap64 (s0_1 + 1))))).cell? _ = some _ from hx389_0))
         (try have hz389_0 := fun (n_ : Nat) => (show (((w.setCell ⟨g, 2, none⟩ (.int .i64 (Int.tmod (wrap64 ((wrap64 (s0_2 * 48271)) + 29)) 2147483647))).drewN n_).setCell ⟨g, 1, none⟩ (.int .i64 (wrap64 (s0_1 + 1)))).cell? _ = some _ from hx389_0))
         clear hn389_0; clear hn389_1; replace p389 := eq_true p389; replace q389 := eq_true q389
         go_enter Try.func45, Try.ntmps45
         go_wp2
         repeat (go_quiet (fail); try go_wp2)
         go_ret
         exact ⟨by first | rfl | (simp [errW_none, errW_some] <;> rfl) | (simp only [← hji8]; first | rfl | (simp [errW_none, errW_some] <;> rfl)) | (simp [*, errW_none, errW_some] <;> rfl), Zbb, Zbc, Zbd⟩
       ·exact nN c10 H
      ·exact nN c9 H
     ·rw [if_neg c7] at H
      have c7b0 := beq_eq_false_iff_ne.mpr c7; have c7b1 := bne_iff_ne.mpr c7
      by_cases c13 : a1 = 0
      ·rw [if_pos c13] at H
       exact absurd H (by simp)
      ·rw [if_neg c13] at H
       have c13b0 := beq_eq_false_iff_ne.mpr c13; have c13b1 := bne_iff_ne.mpr c13; simp only [Option.some.injEq, Prod.mk.injEq] at H; obtain ⟨rfl, rfl, rfl⟩ := H; obtain ⟨ASz14_0, cSz14_0, HGz14, hgz14, HSz14_0⟩ := HI0.out; have hcz14_0 := cellS99_0 HGz14; have hcz14_1 := cellS99_1 HGz14; have hcz14_2 := cellS99_2 HGz14; have hfz14_1 := blk_frozen HGz14 1; have hfz14_2 := blk_frozen HGz14 2; clear HGz14 hgz14; have p388 : 0 ≤ (s0_1 : Int) := of_decide_eq_true Zc; have q388 : s0_1 < (s0_0.length : Int) := of_decide_eq_true Zc; obtain ⟨ad388, e388, hx388_0⟩ := Kd.at_int HSz14_0 s0_1 p388 q388
       cases e388
       have hn388_0 : ad388.block ≠ g := Nat.ne_of_lt (Nat.lt_of_lt_of_le (Zbe hx388_0) (IsS99.ge HI0.out)); replace hx388_0 := pw_cell_below HB.out hx388_0; replace hx388_0 := (cell_far (p := ⟨g, 2, none⟩) Zbf (.int .i64 (Int.tmod (wrap64 ((wrap64 (s0_2 * 48271)) + 29)) 2147483647))).trans hx388_0
       (try have hy388_0 := fun (n_ : Nat) => (show (((w.drewN n_).setCell ⟨g, 2, none⟩ (.int .i64 (Int.tmod (wrap64 ((wrap64 (s0_2 * 48271)) + 29)) 2147483647)))).cell? _ = some _ from hx388_0))
       clear hn388_0; replace p388 := eq_true p388; replace q388 := eq_true q388
       go_enter Try.func45, Try.ntmps45
       go_wp2
       repeat (go_quiet (fail); try go_wp2)
       go_ret
       exact ⟨Zg, Zbb, Zbc, Zbd⟩
    ·rw [if_neg c6] at H
     have c6b0 := decide_eq_false c6; clear c6
     by_cases c15 : a1 = 0
     ·rw [if_pos c15] at H
      exact absurd H (by simp)
     ·rw [if_neg c15] at H
      have c15b0 := beq_eq_false_iff_ne.mpr c15; have c15b1 := bne_iff_ne.mpr c15; simp only [Option.some.injEq, Prod.mk.injEq] at H; obtain ⟨rfl, rfl, rfl⟩ := H; obtain ⟨ASz16_0, cSz16_0, HGz16, hgz16, HSz16_0⟩ := HI0.out; have hcz16_0 := cellS99_0 HGz16; have hcz16_1 := cellS99_1 HGz16; have hcz16_2 := cellS99_2 HGz16; have hfz16_1 := blk_frozen HGz16 1; have hfz16_2 := blk_frozen HGz16 2; clear HGz16 hgz16; have p388 : 0 ≤ (s0_1 : Int) := of_decide_eq_true Zc; have q388 : s0_1 < (s0_0.length : Int) := of_decide_eq_true Zc; obtain ⟨ad388, e388, hx388_0⟩ := Kd.at_int HSz16_0 s0_1 p388 q388
      cases e388
      have hn388_0 : ad388.block ≠ g := Nat.ne_of_lt (Nat.lt_of_lt_of_le (Zbe hx388_0) (IsS99.ge HI0.out)); replace hx388_0 := pw_cell_below HB.out hx388_0; replace hx388_0 := (cell_far (p := ⟨g, 2, none⟩) Zbf (.int .i64 (Int.tmod (wrap64 ((wrap64 (s0_2 * 48271)) + 29)) 2147483647))).trans hx388_0
      (try have hy388_0 := fun (n_ : Nat) => (show (((w.drewN n_).setCell ⟨g, 2, none⟩ (.int .i64 (Int.tmod (wrap64 ((wrap64 (s0_2 * 48271)) + 29)) 2147483647)))).cell? _ = some _ from hx388_0))
      clear hn388_0; replace p388 := eq_true p388; replace q388 := eq_true q388
      go_enter Try.func45, Try.ntmps45
      go_wp2
      repeat (go_quiet (fail); try go_wp2)
      go_ret
      exact ⟨Zg, Zbb, Zbc, Zbd⟩
   ·exact nN c5 H
  ·rw [if_neg c4] at H
   have c4b0 := decide_eq_false c4; clear c4
   by_cases c17 : a1 = 0
   ·rw [if_pos c17] at H
    exact absurd H (by simp)
   ·rw [if_neg c17] at H
    have c17b0 := beq_eq_false_iff_ne.mpr c17; have c17b1 := bne_iff_ne.mpr c17; simp only [Option.some.injEq, Prod.mk.injEq] at H; obtain ⟨rfl, rfl, rfl⟩ := H; obtain ⟨ASz18_0, cSz18_0, HGz18, hgz18, HSz18_0⟩ := HI0.out; have hcz18_0 := cellS99_0 HGz18; have hcz18_1 := cellS99_1 HGz18; have hcz18_2 := cellS99_2 HGz18; have hfz18_1 := blk_frozen HGz18 1; have hfz18_2 := blk_frozen HGz18 2; clear HGz18 hgz18
    go_enter Try.func45, Try.ntmps45
    go_wp2
    repeat (go_quiet (fail); try go_wp2)
    go_ret
    exact ⟨Zg, Zbb, Zbc, Zbd⟩
def spec_l01Pick.f (s0_0 : List Int) (s0_1 : Int) (s0_2 : Int) (l1 : List Int) : Option (Int × Int × Int) := (spec_l01Next.f s0_0 s0_1 s0_2 (l1.length : Int)).bind fun bt408 => (if 0 ≤ bt408.1 then (if bt408.1 < (l1.length : Int) then (some (rd l1 bt408.1, bt408.2.1, bt408.2.2)) else (none)) else (none))
theorem spec_l01Pick.calls (g : Nat) (s0_0 : List Int) (s0_1 : Int) (s0_2 : Int) (A1 : Option Addr) (c1 : Nat) (l1 : List Int) (r1 : Int) (r2 : Int) (r3 : Int) (w0 w : World) (hI : IsS99 w0 w g s0_0 s0_1 s0_2) (hB : Below w0.heap.size w0 w) (hr1 : Kd.C (Kd.int .i64) w A1 l1.length l1) (hc1 : l1.length ≤ c1) (hf1 : ∀ ad, A1 = some ad → 0 < l1.length → ad.block ≠ g) (h : spec_l01Pick.f s0_0 s0_1 s0_2 l1 = some (r1, r2, r3)) :
  Calls Try.prog 44 #[.pointer (some ⟨g, 0, none⟩), .slice A1 l1.length c1] w fun e w' => e = .returned (.int .i64 r1) ∧ IsS99 w0 w' g s0_0 r2 r3 ∧ Below w0.heap.size w0 w' ∧ KeepBut w w' g none := by
 have HR1 := am_ hr1; have HC1 := am_ hc1; clear hr1 hc1; have HI0 := am_ hI; have HK := am_ (KeepBut.refl w g none); have HL := am_ hB.size; clear hI; have HW0 := am_ hB.size; have HB := am_ hB; clear hB; have H : ((spec_l01Next.f s0_0 s0_1 s0_2 (l1.length : Int)).bind fun bt408 => (if 0 ≤ bt408.1 then (if bt408.1 < (l1.length : Int) then (some (rd l1 bt408.1, bt408.2.1, bt408.2.2)) else (none)) else (none))) = some (r1, r2, r3) := h; clear h; obtain ⟨⟨t408, t409, t410⟩, A3, H⟩ := bE_ H
 dsimp only at H
 by_cases c4 : 0 ≤ t408
 ·rw [if_pos c4] at H
  have c4b0 := decide_eq_true c4; clear c4
  by_cases c5 : t408 < (l1.length : Int)
  ·rw [if_pos c5] at H
   have c5b0 := decide_eq_true c5; clear c5; simp only [Option.some.injEq, Prod.mk.injEq] at H; obtain ⟨rfl, rfl, rfl⟩ := H
   go_enter Try.func44, Try.ntmps44
   go_wp2_with (first | ((with_reducible refine gate_callee (f := 45) rfl ?_); refine gZ 9 Try.func45 #[.pointer (some ⟨g, 0, none⟩), .int .i64 (l1.length : Int)] ?_; (with_reducible refine (spec_l01Next.calls g s0_0 s0_1 s0_2 (l1.length : Int) t408 t409 t410 w0 _ ?_ ?_ A3.out).mono ?_); exact Zbb; exact Zbc; rintro e w6 ⟨rfl, hi, hb, hk⟩; refine ⟨_, rfl, ?_⟩; replace HK := am_ (KeepBut.trans Zbd hk (.inl rfl)); replace HB := am_ (hb); replace HI0 := am_ (hi); clear hb hk hi; have p411 : 0 ≤ (t408 : Int) := of_decide_eq_true Zc; have q411 : t408 < (l1.length : Int) := of_decide_eq_true Zc; obtain ⟨ad411, e411, hx411_0⟩ := Kd.at_int HR1.out t408 p411 q411; cases e411; replace hx411_0 := keep_cell HK.out hx411_0 (by first | (rw [add_block]; exact hf1 _ rfl (by omega)) | exact hf1 _ rfl (by omega) | exact hf1 ad411 rfl (by omega)); replace p411 := eq_true p411; replace q411 := eq_true q411))
   go_ret
   exact ⟨Zg, Zbb, Zbc, Zbd⟩
  ·exact nN c5 H
 ·exact nN c4 H
def spec_l07Good.l0 : Nat → List (S87) → Int → List Int → Int → Int → Option ((List (S87)) × Int × Int)
 | 0, _, _, _, _, _ => none
 | k + 1, x3, x4, x1000, x1001, x1002 => if x4 > 0 then ((spec_l01Next.f x1000 x1001 x1002 4).bind fun bt396 => ((spec_l01Next.f x1000 bt396.2.1 bt396.2.2 600).bind fun bt399 => (if x3.length < 8796093022208 then (spec_l07Good.l0 k (x3 ++ [(⟨wrap64 (2 + bt396.1), wrap64 (400 + bt399.1)⟩ : S87)]) (wrap64 (x4 - 1)) x1000 bt399.2.1 bt399.2.2) else (none)))) else (some (x3, x1001, x1002))
def spec_l07Good.f (k : Nat) (s0_0 : List Int) (s0_1 : Int) (s0_2 : Int) : Option ((List (S87)) × Int × Int) := (spec_l01Next.f s0_0 s0_1 s0_2 6).bind fun bt393 => (spec_l07Good.l0 k (([] : List (S87))) (wrap64 (1 + bt393.1)) s0_0 bt393.2.1 bt393.2.2)
theorem spec_l07Good.calls (k : Nat) (g : Nat) (s0_0 : List Int) (s0_1 : Int) (s0_2 : Int) (r1 : List (S87)) (r2 : Int) (r3 : Int) (w0 w : World) (hI : IsS99 w0 w g s0_0 s0_1 s0_2) (hB : Below w0.heap.size w0 w) (h : spec_l07Good.f k s0_0 s0_1 s0_2 = some (r1, r2, r3)) :
  Calls Try.prog 85 #[.pointer (some ⟨g, 0, none⟩)] w fun e w' => ∃ v0_ : Value, e = .returned (v0_) ∧ Kd.R k87 87 w' w.heap.size (fun _ => True) v0_ r1 ∧ IsS99 w0 w' g s0_0 r2 r3 ∧ Below w0.heap.size w0 w' ∧ KeepBut w w' g none := by
 have hu87 := Try.underlying87; have HI0 := am_ hI; have HK := am_ (KeepBut.refl w g none); have HL := am_ hB.size; clear hI; have HW0 := am_ hB.size; have HB := am_ hB; clear hB; have H : ((spec_l01Next.f s0_0 s0_1 s0_2 6).bind fun bt393 => (spec_l07Good.l0 k (([] : List (S87))) (wrap64 (1 + bt393.1)) s0_0 bt393.2.1 bt393.2.2)) = some (r1, r2, r3) := h; clear h; obtain ⟨y390, hy390⟩ : ∃ y_ : List (S87), y_ = (([] : List (S87))) := ⟨_, rfl⟩
 replace H : ((spec_l01Next.f s0_0 s0_1 s0_2 6).bind fun bt393 => (spec_l07Good.l0 k y390 (wrap64 (1 + bt393.1)) s0_0 bt393.2.1 bt393.2.2)) = some (r1, r2, r3) := by (try rw [hy390]); first | with_reducible exact H | with_reducible exact (Option.bind_some _ _).symm.trans H | exact H
 have Ny390 := am_ hy390; clear hy390; obtain ⟨⟨t393, t394, t395⟩, A2, H⟩ := bE_ H
 dsimp only at H
 have H' := am_ H; clear H
 go_enter Try.func85, Try.ntmps85
 go_wp2_with (first | ((with_reducible refine gate_dst (N := 5) rfl ?_); refine Kd.R_lit k87 _ 87 ?hg (N := 5) ?hd (xs := ([] : List (S87))) (inner := []) (ok := fun _ => True) (okp := fun _ => True) ?hr ?hp (fun _ hk => hk) trivial (Below.refl _ _) (Nat.le_refl _) (by simp) ?_; (case hd => rfl); (case hg => rfl); (case hr => first | (go_simp; done) | (go_simp; rfl)); (case hp => exact (Reps.none _ _)); intro v391 w3 ho4 hb hg_ hnew_; clear hg_ hnew_; (first | rw [← Ny390.out] at ho4 | (simp only [Int.reduceToNat] at ho4; rw [← Ny390.out] at ho4)); replace HO392 := am_ (Kd.R_lower ho4 (keep_size (w := w) (g := g) (row := none) Zbd)); replace HK := am_ (KeepBut.trans Zbd (KeepBut.of_below hb g none) (.inl rfl)); replace HB := (bsZ Zbc hb); replace HI0 := am_ (IsS99.below Zbb hb); clear hb ho4) | ((with_reducible refine gate_callee (f := 45) rfl ?_); refine gZ 7 Try.func45 #[.pointer (some ⟨g, 0, none⟩), .int .i64 6] ?_; (with_reducible refine (spec_l01Next.calls g s0_0 s0_1 s0_2 6 t393 t394 t395 w0 _ ?_ ?_ A2.out).mono ?_); exact Zbb; exact Zbc; rintro e w5 ⟨rfl, hi, hb, hk⟩; refine ⟨_, rfl, ?_⟩; replace HO392 := (hoZ (IsS99.apart (show IsS99 w0 _ g s0_0 s0_1 s0_2 from Zbb) (Zr HO392) (by decide)) hk); replace HK := am_ (KeepBut.trans Zbd hk (.inl rfl)); replace HB := am_ (hb); replace HI0 := am_ (hi); clear hb hk hi))
 go_loopg [3, 4] k (fun kq v3 v4 w' => ∃ (x3_1 : List (S87)) (x4_1 : Int) (x1001_1 : Int) (x1002_1 : Int), v4 = .int .i64 x4_1 ∧ Aside0 (spec_l07Good.l0 kq x3_1 x4_1 s0_0 x1001_1 x1002_1 = some (r1, r2, r3)) ∧ Aside0 (kq ≤ k) ∧ Aside0 (Kd.R k87 87 w' w.heap.size (fun _ => True) v3 x3_1) ∧ Aside0 (IsS99 w0 w' g s0_0 x1001_1 x1002_1) ∧ Aside0 (KeepBut w w' g none) ∧ Aside0 (Below w0.heap.size w0 w'))
 case atStart => exact ⟨(y390), (wrap64 (1 + t393)), (t394), (t395), Za, H', ⟨Nat.le_refl _⟩, ⟨(Zr HO392)⟩, ⟨Zbb⟩, ⟨Zbd⟩, ⟨Zbc⟩⟩
 case round =>
  clear H'
  try clear p2
  try clear c4
  obtain ⟨x3_1, x4_1, x1001_1, x1002_1, rfl, HA, HK1, HO_3, HI0, HK, HB⟩ := hrel
  cases gk with
  | zero => exact absurd HA.out (by simp [spec_l07Good.l0])
  | succ k1 =>
   have H := HA.out; clear HA; simp only [spec_l07Good.l0] at H
   by_cases c6 : x4_1 > 0
   ·rw [if_pos c6] at H
    have c6b0 : decide (0 < x4_1) = true := decide_eq_true c6; clear c6; obtain ⟨⟨t396, t397, t398⟩, A7, H⟩ := bE_ H
    dsimp only at H
    obtain ⟨⟨t399, t400, t401⟩, A8, H⟩ := bE_ H
    dsimp only at H
    by_cases c9 : x3_1.length < 8796093022208
    ·rw [if_pos c9] at H
     have LMc9 := am_ c9; clear c9; obtain ⟨y402, hy402⟩ : ∃ y_ : List (S87), y_ = (x3_1 ++ [(⟨wrap64 (2 + t396), wrap64 (400 + t399)⟩ : S87)]) := ⟨_, rfl⟩
     (first | (rw [← hy402] at H; with_reducible replace H := bindZ H) | rw [← hy402] at H | skip)
     have Ny402 := am_ hy402; clear hy402; have H' := am_ H; clear H
     go_wp2_with (first | ((with_reducible refine gate_callee (f := 45) rfl ?_); refine gZ 15 Try.func45 #[.pointer (some ⟨g, 0, none⟩), .int .i64 4] ?_; (with_reducible refine (spec_l01Next.calls g s0_0 x1001_1 x1002_1 4 t396 t397 t398 w0 _ ?_ ?_ A7.out).mono ?_); exact Zbb; exact Zbc; rintro e w10 ⟨rfl, hi, hb, hk⟩; refine ⟨_, rfl, ?_⟩; replace HO_3 := (hoZ (IsS99.apart (show IsS99 w0 _ g s0_0 x1001_1 x1002_1 from Zbb) (Zr HO_3) (by decide)) hk); replace HK := am_ (KeepBut.trans Zbd hk (.inl rfl)); replace HB := am_ (hb); replace HI0 := am_ (hi); clear hb hk hi) | ((with_reducible refine gate_callee (f := 45) rfl ?_); refine gZ 18 Try.func45 #[.pointer (some ⟨g, 0, none⟩), .int .i64 600] ?_; (with_reducible refine (spec_l01Next.calls g s0_0 t397 t398 600 t399 t400 t401 w0 _ ?_ ?_ A8.out).mono ?_); exact Zbb; exact Zbc; rintro e w11 ⟨rfl, hi, hb, hk⟩; refine ⟨_, rfl, ?_⟩; replace HO_3 := (hoZ (IsS99.apart (show IsS99 w0 _ g s0_0 t397 t398 from Zbb) (Zr HO_3) (by decide)) hk); replace HK := am_ (KeepBut.trans Zbd hk (.inl rfl)); replace HB := am_ (hb); replace HI0 := am_ (hi); clear hb hk hi) | ((with_reducible refine gate_builtin (b := .append) (xs := #[.tmp 13, .tmp 21]) rfl ?_); at_builtin; refine Kd.R_append k87 w.heap.size rfl (.tmp 13) (.tmp 21) 31 87 (.agg #[(.int .i64 0), (.int .i64 0)]) 16 rfl Try.underlying31 info87 rfl (by decide) (by omega) u3 x3_1 (⟨wrap64 (2 + t396), wrap64 (400 + t399)⟩ : S87) [.int .i64 (wrap64 (2 + t396)), .int .i64 (wrap64 (400 + t399))] (fun _ => True) (fun _ => False) rfl rfl ?aP (fun _ hk => hk.elim) ?aF ?aO (Below.refl _ _) ?aS ?aL ?_; (case aP => exact k87_mkM _ _ _ (⟨wrap64 (2 + t396), wrap64 (400 + t399)⟩ : S87)); (case aF => exact (fun _ _ => trivial)); (case aO => exact (Zr HO_3)); (case aS => exact (keep_size (w := w) (g := g) (row := none) Zbd)); (case aL => have := LMc9.out; omega); intro v403 w12 ho hb hg hat; rw [← Ny402.out] at ho; replace HB := am_ (below_weaken Zbc HL.out hb); replace HI0 := am_ (IsS99.grown Zbb hg (IsS99.own_ne HI0.out HO_3.out (by decide))); replace HK := am_ (KeepBut.trans Zbd (KeepBut.of_grown hg g) (Kd.R_base2 HO_3.out)); replace HO404 := am_ (ho); clear HO_3; clear ho hb hg hat))
     go_roundg k1
     case measure => have := HK1.out; omega
     case rel => exact ⟨(y402), (wrap64 (x4_1 - 1)), (t400), (t401), Za, H', ⟨Zd⟩, ⟨(Zr HO404)⟩, ⟨Zbb⟩, ⟨Zbd⟩, ⟨Zbc⟩⟩
    ·exact nN c9 H
   ·rw [if_neg c6] at H
    have c6b0 : decide (0 < x4_1) = false := decide_eq_false c6; clear c6; simp only [Option.some.injEq, Prod.mk.injEq] at H; obtain ⟨rfl, rfl, rfl⟩ := H
    go_wp2
    go_ret
    exact ⟨_, Zg, (Zr HO_3), Zbb, Zbc, Zbd⟩
def spec_l03Names.f  : Option (List ByteArray) := some (([(⟨#[97, 115, 116, 101, 114]⟩ : ByteArray), (⟨#[99, 111, 109, 101, 116]⟩ : ByteArray), (⟨#[100, 97, 104, 108, 105, 97]⟩ : ByteArray), (⟨#[112, 97, 108, 109]⟩ : ByteArray), (⟨#[112, 101, 111, 110, 121]⟩ : ByteArray), (⟨#[119, 105, 108, 108, 111, 119]⟩ : ByteArray)] : List ByteArray))
theorem spec_l03Names.calls  (r : List ByteArray) (w : World) (h : spec_l03Names.f  = some r) :
  Calls Try.prog 86 #[] w fun e w' => ∃ v0_ : Value, e = .returned (v0_) ∧ Kd.R Kd.string 9 w' w.heap.size (fun _ => True) v0_ r ∧ Below w.heap.size w w' := by
 have HB := am_ (Below.refl w.heap.size w); have H : (some (([(⟨#[97, 115, 116, 101, 114]⟩ : ByteArray), (⟨#[99, 111, 109, 101, 116]⟩ : ByteArray), (⟨#[100, 97, 104, 108, 105, 97]⟩ : ByteArray), (⟨#[112, 97, 108, 109]⟩ : ByteArray), (⟨#[112, 101, 111, 110, 121]⟩ : ByteArray), (⟨#[119, 105, 108, 108, 111, 119]⟩ : ByteArray)] : List ByteArray))) = some r := h; clear h; obtain ⟨y405, hy405⟩ : ∃ y_ : List ByteArray, y_ = (([(⟨#[97, 115, 116, 101, 114]⟩ : ByteArray), (⟨#[99, 111, 109, 101, 116]⟩ : ByteArray), (⟨#[100, 97, 104, 108, 105, 97]⟩ : ByteArray), (⟨#[112, 97, 108, 109]⟩ : ByteArray), (⟨#[112, 101, 111, 110, 121]⟩ : ByteArray), (⟨#[119, 105, 108, 108, 111, 119]⟩ : ByteArray)] : List ByteArray)) := ⟨_, rfl⟩
 (first | (rw [← hy405] at H; with_reducible replace H := bindZ H) | rw [← hy405] at H | skip)
 have Ny405 := am_ hy405; clear hy405; obtain rfl := Option.some.inj H
 go_enter Try.func86, Try.ntmps86
 go_wp2_with (first | ((with_reducible refine gate_dst (N := 1) rfl ?_); refine Kd.R_lit Kd.string _ 9 ?hg (N := 1) ?hd (xs := ([(⟨#[97, 115, 116, 101, 114]⟩ : ByteArray), (⟨#[99, 111, 109, 101, 116]⟩ : ByteArray), (⟨#[100, 97, 104, 108, 105, 97]⟩ : ByteArray), (⟨#[112, 97, 108, 109]⟩ : ByteArray), (⟨#[112, 101, 111, 110, 121]⟩ : ByteArray), (⟨#[119, 105, 108, 108, 111, 119]⟩ : ByteArray)] : List ByteArray)) (inner := [.string (⟨#[97, 115, 116, 101, 114]⟩ : ByteArray), .string (⟨#[99, 111, 109, 101, 116]⟩ : ByteArray), .string (⟨#[100, 97, 104, 108, 105, 97]⟩ : ByteArray), .string (⟨#[112, 97, 108, 109]⟩ : ByteArray), .string (⟨#[112, 101, 111, 110, 121]⟩ : ByteArray), .string (⟨#[119, 105, 108, 108, 111, 119]⟩ : ByteArray)]) (ok := fun _ => True) (okp := fun _ => True) ?hr ?hp (fun _ hk => hk) trivial (Below.refl _ _) (Nat.le_refl _) (by simp) ?_; (case hd => rfl); (case hg => rfl); (case hr => first | (go_simp; done) | (go_simp; rfl)); (case hp => exact (Reps.one (show Kd.M Kd.string _ _ _ (⟨#[97, 115, 116, 101, 114]⟩ : ByteArray) [.string (⟨#[97, 115, 116, 101, 114]⟩ : ByteArray)] from rfl) (Reps.one (show Kd.M Kd.string _ _ _ (⟨#[99, 111, 109, 101, 116]⟩ : ByteArray) [.string (⟨#[99, 111, 109, 101, 116]⟩ : ByteArray)] from rfl) (Reps.one (show Kd.M Kd.string _ _ _ (⟨#[100, 97, 104, 108, 105, 97]⟩ : ByteArray) [.string (⟨#[100, 97, 104, 108, 105, 97]⟩ : ByteArray)] from rfl) (Reps.one (show Kd.M Kd.string _ _ _ (⟨#[112, 97, 108, 109]⟩ : ByteArray) [.string (⟨#[112, 97, 108, 109]⟩ : ByteArray)] from rfl) (Reps.one (show Kd.M Kd.string _ _ _ (⟨#[112, 101, 111, 110, 121]⟩ : ByteArray) [.string (⟨#[112, 101, 111, 110, 121]⟩ : ByteArray)] from rfl) (Reps.one (show Kd.M Kd.string _ _ _ (⟨#[119, 105, 108, 108, 111, 119]⟩ : ByteArray) [.string (⟨#[119, 105, 108, 108, 111, 119]⟩ : ByteArray)] from rfl) (Reps.none _ _)))))))); intro v406 w1 ho2 hb hg_ hnew_; clear hg_ hnew_; (first | rw [← Ny405.out] at ho2 | (simp only [Int.reduceToNat] at ho2; rw [← Ny405.out] at ho2)); replace HO407 := am_ (Kd.R_lower ho2 (below_size Zf)); replace HB := (bsZ Zf hb); clear hb ho2))
 go_ret
 exact ⟨_, Zg, (Zr HO407), Zf⟩
def spec_l03Good.f (s0_0 : List Int) (s0_1 : Int) (s0_2 : Int) (a1 : ByteArray) : Option (ByteArray × Int × Int × Int × Int × Int × Int × Int × Int × Int × Int) := (spec_l01Next.f s0_0 s0_1 s0_2 4).bind fun bt413 => ((spec_l01Next.f s0_0 bt413.2.1 bt413.2.2 281).bind fun bt416 => ((spec_l01Pick.f s0_0 bt416.2.1 bt416.2.2 (([50, 75, 100, 150, wrap64 (20 + bt416.1)] : List Int))).bind fun bt422 => ((spec_l01Next.f s0_0 bt422.2.1 bt422.2.2 5000).bind fun bt425 => ((spec_l01Next.f s0_0 bt425.2.1 bt425.2.2 300).bind fun bt428 => ((spec_l01Next.f s0_0 bt428.2.1 bt428.2.2 2000).bind fun bt431 => ((spec_l01Next.f s0_0 bt431.2.1 bt431.2.2 4).bind fun bt434 => (if bt413.1 = 1 then ((spec_l01Next.f s0_0 bt434.2.1 bt434.2.2 8).bind fun bt438 => ((spec_l01Next.f s0_0 bt438.2.1 bt438.2.2 2000).bind fun bt441 => (if bt413.1 = 2 then (some (a1, bt413.1, bt422.1, 0, 0, wrap64 (1 + bt438.1), wrap64 (500 + bt441.1), wrap64 (50 + bt431.1), bt434.1, bt441.2.1, bt441.2.2)) else (some (a1, bt413.1, bt422.1, wrap64 (1000 + bt425.1), bt428.1, wrap64 (1 + bt438.1), wrap64 (500 + bt441.1), wrap64 (50 + bt431.1), bt434.1, bt441.2.1, bt441.2.2))))) else (if bt413.1 = 2 then (some (a1, bt413.1, bt422.1, 0, 0, 1, 0, wrap64 (50 + bt431.1), bt434.1, bt434.2.1, bt434.2.2)) else (some (a1, bt413.1, bt422.1, wrap64 (1000 + bt425.1), bt428.1, 1, 0, wrap64 (50 + bt431.1), bt434.1, bt434.2.1, bt434.2.2))))))))))
theorem spec_l03Good.gen {P : Program} {ops : Array Oper} {Q : Exit → Act → World → Prop} {rest : List Oper} {a : Act} {W : World} (h : ∀ w1, w1 = W → wpList P ops Q rest a w1) : wpList P ops Q rest a W := h W rfl
theorem spec_l03Good.exs {w : World} {g t i : Nat} {u : Value} {E : Array Value → Prop} (h : ∃ cs, w.heap[g]? = some (.cells cs t (0, 0)) ∧ E (cs.setIfInBounds i u)) : ∃ cs, (w.setCell ⟨g, i, none⟩ u).heap[g]? = some (.cells cs t (0, 0)) ∧ E cs := h.elim fun _ h => ⟨_, blk_set h.1 i u, h.2⟩
set_option maxHeartbeats 40000000 in
theorem spec_l03Good.calls (g : Nat) (s0_0 : List Int) (s0_1 : Int) (s0_2 : Int) (a1 : ByteArray) (r1 : ByteArray) (r2 : Int) (r3 : Int) (r4 : Int) (r5 : Int) (r6 : Int) (r7 : Int) (r8 : Int) (r9 : Int) (r10 : Int) (r11 : Int) (w0 w : World) (hI : IsS99 w0 w g s0_0 s0_1 s0_2) (hB : Below w0.heap.size w0 w) (h : spec_l03Good.f s0_0 s0_1 s0_2 a1 = some (r1, r2, r3, r4, r5, r6, r7, r8, r9, r10, r11)) :
  Calls Try.prog 87 #[.pointer (some ⟨g, 0, none⟩), .string a1] w fun e w' => e = .returned (.agg #[.string r1, .int .i64 r2, .int .i64 r3, .int .i64 r4, .int .i64 r5, .int .i64 r6, .int .i64 r7, .int .i64 r8, .int .i64 r9]) ∧ IsS99 w0 w' g s0_0 r10 r11 ∧ Below w0.heap.size w0 w' ∧ KeepBut w w' g none := by
 have hu91 := Try.underlying91; have HI0 := am_ hI; have HK := am_ (KeepBut.refl w g none); have HL := am_ hB.size; clear hI; have HW0 := am_ hB.size; have HB := am_ hB; clear hB; have H : ((spec_l01Next.f s0_0 s0_1 s0_2 4).bind fun bt413 => ((spec_l01Next.f s0_0 bt413.2.1 bt413.2.2 281).bind fun bt416 => ((spec_l01Pick.f s0_0 bt416.2.1 bt416.2.2 (([50, 75, 100, 150, wrap64 (20 + bt416.1)] : List Int))).bind fun bt422 => ((spec_l01Next.f s0_0 bt422.2.1 bt422.2.2 5000).bind fun bt425 => ((spec_l01Next.f s0_0 bt425.2.1 bt425.2.2 300).bind fun bt428 => ((spec_l01Next.f s0_0 bt428.2.1 bt428.2.2 2000).bind fun bt431 => ((spec_l01Next.f s0_0 bt431.2.1 bt431.2.2 4).bind fun bt434 => (if bt413.1 = 1 then ((spec_l01Next.f s0_0 bt434.2.1 bt434.2.2 8).bind fun bt438 => ((spec_l01Next.f s0_0 bt438.2.1 bt438.2.2 2000).bind fun bt441 => (if bt413.1 = 2 then (some (a1, bt413.1, bt422.1, 0, 0, wrap64 (1 + bt438.1), wrap64 (500 + bt441.1), wrap64 (50 + bt431.1), bt434.1, bt441.2.1, bt441.2.2)) else (some (a1, bt413.1, bt422.1, wrap64 (1000 + bt425.1), bt428.1, wrap64 (1 + bt438.1), wrap64 (500 + bt441.1), wrap64 (50 + bt431.1), bt434.1, bt441.2.1, bt441.2.2))))) else (if bt413.1 = 2 then (some (a1, bt413.1, bt422.1, 0, 0, 1, 0, wrap64 (50 + bt431.1), bt434.1, bt434.2.1, bt434.2.2)) else (some (a1, bt413.1, bt422.1, wrap64 (1000 + bt425.1), bt428.1, 1, 0, wrap64 (50 + bt431.1), bt434.1, bt434.2.1, bt434.2.2))))))))))) = some (r1, r2, r3, r4, r5, r6, r7, r8, r9, r10, r11) := h; clear h; obtain ⟨⟨t413, t414, t415⟩, A3, H⟩ := bE_ H
 dsimp only at H
 obtain ⟨⟨t416, t417, t418⟩, A4, H⟩ := bE_ H
 dsimp only at H
 obtain ⟨y419, hy419⟩ : ∃ y_ : List Int, y_ = (([50, 75, 100, 150, wrap64 (20 + t416)] : List Int)) := ⟨_, rfl⟩
 (first | (rw [← hy419] at H; with_reducible replace H := bindZ H) | rw [← hy419] at H | skip)
 have Ny419 := am_ hy419; clear hy419; obtain ⟨⟨t422, t423, t424⟩, A5, H⟩ := bE_ H
 dsimp only at H
 obtain ⟨⟨t425, t426, t427⟩, A6, H⟩ := bE_ H
 dsimp only at H
 obtain ⟨⟨t428, t429, t430⟩, A7, H⟩ := bE_ H
 dsimp only at H
 obtain ⟨⟨t431, t432, t433⟩, A8, H⟩ := bE_ H
 dsimp only at H
 obtain ⟨⟨t434, t435, t436⟩, A9, H⟩ := bE_ H
 dsimp only at H
 have HS_ := am_ H; clear H
 go_enter Try.func87, Try.ntmps87
 go_wp2_with (first | ((with_reducible refine gate_dst (N := 4) rfl ?_); refine boxZ 4 #[.string (⟨#[]⟩ : ByteArray), .int .i64 0, .int .i64 0, .int .i64 0, .int .i64 0, .int .i64 0, .int .i64 0, .int .i64 0, .int .i64 0] 91 ?_; intro gb412 hg w14 hbox hb; replace HB := (bsZ Zbc hb); replace BK412 := am_ (hbox); replace GW412 := am_ ((Zbg : w.heap.size ≤ gb412)); replace GE412 := am_ ((Nat.le_trans HW0.out (Zbg : w.heap.size ≤ gb412) : w0.heap.size ≤ gb412)); replace HK := am_ (KeepBut.trans Zbd (KeepBut.of_below hb g none) (.inl rfl)); replace NB0_412 := am_ ((Zbh : g ≠ gb412)); replace NB412_0 := am_ ((Zbi : gb412 ≠ g)); replace HI0 := am_ (IsS99.below Zbb hb); clear hb hbox hg) | ((with_reducible refine gate_callee (f := 45) rfl ?_); refine gZ 8 Try.func45 #[.pointer (some ⟨g, 0, none⟩), .int .i64 4] ?_; (with_reducible refine (spec_l01Next.calls g s0_0 s0_1 s0_2 4 t413 t414 t415 w0 _ ?_ ?_ A3.out).mono ?_); exact (Zbj NB0_412); exact (Zbk GE412); rintro e w15 ⟨rfl, hi, hb, hk⟩; refine ⟨_, rfl, ?_⟩; replace BK412 := (kbZ BK412 hk NB412_0); replace HK := am_ (KeepBut.trans (Zbl GW412) hk (.inl rfl)); replace HB := am_ (hb); replace HI0 := am_ (hi); clear hb hk hi) | ((with_reducible refine gate_callee (f := 45) rfl ?_); refine gZ 11 Try.func45 #[.pointer (some ⟨g, 0, none⟩), .int .i64 281] ?_; (with_reducible refine (spec_l01Next.calls g s0_0 t414 t415 281 t416 t417 t418 w0 _ ?_ ?_ A4.out).mono ?_); exact (Zbj NB0_412); exact (Zbk GE412); rintro e w16 ⟨rfl, hi, hb, hk⟩; refine ⟨_, rfl, ?_⟩; replace BK412 := (kbZ BK412 hk NB412_0); replace HK := am_ (KeepBut.trans (Zbl GW412) hk (.inl rfl)); replace HB := am_ (hb); replace HI0 := am_ (hi); clear hb hk hi) | ((with_reducible refine gate_dst (N := 13) rfl ?_); refine Kd.R_lit (Kd.int .i64) _ 2 ?hg (N := 13) ?hd (xs := ([50, 75, 100, 150, wrap64 (20 + t416)] : List Int)) (inner := [.int .i64 50, .int .i64 75, .int .i64 100, .int .i64 150, .int .i64 (wrap64 (20 + t416))]) (ok := fun _ => True) (okp := fun _ => True) ?hr ?hp (fun _ hk => hk) trivial (Below.refl _ _) (Nat.le_refl _) (by simp) ?_; (case hd => rfl); (case hg => rfl); (case hr => first | (go_simp; done) | (go_simp; rfl)); (case hp => exact (Reps.one (show Kd.M (Kd.int .i64) _ _ _ 50 [.int .i64 50] from rfl) (Reps.one (show Kd.M (Kd.int .i64) _ _ _ 75 [.int .i64 75] from rfl) (Reps.one (show Kd.M (Kd.int .i64) _ _ _ 100 [.int .i64 100] from rfl) (Reps.one (show Kd.M (Kd.int .i64) _ _ _ 150 [.int .i64 150] from rfl) (Reps.one (show Kd.M (Kd.int .i64) _ _ _ (wrap64 (20 + t416)) [.int .i64 (wrap64 (20 + t416))] from rfl) (Reps.none _ _))))))); intro v420 w17 ho18 hb hg_ hnew_; clear hg_ hnew_; (first | rw [← Ny419.out] at ho18 | (simp only [Int.reduceToNat] at ho18; rw [← Ny419.out] at ho18)); replace HO421 := am_ (Kd.R_lower ho18 (keep_size (w := w) (g := g) (row := none) (Zbl GW412))); replace BK412 := (bkZ BK412 hb); replace HK := am_ (KeepBut.trans (Zbl GW412) (KeepBut.of_below hb g none) (.inl rfl)); replace HB := (bsZ (Zbk GE412) hb); replace HI0 := am_ (IsS99.below (Zbj NB0_412) hb); clear hb ho18; obtain ⟨Ao19, co19, eo19⟩ := Kd.R_slice HO421.out; subst eo19) | ((with_reducible refine gate_callee (f := 44) rfl ?_); refine gZ 14 Try.func44 #[.pointer (some ⟨g, 0, none⟩), .slice Ao19 y419.length co19] ?_; (with_reducible refine (spec_l01Pick.calls g s0_0 t417 t418 _ _ y419 t422 t423 t424 w0 _ ?_ ?_ ?_ ?_ ?_ A5.out).mono ?_); exact (Zbj NB0_412); exact (Zbk GE412); exact (Zak HO421); exact (Kd.R_reads' HO421.out).2.1; exact far_slice (IsS99.own_ne HI0.out HO421.out (by decide)); rintro e w20 ⟨rfl, hi, hb, hk⟩; refine ⟨_, rfl, ?_⟩; replace BK412 := (kbZ BK412 hk NB412_0); replace HO421 := (hoZ (IsS99.apart (show IsS99 w0 _ g s0_0 t417 t418 from (Zbj NB0_412)) (Zr HO421) (by decide)) hk); replace HK := am_ (KeepBut.trans (Zbl GW412) hk (.inl rfl)); replace HB := am_ (hb); replace HI0 := am_ (hi); clear hb hk hi) | ((with_reducible refine gate_callee (f := 45) rfl ?_); refine gZ 16 Try.func45 #[.pointer (some ⟨g, 0, none⟩), .int .i64 5000] ?_; (with_reducible refine (spec_l01Next.calls g s0_0 t423 t424 5000 t425 t426 t427 w0 _ ?_ ?_ A6.out).mono ?_); exact (Zbj NB0_412); exact (Zbk GE412); rintro e w21 ⟨rfl, hi, hb, hk⟩; refine ⟨_, rfl, ?_⟩; replace BK412 := (kbZ BK412 hk NB412_0); replace HO421 := (hoZ (IsS99.apart (show IsS99 w0 _ g s0_0 t423 t424 from (Zbj NB0_412)) (Zr HO421) (by decide)) hk); replace HK := am_ (KeepBut.trans (Zbl GW412) hk (.inl rfl)); replace HB := am_ (hb); replace HI0 := am_ (hi); clear hb hk hi) | ((with_reducible refine gate_callee (f := 45) rfl ?_); refine gZ 19 Try.func45 #[.pointer (some ⟨g, 0, none⟩), .int .i64 300] ?_; (with_reducible refine (spec_l01Next.calls g s0_0 t426 t427 300 t428 t429 t430 w0 _ ?_ ?_ A7.out).mono ?_); exact (Zbj NB0_412); exact (Zbk GE412); rintro e w22 ⟨rfl, hi, hb, hk⟩; refine ⟨_, rfl, ?_⟩; replace BK412 := (kbZ BK412 hk NB412_0); replace HO421 := (hoZ (IsS99.apart (show IsS99 w0 _ g s0_0 t426 t427 from (Zbj NB0_412)) (Zr HO421) (by decide)) hk); replace HK := am_ (KeepBut.trans (Zbl GW412) hk (.inl rfl)); replace HB := am_ (hb); replace HI0 := am_ (hi); clear hb hk hi) | ((with_reducible refine gate_callee (f := 45) rfl ?_); refine gZ 21 Try.func45 #[.pointer (some ⟨g, 0, none⟩), .int .i64 2000] ?_; (with_reducible refine (spec_l01Next.calls g s0_0 t429 t430 2000 t431 t432 t433 w0 _ ?_ ?_ A8.out).mono ?_); exact (Zbj NB0_412); exact (Zbk GE412); rintro e w23 ⟨rfl, hi, hb, hk⟩; refine ⟨_, rfl, ?_⟩; replace BK412 := (kbZ BK412 hk NB412_0); replace HO421 := (hoZ (IsS99.apart (show IsS99 w0 _ g s0_0 t429 t430 from (Zbj NB0_412)) (Zr HO421) (by decide)) hk); replace HK := am_ (KeepBut.trans (Zbl GW412) hk (.inl rfl)); replace HB := am_ (hb); replace HI0 := am_ (hi); clear hb hk hi) | ((with_reducible refine gate_callee (f := 45) rfl ?_); refine gZ 24 Try.func45 #[.pointer (some ⟨g, 0, none⟩), .int .i64 4] ?_; (with_reducible refine (spec_l01Next.calls g s0_0 t432 t433 4 t434 t435 t436 w0 _ ?_ ?_ A9.out).mono ?_); exact (Zbj NB0_412); exact (Zbk GE412); rintro e w24 ⟨rfl, hi, hb, hk⟩; refine ⟨_, rfl, ?_⟩; replace BK412 := (kbZ BK412 hk NB412_0); replace HO421 := (hoZ (IsS99.apart (show IsS99 w0 _ g s0_0 t432 t433 from (Zbj NB0_412)) (Zr HO421) (by decide)) hk); replace HK := am_ (KeepBut.trans (Zbl GW412) hk (.inl rfl)); replace HB := am_ (hb); replace HI0 := am_ (hi); clear hb hk hi; refine ?roundEnd))
 case roundEnd =>
  by_cases c10 : t413 = 1
  ·have H := HS_.out
   clear HS_; rw [if_pos c10] at H; have c10b0 := beq_iff_eq.mpr c10; have c10b1 := bne_eq_false_iff_eq.mpr c10; clear c10; obtain ⟨⟨t438, t439, t440⟩, A11, H⟩ := bE_ H
   dsimp only at H
   obtain ⟨⟨t441, t442, t443⟩, A12, H⟩ := bE_ H
   dsimp only at H
   have HS_ := am_ H; clear H
   go_wp2_with (first | ((with_reducible refine gate_dst (N := 5) rfl ?_); refine boxZ 5 #[.string (⟨#[]⟩ : ByteArray), .int .i64 0, .int .i64 0, .int .i64 0, .int .i64 0, .int .i64 0, .int .i64 0, .int .i64 0, .int .i64 0] 91 ?_; intro gb437 hg w25 hbox hb; replace HO421 := (hbZ HO421 hb); replace HB := (bsZ (Zbk GE412) hb); replace BK437 := am_ (hbox); replace GW437 := am_ (((Zbm GW412) : w.heap.size ≤ gb437)); replace GE437 := am_ ((Nat.le_trans HW0.out ((Zbm GW412) : w.heap.size ≤ gb437) : w0.heap.size ≤ gb437)); replace HK := am_ (KeepBut.trans (Zbl GW412) (KeepBut.of_below hb g none) (.inl rfl)); replace NB412_437 := am_ ((by rw [hg]; exact Nat.ne_of_lt (blk_lt (g := gb412) (b0Z BK412)) : gb412 ≠ gb437)); replace NB437_412 := am_ ((by rw [hg]; exact Nat.ne_of_gt (blk_lt (g := gb412) (b0Z BK412)) : gb437 ≠ gb412)); replace BK412 := (bkZ BK412 hb); replace NB0_437 := am_ (((Zbn NB0_412) : g ≠ gb437)); replace NB437_0 := am_ (((Zbo NB0_412) : gb437 ≠ g)); replace HI0 := am_ (IsS99.below (Zbj NB0_412) hb); clear hb hbox hg; have hnb26 := NB437_412.out; have hnc26 := NB412_437.out; have hnb27 := NB437_0.out; have hnc27 := NB0_437.out; refine ci9 BK437 ?_; intros) | ((with_reducible refine gate_callee (f := 45) rfl ?_); refine gZ 30 Try.func45 #[.pointer (some ⟨g, 0, none⟩), .int .i64 8] ?_; (with_reducible refine (spec_l01Next.calls g s0_0 t435 t436 8 t438 t439 t440 w0 _ ?_ ?_ A11.out).mono ?_); exact (Zbp NB0_412 NB0_437); exact (Zbq GE412 GE437); rintro e w29 ⟨rfl, hi, hb, hk⟩; refine ⟨_, rfl, ?_⟩; replace BK412 := am_ (KeepBut.blk hk (g' := gb412) (bfZ BK412 NB412_437) NB412_0.out (by simp)); replace HO421 := (hoZ (IsS99.apart (show IsS99 w0 _ g s0_0 t435 t436 from (Zbp NB0_412 NB0_437)) (Zbr HO421 BK437) (by decide)) hk); replace BK437 := am_ (KeepBut.blk hk (g' := gb437) (o := .cells #[.string a1, .int .i64 t413, .int .i64 t422, .int .i64 (wrap64 (1000 + t425)), .int .i64 t428, .int .i64 1, .int .i64 0, .int .i64 (wrap64 (50 + t431)), .int .i64 t434] 91 (0, 0)) (bpZ BK437) NB437_0.out (by simp)); replace HK := am_ (KeepBut.trans (Zbs GW412 GW437) hk (.inl rfl)); replace HB := am_ (hb); replace HI0 := am_ (hi); clear hb hk hi; refine ci9 BK437 ?_; intros) | ((with_reducible refine gate_callee (f := 45) rfl ?_); refine gZ 34 Try.func45 #[.pointer (some ⟨g, 0, none⟩), .int .i64 2000] ?_; (with_reducible refine (spec_l01Next.calls g s0_0 t439 t440 2000 t441 t442 t443 w0 _ ?_ ?_ A12.out).mono ?_); exact (Zbp NB0_412 NB0_437); exact (Zbq GE412 GE437); rintro e w31 ⟨rfl, hi, hb, hk⟩; refine ⟨_, rfl, ?_⟩; replace BK412 := am_ (KeepBut.blk hk (g' := gb412) (bfZ BK412 NB412_437) NB412_0.out (by simp)); replace HO421 := (hoZ (IsS99.apart (show IsS99 w0 _ g s0_0 t439 t440 from (Zbp NB0_412 NB0_437)) (Zbr HO421 BK437) (by decide)) hk); replace BK437 := am_ (KeepBut.blk hk (g' := gb437) (o := .cells #[.string a1, .int .i64 t413, .int .i64 t422, .int .i64 (wrap64 (1000 + t425)), .int .i64 t428, .int .i64 (wrap64 (1 + t438)), .int .i64 0, .int .i64 (wrap64 (50 + t431)), .int .i64 t434] 91 (0, 0)) (bpZ BK437) NB437_0.out (by simp)); replace HK := am_ (KeepBut.trans (Zbs GW412 GW437) hk (.inl rfl)); replace HB := am_ (hb); replace HI0 := am_ (hi); clear hb hk hi; refine ci9 BK437 ?_; intros; have hnb33 := NB412_0.out; have hnc33 := NB0_412.out; refine ci9 BK412 ?_; intros; refine ?roundEnd))
   case roundEnd =>
    by_cases c13 : t413 = 2
    ·have H := HS_.out
     clear HS_; rw [if_pos c13] at H; have c13b0 := beq_iff_eq.mpr c13; have c13b1 := bne_eq_false_iff_eq.mpr c13; clear c13; simp only [Option.some.injEq, Prod.mk.injEq] at H; obtain ⟨rfl, rfl, rfl, rfl, rfl, rfl, rfl, rfl, rfl, rfl, rfl⟩ := H
     go_wp2_with (first | fail)
     refine bodyPost_ret (results_cell_row rfl _ _ gb412 91 #[.string a1, .int .i64 t413, .int .i64 t422, .int .i64 0, .int .i64 0, .int .i64 (wrap64 (1 + t438)), .int .i64 (wrap64 (500 + t441)), .int .i64 (wrap64 (50 + t431)), .int .i64 t434] (0, 0) _ rfl (bmZ BK412 NB412_437) Try.underlying91 rfl Zi) rfl ?_; exact ⟨Zg, (Zbp NB0_412 NB0_437), (Zbq GE412 GE437), (Zbs GW412 GW437)⟩
    ·have H := HS_.out
     clear HS_; rw [if_neg c13] at H; have c13b0 := beq_eq_false_iff_ne.mpr c13; have c13b1 := bne_iff_ne.mpr c13; simp only [Option.some.injEq, Prod.mk.injEq] at H; obtain ⟨rfl, rfl, rfl, rfl, rfl, rfl, rfl, rfl, rfl, rfl, rfl⟩ := H
     go_wp2_with (first | fail)
     refine bodyPost_ret (results_cell_row rfl _ _ gb412 91 #[.string a1, .int .i64 t413, .int .i64 t422, .int .i64 (wrap64 (1000 + t425)), .int .i64 t428, .int .i64 (wrap64 (1 + t438)), .int .i64 (wrap64 (500 + t441)), .int .i64 (wrap64 (50 + t431)), .int .i64 t434] (0, 0) _ rfl (bmZ BK412 NB412_437) Try.underlying91 rfl Zi) rfl ?_; exact ⟨Zg, (Zbp NB0_412 NB0_437), (Zbq GE412 GE437), (Zbs GW412 GW437)⟩
  ·have H := HS_.out
   clear HS_; rw [if_neg c10] at H; have c10b0 := beq_eq_false_iff_ne.mpr c10; have c10b1 := bne_iff_ne.mpr c10; have HS_ := am_ H; clear H
   by_cases c56 : t413 = 2
   ·have H := HS_.out
    clear HS_; rw [if_pos c56] at H; have c56b0 := beq_iff_eq.mpr c56; have c56b1 := bne_eq_false_iff_eq.mpr c56; clear c56; simp only [Option.some.injEq, Prod.mk.injEq] at H; obtain ⟨rfl, rfl, rfl, rfl, rfl, rfl, rfl, rfl, rfl, rfl, rfl⟩ := H
    go_wp2_with (first | ((with_reducible refine gate_dst (N := 5) rfl ?_); refine boxZ 5 #[.string (⟨#[]⟩ : ByteArray), .int .i64 0, .int .i64 0, .int .i64 0, .int .i64 0, .int .i64 0, .int .i64 0, .int .i64 0, .int .i64 0] 91 ?_; intro gb437 hg w68 hbox hb; replace HO421 := (hbZ HO421 hb); replace HB := (bsZ (Zbk GE412) hb); replace BK437 := am_ (hbox); replace GW437 := am_ (((Zbm GW412) : w.heap.size ≤ gb437)); replace GE437 := am_ ((Nat.le_trans HW0.out ((Zbm GW412) : w.heap.size ≤ gb437) : w0.heap.size ≤ gb437)); replace HK := am_ (KeepBut.trans (Zbl GW412) (KeepBut.of_below hb g none) (.inl rfl)); replace NB412_437 := am_ ((by rw [hg]; exact Nat.ne_of_lt (blk_lt (g := gb412) (b0Z BK412)) : gb412 ≠ gb437)); replace NB437_412 := am_ ((by rw [hg]; exact Nat.ne_of_gt (blk_lt (g := gb412) (b0Z BK412)) : gb437 ≠ gb412)); replace BK412 := (bkZ BK412 hb); replace NB0_437 := am_ (((Zbn NB0_412) : g ≠ gb437)); replace NB437_0 := am_ (((Zbo NB0_412) : gb437 ≠ g)); replace HI0 := am_ (IsS99.below (Zbj NB0_412) hb); clear hb hbox hg; have hnb69 := NB437_412.out; have hnc69 := NB412_437.out; have hnb70 := NB437_0.out; have hnc70 := NB0_437.out; refine ci9 BK437 ?_; intros; have hnb72 := NB412_0.out; have hnc72 := NB0_412.out; refine ci9 BK412 ?_; intros) | ((with_reducible refine gate_dst (N := 42) rfl ?_); refine spec_l03Good.gen (fun wq_ hq_ => ?_); obtain ⟨csq_, nq0_, eq_⟩ : ∃ cs, wq_.heap[gb437]? = some (.cells cs 91 (0, 0)) ∧ cs = #[.string a1, .int .i64 t413, .int .i64 t422, .int .i64 0, .int .i64 0, .int .i64 1, .int .i64 0, .int .i64 (wrap64 (50 + t431)), .int .i64 t434] := (by rw [hq_]; (repeat (with_reducible refine spec_l03Good.exs ?_)); exact ⟨_, BK437.out, Zbt⟩); subst eq_; have nq1_ : wq_.heap[gb412]? = some (.cells #[.string (⟨#[]⟩ : ByteArray), .int .i64 0, .int .i64 0, .int .i64 0, .int .i64 0, .int .i64 0, .int .i64 0, .int .i64 0, .int .i64 0] 91 (0, 0)) := (by rw [hq_]; (repeat (refine blk_far ?_ NB412_437.out _)); exact BK412.out); have HQ_ := am_ hq_; clear hq_; have hczq437_0 : wq_.cell? ⟨gb437, 0, none⟩ = some (.string a1) := (blk_cell nq0_ 0).trans rfl; have hfzq437_0 := blk_frozen nq0_ 0; have hczq437_1 : wq_.cell? ⟨gb437, 1, none⟩ = some (.int .i64 t413) := (blk_cell nq0_ 1).trans rfl; have hfzq437_1 := blk_frozen nq0_ 1; have hczq437_2 : wq_.cell? ⟨gb437, 2, none⟩ = some (.int .i64 t422) := (blk_cell nq0_ 2).trans rfl; have hfzq437_2 := blk_frozen nq0_ 2; have hczq437_3 : wq_.cell? ⟨gb437, 3, none⟩ = some (.int .i64 0) := (blk_cell nq0_ 3).trans rfl; have hfzq437_3 := blk_frozen nq0_ 3; have hczq437_4 : wq_.cell? ⟨gb437, 4, none⟩ = some (.int .i64 0) := (blk_cell nq0_ 4).trans rfl; have hfzq437_4 := blk_frozen nq0_ 4; have hczq437_5 : wq_.cell? ⟨gb437, 5, none⟩ = some (.int .i64 1) := (blk_cell nq0_ 5).trans rfl; have hfzq437_5 := blk_frozen nq0_ 5; have hczq437_6 : wq_.cell? ⟨gb437, 6, none⟩ = some (.int .i64 0) := (blk_cell nq0_ 6).trans rfl; have hfzq437_6 := blk_frozen nq0_ 6; have hczq437_7 : wq_.cell? ⟨gb437, 7, none⟩ = some (.int .i64 (wrap64 (50 + t431))) := (blk_cell nq0_ 7).trans rfl; have hfzq437_7 := blk_frozen nq0_ 7; have hczq437_8 : wq_.cell? ⟨gb437, 8, none⟩ = some (.int .i64 t434) := (blk_cell nq0_ 8).trans rfl; have hfzq437_8 := blk_frozen nq0_ 8; have hczq412_0 : wq_.cell? ⟨gb412, 0, none⟩ = some (.string (⟨#[]⟩ : ByteArray)) := (blk_cell nq1_ 0).trans rfl; have hfzq412_0 := blk_frozen nq1_ 0; have hczq412_1 : wq_.cell? ⟨gb412, 1, none⟩ = some (.int .i64 0) := (blk_cell nq1_ 1).trans rfl; have hfzq412_1 := blk_frozen nq1_ 1; have hczq412_2 : wq_.cell? ⟨gb412, 2, none⟩ = some (.int .i64 0) := (blk_cell nq1_ 2).trans rfl; have hfzq412_2 := blk_frozen nq1_ 2; have hczq412_3 : wq_.cell? ⟨gb412, 3, none⟩ = some (.int .i64 0) := (blk_cell nq1_ 3).trans rfl; have hfzq412_3 := blk_frozen nq1_ 3; have hczq412_4 : wq_.cell? ⟨gb412, 4, none⟩ = some (.int .i64 0) := (blk_cell nq1_ 4).trans rfl; have hfzq412_4 := blk_frozen nq1_ 4; have hczq412_5 : wq_.cell? ⟨gb412, 5, none⟩ = some (.int .i64 0) := (blk_cell nq1_ 5).trans rfl; have hfzq412_5 := blk_frozen nq1_ 5; have hczq412_6 : wq_.cell? ⟨gb412, 6, none⟩ = some (.int .i64 0) := (blk_cell nq1_ 6).trans rfl; have hfzq412_6 := blk_frozen nq1_ 6; have hczq412_7 : wq_.cell? ⟨gb412, 7, none⟩ = some (.int .i64 0) := (blk_cell nq1_ 7).trans rfl; have hfzq412_7 := blk_frozen nq1_ 7; have hczq412_8 : wq_.cell? ⟨gb412, 8, none⟩ = some (.int .i64 0) := (blk_cell nq1_ 8).trans rfl; have hfzq412_8 := blk_frozen nq1_ 8))
    have hq_ := HQ_.out; clear HQ_; subst hq_; refine bodyPost_ret (results_cell_row rfl _ _ gb412 91 #[.string a1, .int .i64 t413, .int .i64 t422, .int .i64 0, .int .i64 0, .int .i64 1, .int .i64 0, .int .i64 (wrap64 (50 + t431)), .int .i64 t434] (0, 0) _ rfl (bmZ BK412 NB412_437) Try.underlying91 rfl Zi) rfl ?_; exact ⟨Zg, (Zbp NB0_412 NB0_437), (Zbq GE412 GE437), (Zbs GW412 GW437)⟩
   ·have H := HS_.out
    clear HS_; rw [if_neg c56] at H; have c56b0 := beq_eq_false_iff_ne.mpr c56; have c56b1 := bne_iff_ne.mpr c56; simp only [Option.some.injEq, Prod.mk.injEq] at H; obtain ⟨rfl, rfl, rfl, rfl, rfl, rfl, rfl, rfl, rfl, rfl, rfl⟩ := H
    go_wp2_with (first | ((with_reducible refine gate_dst (N := 5) rfl ?_); refine boxZ 5 #[.string (⟨#[]⟩ : ByteArray), .int .i64 0, .int .i64 0, .int .i64 0, .int .i64 0, .int .i64 0, .int .i64 0, .int .i64 0, .int .i64 0] 91 ?_; intro gb437 hg w85 hbox hb; replace HO421 := (hbZ HO421 hb); replace HB := (bsZ (Zbk GE412) hb); replace BK437 := am_ (hbox); replace GW437 := am_ (((Zbm GW412) : w.heap.size ≤ gb437)); replace GE437 := am_ ((Nat.le_trans HW0.out ((Zbm GW412) : w.heap.size ≤ gb437) : w0.heap.size ≤ gb437)); replace HK := am_ (KeepBut.trans (Zbl GW412) (KeepBut.of_below hb g none) (.inl rfl)); replace NB412_437 := am_ ((by rw [hg]; exact Nat.ne_of_lt (blk_lt (g := gb412) (b0Z BK412)) : gb412 ≠ gb437)); replace NB437_412 := am_ ((by rw [hg]; exact Nat.ne_of_gt (blk_lt (g := gb412) (b0Z BK412)) : gb437 ≠ gb412)); replace BK412 := (bkZ BK412 hb); replace NB0_437 := am_ (((Zbn NB0_412) : g ≠ gb437)); replace NB437_0 := am_ (((Zbo NB0_412) : gb437 ≠ g)); replace HI0 := am_ (IsS99.below (Zbj NB0_412) hb); clear hb hbox hg; have hnb86 := NB437_412.out; have hnc86 := NB412_437.out; have hnb87 := NB437_0.out; have hnc87 := NB0_437.out; refine ci9 BK437 ?_; intros; have hnb89 := NB412_0.out; have hnc89 := NB0_412.out; refine ci9 BK412 ?_; intros) | ((with_reducible refine gate_dst (N := 42) rfl ?_); refine spec_l03Good.gen (fun wq_ hq_ => ?_); obtain ⟨csq_, nq0_, eq_⟩ : ∃ cs, wq_.heap[gb437]? = some (.cells cs 91 (0, 0)) ∧ cs = #[.string a1, .int .i64 t413, .int .i64 t422, .int .i64 (wrap64 (1000 + t425)), .int .i64 t428, .int .i64 1, .int .i64 0, .int .i64 (wrap64 (50 + t431)), .int .i64 t434] := (by rw [hq_]; (repeat (with_reducible refine spec_l03Good.exs ?_)); exact ⟨_, BK437.out, Zbt⟩); subst eq_; have nq1_ : wq_.heap[gb412]? = some (.cells #[.string (⟨#[]⟩ : ByteArray), .int .i64 0, .int .i64 0, .int .i64 0, .int .i64 0, .int .i64 0, .int .i64 0, .int .i64 0, .int .i64 0] 91 (0, 0)) := (by rw [hq_]; (repeat (refine blk_far ?_ NB412_437.out _)); exact BK412.out); have HQ_ := am_ hq_; clear hq_; have hczq437_0 : wq_.cell? ⟨gb437, 0, none⟩ = some (.string a1) := (blk_cell nq0_ 0).trans rfl; have hfzq437_0 := blk_frozen nq0_ 0; have hczq437_1 : wq_.cell? ⟨gb437, 1, none⟩ = some (.int .i64 t413) := (blk_cell nq0_ 1).trans rfl; have hfzq437_1 := blk_frozen nq0_ 1; have hczq437_2 : wq_.cell? ⟨gb437, 2, none⟩ = some (.int .i64 t422) := (blk_cell nq0_ 2).trans rfl; have hfzq437_2 := blk_frozen nq0_ 2; have hczq437_3 : wq_.cell? ⟨gb437, 3, none⟩ = some (.int .i64 (wrap64 (1000 + t425))) := (blk_cell nq0_ 3).trans rfl; have hfzq437_3 := blk_frozen nq0_ 3; have hczq437_4 : wq_.cell? ⟨gb437, 4, none⟩ = some (.int .i64 t428) := (blk_cell nq0_ 4).trans rfl; have hfzq437_4 := blk_frozen nq0_ 4; have hczq437_5 : wq_.cell? ⟨gb437, 5, none⟩ = some (.int .i64 1) := (blk_cell nq0_ 5).trans rfl; have hfzq437_5 := blk_frozen nq0_ 5; have hczq437_6 : wq_.cell? ⟨gb437, 6, none⟩ = some (.int .i64 0) := (blk_cell nq0_ 6).trans rfl; have hfzq437_6 := blk_frozen nq0_ 6; have hczq437_7 : wq_.cell? ⟨gb437, 7, none⟩ = some (.int .i64 (wrap64 (50 + t431))) := (blk_cell nq0_ 7).trans rfl; have hfzq437_7 := blk_frozen nq0_ 7; have hczq437_8 : wq_.cell? ⟨gb437, 8, none⟩ = some (.int .i64 t434) := (blk_cell nq0_ 8).trans rfl; have hfzq437_8 := blk_frozen nq0_ 8; have hczq412_0 : wq_.cell? ⟨gb412, 0, none⟩ = some (.string (⟨#[]⟩ : ByteArray)) := (blk_cell nq1_ 0).trans rfl; have hfzq412_0 := blk_frozen nq1_ 0; have hczq412_1 : wq_.cell? ⟨gb412, 1, none⟩ = some (.int .i64 0) := (blk_cell nq1_ 1).trans rfl; have hfzq412_1 := blk_frozen nq1_ 1; have hczq412_2 : wq_.cell? ⟨gb412, 2, none⟩ = some (.int .i64 0) := (blk_cell nq1_ 2).trans rfl; have hfzq412_2 := blk_frozen nq1_ 2; have hczq412_3 : wq_.cell? ⟨gb412, 3, none⟩ = some (.int .i64 0) := (blk_cell nq1_ 3).trans rfl; have hfzq412_3 := blk_frozen nq1_ 3; have hczq412_4 : wq_.cell? ⟨gb412, 4, none⟩ = some (.int .i64 0) := (blk_cell nq1_ 4).trans rfl; have hfzq412_4 := blk_frozen nq1_ 4; have hczq412_5 : wq_.cell? ⟨gb412, 5, none⟩ = some (.int .i64 0) := (blk_cell nq1_ 5).trans rfl; have hfzq412_5 := blk_frozen nq1_ 5; have hczq412_6 : wq_.cell? ⟨gb412, 6, none⟩ = some (.int .i64 0) := (blk_cell nq1_ 6).trans rfl; have hfzq412_6 := blk_frozen nq1_ 6; have hczq412_7 : wq_.cell? ⟨gb412, 7, none⟩ = some (.int .i64 0) := (blk_cell nq1_ 7).trans rfl; have hfzq412_7 := blk_frozen nq1_ 7; have hczq412_8 : wq_.cell? ⟨gb412, 8, none⟩ = some (.int .i64 0) := (blk_cell nq1_ 8).trans rfl; have hfzq412_8 := blk_frozen nq1_ 8))
    have hq_ := HQ_.out; clear HQ_; subst hq_; refine bodyPost_ret (results_cell_row rfl _ _ gb412 91 #[.string a1, .int .i64 t413, .int .i64 t422, .int .i64 (wrap64 (1000 + t425)), .int .i64 t428, .int .i64 1, .int .i64 0, .int .i64 (wrap64 (50 + t431)), .int .i64 t434] (0, 0) _ rfl (bmZ BK412 NB412_437) Try.underlying91 rfl Zi) rfl ?_; exact ⟨Zg, (Zbp NB0_412 NB0_437), (Zbq GE412 GE437), (Zbs GW412 GW437)⟩
def spec_l08With.f (l0_0 : List (S87)) (l0_1 : List (S91)) (l0_2 : List (S80)) (l1 : List (S80)) : Option ((List (S87)) × (List (S91)) × (List (S80))) := (some (([] : List (S87)) : List (S87))).bind fun y446 => (if y446.length + l0_0.length < 8796093022208 then ((some (([] : List (S91)) : List (S91))).bind fun y452 => (if y452.length + l0_1.length < 1759218604441 then ((some (([] : List (S80)) : List (S80))).bind fun y458 => (if y458.length + l1.length < 3518437208883 then (some ((y446 ++ l0_0), (y452 ++ l0_1), (y458 ++ l1))) else (none))) else (none))) else (none))
def spec_l08With.T1 : Bool × List (List Nat × List Nat) := (true, [([], []), ([], []), ([1], [1]), ([0, 2], [0, 2]), ([], []), ([], []), ([5], [5]), ([4, 6, 3], [4, 6]), ([], []), ([], []), ([8, 9, 7], [8, 9]), ([3, 7, 10], [3, 7, 10]), ([11, 10, 0, 1, 2, 3, 4, 5, 6, 7, 8, 9, 10, 11], [11])])
def spec_l08With.B1 : List Nat := [0, 0, 2, 7, 0, 0, 32, 127, 0, 0, 1023, 2047, 4095]
theorem spec_l08With.tab1 : rtab .any (opsOf Try.f93 1) = spec_l08With.T1 := by kernel_rfl
theorem spec_l08With.bits1 : waitsOk spec_l08With.T1.2 spec_l08With.B1 = true := by kernel_rfl
theorem spec_l08With.calls (A0_0 : Option Addr) (c0_0 : Nat) (l0_0 : List (S87)) (A0_1 : Option Addr) (c0_1 : Nat) (l0_1 : List (S91)) (A0_2 : Option Addr) (c0_2 : Nat) (l0_2 : List (S80)) (A1 : Option Addr) (c1 : Nat) (l1 : List (S80)) (r1 : List (S87)) (r2 : List (S91)) (r3 : List (S80)) (w : World) (hr0_0 : Kd.C k87 w A0_0 l0_0.length l0_0) (hc0_0 : l0_0.length ≤ c0_0) (hr0_1 : Kd.C k91 w A0_1 l0_1.length l0_1) (hc0_1 : l0_1.length ≤ c0_1) (hr0_2 : Kd.C k80 w A0_2 l0_2.length l0_2) (hc0_2 : l0_2.length ≤ c0_2) (hr1 : Kd.C k80 w A1 l1.length l1) (hc1 : l1.length ≤ c1) (h : spec_l08With.f l0_0 l0_1 l0_2 l1 = some (r1, r2, r3)) :
  Calls Try.prog 93 #[.agg #[.slice A0_0 l0_0.length c0_0, .slice A0_1 l0_1.length c0_1, .slice A0_2 l0_2.length c0_2], .slice A1 l1.length c1] w fun e w' => ∃ v0_ v1_ v2_ : Value, e = .returned (.agg #[v0_, v1_, v2_]) ∧ Kd.R k87 87 w' w.heap.size (fun _ => True) v0_ r1 ∧ Kd.R k91 91 w' w.heap.size (fun _ => True) v1_ r2 ∧ Kd.R k80 80 w' w.heap.size (fun _ => True) v2_ r3 ∧ Below w.heap.size w w' := by
 have hu35 := Try.underlying35; have HR0_0 := am_ hr0_0; have HC0_0 := am_ hc0_0; clear hr0_0 hc0_0; have HR0_1 := am_ hr0_1; have HC0_1 := am_ hc0_1; clear hr0_1 hc0_1; have HR0_2 := am_ hr0_2; have HC0_2 := am_ hc0_2; clear hr0_2 hc0_2; have HR1 := am_ hr1; have HC1 := am_ hc1; clear hr1 hc1; have HB := am_ (Below.refl w.heap.size w); have H : ((some (([] : List (S87)) : List (S87))).bind fun y446 => (if y446.length + l0_0.length < 8796093022208 then ((some (([] : List (S91)) : List (S91))).bind fun y452 => (if y452.length + l0_1.length < 1759218604441 then ((some (([] : List (S80)) : List (S80))).bind fun y458 => (if y458.length + l1.length < 3518437208883 then (some ((y446 ++ l0_0), (y452 ++ l0_1), (y458 ++ l1))) else (none))) else (none))) else (none))) = some (r1, r2, r3) := h; clear h; obtain ⟨y446, hy446⟩ : ∃ y_ : List (S87), y_ = (([] : List (S87))) := ⟨_, rfl⟩
 replace H : (if y446.length + l0_0.length < 8796093022208 then ((some (([] : List (S91)) : List (S91))).bind fun y452 => (if y452.length + l0_1.length < 1759218604441 then ((some (([] : List (S80)) : List (S80))).bind fun y458 => (if y458.length + l1.length < 3518437208883 then (some ((y446 ++ l0_0), (y452 ++ l0_1), (y458 ++ l1))) else (none))) else (none))) else (none)) = some (r1, r2, r3) := by (try rw [hy446]); first | with_reducible exact H | with_reducible exact (Option.bind_some _ _).symm.trans H | exact H
 have Ny446 := am_ hy446; clear hy446
 by_cases c3 : y446.length + l0_0.length < 8796093022208
 ·rw [if_pos c3] at H
  have LMc3 := am_ c3; clear c3; obtain ⟨y449, hy449⟩ : ∃ y_ : List (S87), y_ = (y446 ++ l0_0) := ⟨_, rfl⟩
  (first | (rw [← hy449] at H; with_reducible replace H := bindZ H) | rw [← hy449] at H | skip)
  have Ny449 := am_ hy449; clear hy449; obtain ⟨y452, hy452⟩ : ∃ y_ : List (S91), y_ = (([] : List (S91))) := ⟨_, rfl⟩
  replace H : (if y452.length + l0_1.length < 1759218604441 then ((some (([] : List (S80)) : List (S80))).bind fun y458 => (if y458.length + l1.length < 3518437208883 then (some (y449, (y452 ++ l0_1), (y458 ++ l1))) else (none))) else (none)) = some (r1, r2, r3) := by (try rw [hy452]); first | with_reducible exact H | with_reducible exact (Option.bind_some _ _).symm.trans H | exact H
  have Ny452 := am_ hy452; clear hy452
  by_cases c4 : y452.length + l0_1.length < 1759218604441
  ·rw [if_pos c4] at H
   have LMc4 := am_ c4; clear c4; obtain ⟨y455, hy455⟩ : ∃ y_ : List (S91), y_ = (y452 ++ l0_1) := ⟨_, rfl⟩
   (first | (rw [← hy455] at H; with_reducible replace H := bindZ H) | rw [← hy455] at H | skip)
   have Ny455 := am_ hy455; clear hy455; obtain ⟨y458, hy458⟩ : ∃ y_ : List (S80), y_ = (([] : List (S80))) := ⟨_, rfl⟩
   replace H : (if y458.length + l1.length < 3518437208883 then (some (y449, y455, (y458 ++ l1))) else (none)) = some (r1, r2, r3) := by (try rw [hy458]); first | with_reducible exact H | with_reducible exact (Option.bind_some _ _).symm.trans H | exact H
   have Ny458 := am_ hy458; clear hy458
   by_cases c5 : y458.length + l1.length < 3518437208883
   ·rw [if_pos c5] at H
    have LMc5 := am_ c5; clear c5; obtain ⟨y461, hy461⟩ : ∃ y_ : List (S80), y_ = (y458 ++ l1) := ⟨_, rfl⟩
    (first | (rw [← hy461] at H; with_reducible replace H := bindZ H) | rw [← hy461] at H | skip)
    have Ny461 := am_ hy461; clear hy461; simp only [Option.some.injEq, Prod.mk.injEq] at H; obtain ⟨rfl, rfl, rfl⟩ := H
    go_enter Try.func93, Try.ntmps93
    try go_wp2_with (first | ((with_reducible refine gate_dst (N := 2) rfl ?_); refine boxZ 2 #[.slice A0_0 l0_0.length c0_0, .slice A0_1 l0_1.length c0_1, .slice A0_2 l0_2.length c0_2] 35 ?_; intro gb444 hg w6 hbox hb; replace BK444 := am_ (hbox); replace GW444 := am_ ((Ze : w.heap.size ≤ gb444)); replace GE444 := GW444; replace HB := (bsZ Zf hb); clear hb hbox hg) | ((with_reducible refine gate_dst (N := 4) rfl ?_); refine boxZ 4 #[.slice none 0 0, .slice none 0 0, .slice none 0 0] 35 ?_; intro gb445 hg w7 hbox hb; replace BK445 := am_ (hbox); replace GW445 := am_ (((Zk GE444) : w.heap.size ≤ gb445)); replace GE445 := GW445; replace HB := (bsZ (Zh GE444) hb); replace NB444_445 := am_ ((by rw [hg]; exact Nat.ne_of_lt (blk_lt (g := gb444) (b0Z BK444)) : gb444 ≠ gb445)); replace NB445_444 := am_ ((by rw [hg]; exact Nat.ne_of_gt (blk_lt (g := gb444) (b0Z BK444)) : gb445 ≠ gb444)); replace BK444 := (bkZ BK444 hb); clear hb hbox hg))
    replace BK444 := am_ (blk_drew BK444.out); replace BK445 := am_ (blk_drew BK445.out); replace HB := am_ (below_drew1 HB.out); refine start_ (n := 13) (S := fun w' => w'.cell? ⟨gb444, 0, none⟩ = some (.slice A0_0 l0_0.length c0_0) ∧ w'.cell? ⟨gb444, 1, none⟩ = some (.slice A0_1 l0_1.length c0_1) ∧ w'.cell? ⟨gb444, 2, none⟩ = some (.slice A0_2 l0_2.length c0_2)) (ds := []) (bT 13 0) Zi rfl rfl ⟨(blk_cell BK444.out 0).trans rfl, (blk_cell BK444.out 1).trans rfl, (blk_cell BK444.out 2).trans rfl⟩ (fun hHeld => ?_); refine with_tabW spec_l08With.tab1 spec_l08With.bits1 (fun HT_ HW_ => ?_); generalize w7.drew = w8 at BK444 BK445 HB hHeld ⊢; refine pureZ HT_ 1 (some 6) (bB 13 2) ?_; refine pureZ HT_ 5 (some 10) (bB 13 34) ?_; refine pureZ HT_ 9 (some 14) (bB 13 546) ?_; refine takeZ3 HT_ HW_ 2 (some 7) (bB 13 550) hHeld ?_; refine takeZ3 HT_ HW_ 6 (some 11) (bB 13 614) hHeld ?_; refine join_ (σ := Value × Value × Value × Value × Value) 3 (bT 13 10) (fun s_ => [(5, s_.1), (8, s_.2.1), (9, s_.2.2.1), (12, s_.2.2.2.1), (13, s_.2.2.2.2)]) (fun s_ w' => (w'.cell? ⟨gb444, 0, none⟩ = some (.slice A0_0 l0_0.length c0_0) ∧ w'.cell? ⟨gb444, 1, none⟩ = some (.slice A0_1 l0_1.length c0_1) ∧ w'.cell? ⟨gb444, 2, none⟩ = some (.slice A0_2 l0_2.length c0_2)) ∧ (Kd.R k87 87 w' w.heap.size (fun _ => True) s_.2.1 y449) ∧ (Kd.R k91 91 w' w.heap.size (fun _ => True) s_.2.2.2.1 y455) ∧ (Kd.R k80 80 w' w.heap.size (fun _ => True) s_.2.2.2.2 y458) ∧ (w'.heap[gb444]? = some (.cells #[.slice A0_0 l0_0.length c0_0, .slice A0_1 l0_1.length c0_1, .slice A0_2 l0_2.length c0_2] 35 (0, 0))) ∧ (w'.heap[gb445]? = some (.cells #[.slice none 0 0, .slice none 0 0, .slice none 0 0] 35 (0, 0))) ∧ (Below w.heap.size w w')) ?_ ?_; rotate_left
    ·intro hJ0_3_4_7_8
     refine join_ (σ := Value × Value × Value × Value) 4 (bB 13 767) (fun s_ => [(5, s_.1), (8, s_.2.1), (9, s_.2.2.1), (12, s_.2.2.2)]) (fun s_ w' => (w'.cell? ⟨gb444, 0, none⟩ = some (.slice A0_0 l0_0.length c0_0) ∧ w'.cell? ⟨gb444, 1, none⟩ = some (.slice A0_1 l0_1.length c0_1) ∧ w'.cell? ⟨gb444, 2, none⟩ = some (.slice A0_2 l0_2.length c0_2)) ∧ (Kd.R k87 87 w' w.heap.size (fun _ => True) s_.2.1 y449) ∧ (Kd.R k91 91 w' w.heap.size (fun _ => True) s_.2.2.2 y455) ∧ (w'.heap[gb444]? = some (.cells #[.slice A0_0 l0_0.length c0_0, .slice A0_1 l0_1.length c0_1, .slice A0_2 l0_2.length c0_2] 35 (0, 0))) ∧ (w'.heap[gb445]? = some (.cells #[.slice none 0 0, .slice none 0 0, .slice none 0 0] 35 (0, 0))) ∧ (Below w.heap.size w w')) ?_ ?_; rotate_left
     ·intro hJ0_3_4_7
      refine join_ (σ := Value × Value × Value × Value) 4 (bB 13 895) (fun s_ => [(5, s_.1), (8, s_.2.1), (9, s_.2.2.1), (13, s_.2.2.2)]) (fun s_ w' => (w'.cell? ⟨gb444, 0, none⟩ = some (.slice A0_0 l0_0.length c0_0) ∧ w'.cell? ⟨gb444, 1, none⟩ = some (.slice A0_1 l0_1.length c0_1) ∧ w'.cell? ⟨gb444, 2, none⟩ = some (.slice A0_2 l0_2.length c0_2)) ∧ (Kd.R k87 87 w' w.heap.size (fun _ => True) s_.2.1 y449) ∧ (Kd.R k91 91 w' w.heap.size (fun _ => True) s_.2.2.1 y452) ∧ (Kd.R k80 80 w' w.heap.size (fun _ => True) s_.2.2.2 y458) ∧ (w'.heap[gb444]? = some (.cells #[.slice A0_0 l0_0.length c0_0, .slice A0_1 l0_1.length c0_1, .slice A0_2 l0_2.length c0_2] 35 (0, 0))) ∧ (w'.heap[gb445]? = some (.cells #[.slice none 0 0, .slice none 0 0, .slice none 0 0] 35 (0, 0))) ∧ (Below w.heap.size w w')) ?_ ?_; rotate_left
      ·intro hJ0_3_4_8
       refine join_ (σ := Value × Value × Value) 5 (bB 13 639) (fun s_ => [(5, s_.1), (8, s_.2.1), (9, s_.2.2)]) (fun s_ w' => (w'.cell? ⟨gb444, 0, none⟩ = some (.slice A0_0 l0_0.length c0_0) ∧ w'.cell? ⟨gb444, 1, none⟩ = some (.slice A0_1 l0_1.length c0_1) ∧ w'.cell? ⟨gb444, 2, none⟩ = some (.slice A0_2 l0_2.length c0_2)) ∧ (Kd.R k87 87 w' w.heap.size (fun _ => True) s_.2.1 y449) ∧ (Kd.R k91 91 w' w.heap.size (fun _ => True) s_.2.2 y452) ∧ (w'.heap[gb444]? = some (.cells #[.slice A0_0 l0_0.length c0_0, .slice A0_1 l0_1.length c0_1, .slice A0_2 l0_2.length c0_2] 35 (0, 0))) ∧ (w'.heap[gb445]? = some (.cells #[.slice none 0 0, .slice none 0 0, .slice none 0 0] 35 (0, 0))) ∧ (Below w.heap.size w w')) ?_ ?_; rotate_left
       ·intro hJ0_3_4
        refine join_ (σ := Value × Value × Value) 5 (bB 13 879) (fun s_ => [(5, s_.1), (8, s_.2.1), (13, s_.2.2)]) (fun s_ w' => (w'.cell? ⟨gb444, 0, none⟩ = some (.slice A0_0 l0_0.length c0_0) ∧ w'.cell? ⟨gb444, 1, none⟩ = some (.slice A0_1 l0_1.length c0_1) ∧ w'.cell? ⟨gb444, 2, none⟩ = some (.slice A0_2 l0_2.length c0_2)) ∧ (Kd.R k87 87 w' w.heap.size (fun _ => True) s_.2.1 y449) ∧ (Kd.R k80 80 w' w.heap.size (fun _ => True) s_.2.2 y458) ∧ (w'.heap[gb444]? = some (.cells #[.slice A0_0 l0_0.length c0_0, .slice A0_1 l0_1.length c0_1, .slice A0_2 l0_2.length c0_2] 35 (0, 0))) ∧ (w'.heap[gb445]? = some (.cells #[.slice none 0 0, .slice none 0 0, .slice none 0 0] 35 (0, 0))) ∧ (Below w.heap.size w w')) ?_ ?_; rotate_left
        ·intro hJ0_3_8
         refine join_ (σ := Value × Value × Value) 5 (bB 13 887) (fun s_ => [(5, s_.1), (9, s_.2.1), (13, s_.2.2)]) (fun s_ w' => (w'.cell? ⟨gb444, 0, none⟩ = some (.slice A0_0 l0_0.length c0_0) ∧ w'.cell? ⟨gb444, 1, none⟩ = some (.slice A0_1 l0_1.length c0_1) ∧ w'.cell? ⟨gb444, 2, none⟩ = some (.slice A0_2 l0_2.length c0_2)) ∧ (Kd.R k87 87 w' w.heap.size (fun _ => True) s_.1 y446) ∧ (Kd.R k91 91 w' w.heap.size (fun _ => True) s_.2.1 y452) ∧ (Kd.R k80 80 w' w.heap.size (fun _ => True) s_.2.2 y458) ∧ (w'.heap[gb444]? = some (.cells #[.slice A0_0 l0_0.length c0_0, .slice A0_1 l0_1.length c0_1, .slice A0_2 l0_2.length c0_2] 35 (0, 0))) ∧ (w'.heap[gb445]? = some (.cells #[.slice none 0 0, .slice none 0 0, .slice none 0 0] 35 (0, 0))) ∧ (Below w.heap.size w w')) ?_ ?_; rotate_left
         ·intro hJ0_4_8
          refine join_ (σ := Value × Value) 6 (bB 13 623) (fun s_ => [(5, s_.1), (8, s_.2)]) (fun s_ w' => (w'.cell? ⟨gb444, 0, none⟩ = some (.slice A0_0 l0_0.length c0_0) ∧ w'.cell? ⟨gb444, 1, none⟩ = some (.slice A0_1 l0_1.length c0_1) ∧ w'.cell? ⟨gb444, 2, none⟩ = some (.slice A0_2 l0_2.length c0_2)) ∧ (Kd.R k87 87 w' w.heap.size (fun _ => True) s_.2 y449) ∧ (w'.heap[gb444]? = some (.cells #[.slice A0_0 l0_0.length c0_0, .slice A0_1 l0_1.length c0_1, .slice A0_2 l0_2.length c0_2] 35 (0, 0))) ∧ (w'.heap[gb445]? = some (.cells #[.slice none 0 0, .slice none 0 0, .slice none 0 0] 35 (0, 0))) ∧ (Below w.heap.size w w')) ?_ ?_; rotate_left
          ·intro hJ0_3
           refine join_ (σ := Value × Value) 6 (bB 13 631) (fun s_ => [(5, s_.1), (9, s_.2)]) (fun s_ w' => (w'.cell? ⟨gb444, 0, none⟩ = some (.slice A0_0 l0_0.length c0_0) ∧ w'.cell? ⟨gb444, 1, none⟩ = some (.slice A0_1 l0_1.length c0_1) ∧ w'.cell? ⟨gb444, 2, none⟩ = some (.slice A0_2 l0_2.length c0_2)) ∧ (Kd.R k87 87 w' w.heap.size (fun _ => True) s_.1 y446) ∧ (Kd.R k91 91 w' w.heap.size (fun _ => True) s_.2 y452) ∧ (w'.heap[gb444]? = some (.cells #[.slice A0_0 l0_0.length c0_0, .slice A0_1 l0_1.length c0_1, .slice A0_2 l0_2.length c0_2] 35 (0, 0))) ∧ (w'.heap[gb445]? = some (.cells #[.slice none 0 0, .slice none 0 0, .slice none 0 0] 35 (0, 0))) ∧ (Below w.heap.size w w')) ?_ ?_; rotate_left
           ·intro hJ0_4
            refine join_ (σ := Value × Value) 6 (bB 13 871) (fun s_ => [(5, s_.1), (13, s_.2)]) (fun s_ w' => (w'.cell? ⟨gb444, 0, none⟩ = some (.slice A0_0 l0_0.length c0_0) ∧ w'.cell? ⟨gb444, 1, none⟩ = some (.slice A0_1 l0_1.length c0_1) ∧ w'.cell? ⟨gb444, 2, none⟩ = some (.slice A0_2 l0_2.length c0_2)) ∧ (Kd.R k87 87 w' w.heap.size (fun _ => True) s_.1 y446) ∧ (Kd.R k80 80 w' w.heap.size (fun _ => True) s_.2 y458) ∧ (w'.heap[gb444]? = some (.cells #[.slice A0_0 l0_0.length c0_0, .slice A0_1 l0_1.length c0_1, .slice A0_2 l0_2.length c0_2] 35 (0, 0))) ∧ (w'.heap[gb445]? = some (.cells #[.slice none 0 0, .slice none 0 0, .slice none 0 0] 35 (0, 0))) ∧ (Below w.heap.size w w')) ?_ ?_; rotate_left
            ·intro hJ0_8
             refine join_ (σ := Value × Value) 6 (bB 13 886) (fun s_ => [(9, s_.1), (13, s_.2)]) (fun s_ w' => (w'.cell? ⟨gb444, 0, none⟩ = some (.slice A0_0 l0_0.length c0_0) ∧ w'.cell? ⟨gb444, 1, none⟩ = some (.slice A0_1 l0_1.length c0_1) ∧ w'.cell? ⟨gb444, 2, none⟩ = some (.slice A0_2 l0_2.length c0_2)) ∧ (Kd.R k91 91 w' w.heap.size (fun _ => True) s_.1 y452) ∧ (Kd.R k80 80 w' w.heap.size (fun _ => True) s_.2 y458) ∧ (w'.heap[gb444]? = some (.cells #[.slice A0_0 l0_0.length c0_0, .slice A0_1 l0_1.length c0_1, .slice A0_2 l0_2.length c0_2] 35 (0, 0))) ∧ (w'.heap[gb445]? = some (.cells #[.slice none 0 0, .slice none 0 0, .slice none 0 0] 35 (0, 0))) ∧ (Below w.heap.size w w')) ?_ ?_; rotate_left
             ·intro hJ4_8
              refine join_ (σ := Value) 7 (bB 13 615) (fun s_ => [(5, s_)]) (fun s_ w' => (w'.cell? ⟨gb444, 0, none⟩ = some (.slice A0_0 l0_0.length c0_0) ∧ w'.cell? ⟨gb444, 1, none⟩ = some (.slice A0_1 l0_1.length c0_1) ∧ w'.cell? ⟨gb444, 2, none⟩ = some (.slice A0_2 l0_2.length c0_2)) ∧ (Kd.R k87 87 w' w.heap.size (fun _ => True) s_ y446) ∧ (w'.heap[gb444]? = some (.cells #[.slice A0_0 l0_0.length c0_0, .slice A0_1 l0_1.length c0_1, .slice A0_2 l0_2.length c0_2] 35 (0, 0))) ∧ (w'.heap[gb445]? = some (.cells #[.slice none 0 0, .slice none 0 0, .slice none 0 0] 35 (0, 0))) ∧ (Below w.heap.size w w')) ?_ ?_; rotate_left
              ·intro hJ0
               refine join_ (σ := Value) 7 (bB 13 630) (fun s_ => [(9, s_)]) (fun s_ w' => (w'.cell? ⟨gb444, 0, none⟩ = some (.slice A0_0 l0_0.length c0_0) ∧ w'.cell? ⟨gb444, 1, none⟩ = some (.slice A0_1 l0_1.length c0_1) ∧ w'.cell? ⟨gb444, 2, none⟩ = some (.slice A0_2 l0_2.length c0_2)) ∧ (Kd.R k91 91 w' w.heap.size (fun _ => True) s_ y452) ∧ (w'.heap[gb444]? = some (.cells #[.slice A0_0 l0_0.length c0_0, .slice A0_1 l0_1.length c0_1, .slice A0_2 l0_2.length c0_2] 35 (0, 0))) ∧ (w'.heap[gb445]? = some (.cells #[.slice none 0 0, .slice none 0 0, .slice none 0 0] 35 (0, 0))) ∧ (Below w.heap.size w w')) ?_ ?_; rotate_left
               ·intro hJ4
                refine join_ (σ := Value) 7 (bB 13 870) (fun s_ => [(13, s_)]) (fun s_ w' => (w'.cell? ⟨gb444, 0, none⟩ = some (.slice A0_0 l0_0.length c0_0) ∧ w'.cell? ⟨gb444, 1, none⟩ = some (.slice A0_1 l0_1.length c0_1) ∧ w'.cell? ⟨gb444, 2, none⟩ = some (.slice A0_2 l0_2.length c0_2)) ∧ (Kd.R k80 80 w' w.heap.size (fun _ => True) s_ y458) ∧ (w'.heap[gb444]? = some (.cells #[.slice A0_0 l0_0.length c0_0, .slice A0_1 l0_1.length c0_1, .slice A0_2 l0_2.length c0_2] 35 (0, 0))) ∧ (w'.heap[gb445]? = some (.cells #[.slice none 0 0, .slice none 0 0, .slice none 0 0] 35 (0, 0))) ∧ (Below w.heap.size w w')) ?_ ?_; rotate_left
                ·intro hJ8
                 refine three_ (i := 0) (j := 4) (k := 8) (Ni := some 5) (Nj := some 9) (Nk := some 13) (bB 13 615) (bB 13 630) (bB 13 870) rfl rfl rfl rfl rfl rfl (three_of HT_.out Zi) (by decide) (by decide) (by decide) (fun K hK => ?_) (fun K hK => ?_) (fun K hK => ?_)
                 ·skip
                  refine Kd.R_lit_step k87 _ 87 ?hg (N := 5) ?hd (xs := ([] : List (S87))) (inner := []) (ok := fun _ => True) (okp := fun _ => True) ?hr ?hp (fun _ hk => hk) trivial (Below.refl _ _) (Nat.le_refl _) (by simp) ?_; (case hd => rfl); (case hg => rfl); (case hr => first | (go_simp; done) | (go_simp; rfl)); (case hp => exact (Reps.none _ _)); intro v447 w9 ho10 hb hg_ hnew_; clear hg_ hnew_
                  (first | rw [← Ny446.out] at ho10 | (simp only [Int.reduceToNat] at ho10; rw [← Ny446.out] at ho10))
                  replace HO448 := am_ (Kd.R_lower ho10 (below_size (Zn GE444 GE445))); replace BK444 := (bkZ BK444 hb); replace BK445 := (bkZ BK445 hb); replace HB := (bsZ (Zn GE444 GE445) hb); clear hb ho10; refine hK.out _ _ (Zbu BK444) (fun hHeld => ?_); clear hK K; refine normZ 5 ?_; exact norm_ Zbv (hJ0 (v447) _ ⟨hHeld, (Zr HO448), (b0Z BK444), (b0Z BK445), (Zn GE444 GE445)⟩)
                 ·skip
                  refine Kd.R_lit_step k91 _ 91 ?hg (N := 9) ?hd (xs := ([] : List (S91))) (inner := []) (ok := fun _ => True) (okp := fun _ => True) ?hr ?hp (fun _ hk => hk) trivial (Below.refl _ _) (Nat.le_refl _) (by simp) ?_; (case hd => rfl); (case hg => rfl); (case hr => first | (go_simp; done) | (go_simp; rfl)); (case hp => exact (Reps.none _ _)); intro v453 w9 ho10 hb hg_ hnew_; clear hg_ hnew_
                  (first | rw [← Ny452.out] at ho10 | (simp only [Int.reduceToNat] at ho10; rw [← Ny452.out] at ho10))
                  replace HO454 := am_ (Kd.R_lower ho10 (below_size (Zn GE444 GE445))); replace BK444 := (bkZ BK444 hb); replace BK445 := (bkZ BK445 hb); replace HB := (bsZ (Zn GE444 GE445) hb); clear hb ho10; refine hK.out _ _ (Zbu BK444) (fun hHeld => ?_); clear hK K; refine normZ 9 ?_; exact norm_ Zbv (hJ4 (v453) _ ⟨hHeld, (Zr HO454), (b0Z BK444), (b0Z BK445), (Zn GE444 GE445)⟩)
                 ·skip
                  refine Kd.R_lit_step k80 _ 80 ?hg (N := 13) ?hd (xs := ([] : List (S80))) (inner := []) (ok := fun _ => True) (okp := fun _ => True) ?hr ?hp (fun _ hk => hk) trivial (Below.refl _ _) (Nat.le_refl _) (by simp) ?_; (case hd => rfl); (case hg => rfl); (case hr => first | (go_simp; done) | (go_simp; rfl)); (case hp => exact (Reps.none _ _)); intro v459 w9 ho10 hb hg_ hnew_; clear hg_ hnew_
                  (first | rw [← Ny458.out] at ho10 | (simp only [Int.reduceToNat] at ho10; rw [← Ny458.out] at ho10))
                  replace HO460 := am_ (Kd.R_lower ho10 (below_size (Zn GE444 GE445))); replace BK444 := (bkZ BK444 hb); replace BK445 := (bkZ BK445 hb); replace HB := (bsZ (Zn GE444 GE445) hb); clear hb ho10; refine hK.out _ _ (Zbu BK444) (fun hHeld => ?_); clear hK K; refine normZ 13 ?_; exact norm_ Zbv (hJ8 (v459) _ ⟨hHeld, (Zr HO460), (b0Z BK444), (b0Z BK445), (Zn GE444 GE445)⟩)
                ·skip
                 rintro v459 w11 ⟨hS_, h0_, h1_, h2_, h3_⟩
                 (try dsimp only at hS_ h0_ h1_ h2_ h3_)
                 replace HO460 := am_ h0_; replace BK444 := am_ h1_; replace BK445 := am_ h2_; replace HB := am_ h3_; clear h0_ h1_ h2_ h3_; have hHeld := hS_; refine normP ?_; refine two_ (i := 0) (j := 4) (Ni := some 5) (Nj := some 9) (bB 13 871) (bB 13 886) rfl rfl rfl rfl (two_of HT_.out Zi) (by decide) (by decide) (fun K hK => ?_) (fun K hK => ?_)
                 ·skip
                  refine Kd.R_lit_step k87 _ 87 ?hg (N := 5) ?hd (xs := ([] : List (S87))) (inner := []) (ok := fun _ => True) (okp := fun _ => True) ?hr ?hp (fun _ hk => hk) trivial (Below.refl _ _) (Nat.le_refl _) (by simp) ?_; (case hd => rfl); (case hg => rfl); (case hr => first | (go_simp; done) | (go_simp; rfl)); (case hp => exact (Reps.none _ _)); intro v447 w12 ho13 hb hg_ hnew_; clear hg_ hnew_
                  (first | rw [← Ny446.out] at ho13 | (simp only [Int.reduceToNat] at ho13; rw [← Ny446.out] at ho13))
                  replace HO460 := (hbZ HO460 hb); replace HO448 := am_ (Kd.R_lower ho13 (below_size (Zn GE444 GE445))); replace BK444 := (bkZ BK444 hb); replace BK445 := (bkZ BK445 hb); replace HB := (bsZ (Zn GE444 GE445) hb); clear hb ho13; refine hK.out _ _ (Zbu BK444) (fun hHeld => ?_); clear hK K; refine normZ 5 ?_; exact norm_ Zbv (hJ0_8 (v447, v459) _ ⟨hHeld, (Zr HO448), (Zr HO460), (b0Z BK444), (b0Z BK445), (Zn GE444 GE445)⟩)
                 ·skip
                  refine Kd.R_lit_step k91 _ 91 ?hg (N := 9) ?hd (xs := ([] : List (S91))) (inner := []) (ok := fun _ => True) (okp := fun _ => True) ?hr ?hp (fun _ hk => hk) trivial (Below.refl _ _) (Nat.le_refl _) (by simp) ?_; (case hd => rfl); (case hg => rfl); (case hr => first | (go_simp; done) | (go_simp; rfl)); (case hp => exact (Reps.none _ _)); intro v453 w12 ho13 hb hg_ hnew_; clear hg_ hnew_
                  (first | rw [← Ny452.out] at ho13 | (simp only [Int.reduceToNat] at ho13; rw [← Ny452.out] at ho13))
                  replace HO460 := (hbZ HO460 hb); replace HO454 := am_ (Kd.R_lower ho13 (below_size (Zn GE444 GE445))); replace BK444 := (bkZ BK444 hb); replace BK445 := (bkZ BK445 hb); replace HB := (bsZ (Zn GE444 GE445) hb); clear hb ho13; refine hK.out _ _ (Zbu BK444) (fun hHeld => ?_); clear hK K; refine normZ 9 ?_; exact norm_ Zbv (hJ4_8 (v453, v459) _ ⟨hHeld, (Zr HO454), (Zr HO460), (b0Z BK444), (b0Z BK445), (Zn GE444 GE445)⟩)
               ·skip
                rintro v453 w11 ⟨hS_, h0_, h1_, h2_, h3_⟩
                (try dsimp only at hS_ h0_ h1_ h2_ h3_)
                replace HO454 := am_ h0_; replace BK444 := am_ h1_; replace BK445 := am_ h2_; replace HB := am_ h3_; clear h0_ h1_ h2_ h3_; have hHeld := hS_; refine normP ?_; refine two_ (i := 0) (j := 8) (Ni := some 5) (Nj := some 13) (bB 13 631) (bB 13 886) rfl rfl rfl rfl (two_of HT_.out Zi) (by decide) (by decide) (fun K hK => ?_) (fun K hK => ?_)
                ·skip
                 refine Kd.R_lit_step k87 _ 87 ?hg (N := 5) ?hd (xs := ([] : List (S87))) (inner := []) (ok := fun _ => True) (okp := fun _ => True) ?hr ?hp (fun _ hk => hk) trivial (Below.refl _ _) (Nat.le_refl _) (by simp) ?_; (case hd => rfl); (case hg => rfl); (case hr => first | (go_simp; done) | (go_simp; rfl)); (case hp => exact (Reps.none _ _)); intro v447 w12 ho13 hb hg_ hnew_; clear hg_ hnew_
                 (first | rw [← Ny446.out] at ho13 | (simp only [Int.reduceToNat] at ho13; rw [← Ny446.out] at ho13))
                 replace HO454 := (hbZ HO454 hb); replace HO448 := am_ (Kd.R_lower ho13 (below_size (Zn GE444 GE445))); replace BK444 := (bkZ BK444 hb); replace BK445 := (bkZ BK445 hb); replace HB := (bsZ (Zn GE444 GE445) hb); clear hb ho13; refine hK.out _ _ (Zbu BK444) (fun hHeld => ?_); clear hK K; refine normZ 5 ?_; exact norm_ Zbv (hJ0_4 (v447, v453) _ ⟨hHeld, (Zr HO448), (Zr HO454), (b0Z BK444), (b0Z BK445), (Zn GE444 GE445)⟩)
                ·skip
                 refine Kd.R_lit_step k80 _ 80 ?hg (N := 13) ?hd (xs := ([] : List (S80))) (inner := []) (ok := fun _ => True) (okp := fun _ => True) ?hr ?hp (fun _ hk => hk) trivial (Below.refl _ _) (Nat.le_refl _) (by simp) ?_; (case hd => rfl); (case hg => rfl); (case hr => first | (go_simp; done) | (go_simp; rfl)); (case hp => exact (Reps.none _ _)); intro v459 w12 ho13 hb hg_ hnew_; clear hg_ hnew_
                 (first | rw [← Ny458.out] at ho13 | (simp only [Int.reduceToNat] at ho13; rw [← Ny458.out] at ho13))
                 replace HO454 := (hbZ HO454 hb); replace HO460 := am_ (Kd.R_lower ho13 (below_size (Zn GE444 GE445))); replace BK444 := (bkZ BK444 hb); replace BK445 := (bkZ BK445 hb); replace HB := (bsZ (Zn GE444 GE445) hb); clear hb ho13; refine hK.out _ _ (Zbu BK444) (fun hHeld => ?_); clear hK K; refine normZ 13 ?_; exact norm_ Zbv (hJ4_8 (v453, v459) _ ⟨hHeld, (Zr HO454), (Zr HO460), (b0Z BK444), (b0Z BK445), (Zn GE444 GE445)⟩)
              ·skip
               rintro v447 w11 ⟨hS_, h0_, h1_, h2_, h3_⟩
               (try dsimp only at hS_ h0_ h1_ h2_ h3_)
               replace HO448 := am_ h0_; replace BK444 := am_ h1_; replace BK445 := am_ h2_; replace HB := am_ h3_; clear h0_ h1_ h2_ h3_; have hHeld := hS_; refine normP ?_; refine three_ (i := 3) (j := 4) (k := 8) (Ni := some 8) (Nj := some 9) (Nk := some 13) (bB 13 623) (bB 13 631) (bB 13 871) rfl rfl rfl rfl rfl rfl (three_of HT_.out Zi) (by decide) (by decide) (by decide) (fun K hK => ?_) (fun K hK => ?_) (fun K hK => ?_)
               ·skip
                refine Kd.R_append_rows_step k87 (w0 := w) w.heap.size (by rfl) (.tmp 5) (.tmp 7) 31 87 (.agg #[(.int .i64 0), (.int .i64 0)]) 16 rfl Try.underlying31 info87 rfl (by decide) (by omega) v447 y446 l0_0 _ _ _ (fun _ => True) (fun _ => False) rfl rfl ?aO ?aR (fun _ _ h => h) (fun _ h => h.elim) ?aF ?aB ?aS ?aL ?_
                (case aR => repeat (first | exact (Kd.C_below HR0_0.out HB.out) | (with_reducible refine Kd.C_alloc ?_ _) | (with_reducible refine Kd.C_drewN ?_ _) | (with_reducible refine Kd.C_drew ?_)))
                (case aB => exact (Zn GE444 GE445))
                (case aF => exact (fun _ _ => trivial))
                (case aO => exact (Zr HO448))
                (case aS => exact (below_size (Zn GE444 GE445)))
                (case aL => have := LMc3.out; omega)
                intro v450 w12 ho hb hg hat; rw [← Ny449.out] at ho; replace BK444 := am_ (blk_grown (g := gb444) (b0Z BK444) hg (Kd.R_ne HO448.out BK444.out (by decide))); replace BK445 := am_ (blk_grown (g := gb445) (b0Z BK445) hg (Kd.R_ne HO448.out BK445.out (by decide))); replace HB := am_ (hb); replace HO451 := am_ (ho); clear HO448; clear ho hb hg hat; refine hK.out _ _ (Zbu BK444) (fun hHeld => ?_); clear hK K; refine normZ 8 ?_; exact norm_ Zbv (hJ0_3 (v447, v450) _ ⟨hHeld, (Zr HO451), (b0Z BK444), (b0Z BK445), (Zn GE444 GE445)⟩)
               ·skip
                refine Kd.R_lit_step k91 _ 91 ?hg (N := 9) ?hd (xs := ([] : List (S91))) (inner := []) (ok := fun _ => True) (okp := fun _ => True) ?hr ?hp (fun _ hk => hk) trivial (Below.refl _ _) (Nat.le_refl _) (by simp) ?_; (case hd => rfl); (case hg => rfl); (case hr => first | (go_simp; done) | (go_simp; rfl)); (case hp => exact (Reps.none _ _)); intro v453 w12 ho13 hb hg_ hnew_; clear hg_ hnew_
                (first | rw [← Ny452.out] at ho13 | (simp only [Int.reduceToNat] at ho13; rw [← Ny452.out] at ho13))
                replace HO448 := (hbZ HO448 hb); replace HO454 := am_ (Kd.R_lower ho13 (below_size (Zn GE444 GE445))); replace BK444 := (bkZ BK444 hb); replace BK445 := (bkZ BK445 hb); replace HB := (bsZ (Zn GE444 GE445) hb); clear hb ho13; refine hK.out _ _ (Zbu BK444) (fun hHeld => ?_); clear hK K; refine normZ 9 ?_; exact norm_ Zbv (hJ0_4 (v447, v453) _ ⟨hHeld, (Zr HO448), (Zr HO454), (b0Z BK444), (b0Z BK445), (Zn GE444 GE445)⟩)
               ·skip
                refine Kd.R_lit_step k80 _ 80 ?hg (N := 13) ?hd (xs := ([] : List (S80))) (inner := []) (ok := fun _ => True) (okp := fun _ => True) ?hr ?hp (fun _ hk => hk) trivial (Below.refl _ _) (Nat.le_refl _) (by simp) ?_; (case hd => rfl); (case hg => rfl); (case hr => first | (go_simp; done) | (go_simp; rfl)); (case hp => exact (Reps.none _ _)); intro v459 w12 ho13 hb hg_ hnew_; clear hg_ hnew_
                (first | rw [← Ny458.out] at ho13 | (simp only [Int.reduceToNat] at ho13; rw [← Ny458.out] at ho13))
                replace HO448 := (hbZ HO448 hb); replace HO460 := am_ (Kd.R_lower ho13 (below_size (Zn GE444 GE445))); replace BK444 := (bkZ BK444 hb); replace BK445 := (bkZ BK445 hb); replace HB := (bsZ (Zn GE444 GE445) hb); clear hb ho13; refine hK.out _ _ (Zbu BK444) (fun hHeld => ?_); clear hK K; refine normZ 13 ?_; exact norm_ Zbv (hJ0_8 (v447, v459) _ ⟨hHeld, (Zr HO448), (Zr HO460), (b0Z BK444), (b0Z BK445), (Zn GE444 GE445)⟩)
             ·skip
              rintro ⟨v453, v459⟩ w13 ⟨hS_, h0_, h1_, h2_, h3_, h4_⟩
              (try dsimp only at hS_ h0_ h1_ h2_ h3_ h4_)
              replace HO454 := am_ h0_; replace HO460 := am_ h1_; replace BK444 := am_ h2_; replace BK445 := am_ h3_; replace HB := am_ h4_; clear h0_ h1_ h2_ h3_ h4_; have hHeld := hS_; refine normP ?_; refine one_ (i := 0) (N := some 5) (bB 13 887) rfl rfl (one_of HT_.out Zi) (by decide) (fun K hK => ?_); refine Kd.R_lit_step k87 _ 87 ?hg (N := 5) ?hd (xs := ([] : List (S87))) (inner := []) (ok := fun _ => True) (okp := fun _ => True) ?hr ?hp (fun _ hk => hk) trivial (Below.refl _ _) (Nat.le_refl _) (by simp) ?_; (case hd => rfl); (case hg => rfl); (case hr => first | (go_simp; done) | (go_simp; rfl)); (case hp => exact (Reps.none _ _)); intro v447 w14 ho15 hb hg_ hnew_; clear hg_ hnew_
              (first | rw [← Ny446.out] at ho15 | (simp only [Int.reduceToNat] at ho15; rw [← Ny446.out] at ho15))
              replace HO454 := (hbZ HO454 hb); replace HO460 := (hbZ HO460 hb); replace HO448 := am_ (Kd.R_lower ho15 (below_size (Zn GE444 GE445))); replace BK444 := (bkZ BK444 hb); replace BK445 := (bkZ BK445 hb); replace HB := (bsZ (Zn GE444 GE445) hb); clear hb ho15; refine hK.out _ _ (Zbu BK444) (fun hHeld => ?_); clear hK K; refine normZ 5 ?_; exact norm_ Zbv (hJ0_4_8 (v447, v453, v459) _ ⟨hHeld, (Zr HO448), (Zr HO454), (Zr HO460), (b0Z BK444), (b0Z BK445), (Zn GE444 GE445)⟩)
            ·skip
             rintro ⟨v447, v459⟩ w13 ⟨hS_, h0_, h1_, h2_, h3_, h4_⟩
             (try dsimp only at hS_ h0_ h1_ h2_ h3_ h4_)
             replace HO448 := am_ h0_; replace HO460 := am_ h1_; replace BK444 := am_ h2_; replace BK445 := am_ h3_; replace HB := am_ h4_; clear h0_ h1_ h2_ h3_ h4_; have hHeld := hS_; refine normP ?_; refine two_ (i := 3) (j := 4) (Ni := some 8) (Nj := some 9) (bB 13 879) (bB 13 887) rfl rfl rfl rfl (two_of HT_.out Zi) (by decide) (by decide) (fun K hK => ?_) (fun K hK => ?_)
             ·skip
              refine Kd.R_append_rows_step k87 (w0 := w) w.heap.size (by rfl) (.tmp 5) (.tmp 7) 31 87 (.agg #[(.int .i64 0), (.int .i64 0)]) 16 rfl Try.underlying31 info87 rfl (by decide) (by omega) v447 y446 l0_0 _ _ _ (fun _ => True) (fun _ => False) rfl rfl ?aO ?aR (fun _ _ h => h) (fun _ h => h.elim) ?aF ?aB ?aS ?aL ?_
              (case aR => repeat (first | exact (Kd.C_below HR0_0.out HB.out) | (with_reducible refine Kd.C_alloc ?_ _) | (with_reducible refine Kd.C_drewN ?_ _) | (with_reducible refine Kd.C_drew ?_)))
              (case aB => exact (Zn GE444 GE445))
              (case aF => exact (fun _ _ => trivial))
              (case aO => exact (Zr HO448))
              (case aS => exact (below_size (Zn GE444 GE445)))
              (case aL => have := LMc3.out; omega)
              intro v450 w14 ho hb hg hat; rw [← Ny449.out] at ho; replace BK444 := am_ (blk_grown (g := gb444) (b0Z BK444) hg (Kd.R_ne HO448.out BK444.out (by decide))); replace BK445 := am_ (blk_grown (g := gb445) (b0Z BK445) hg (Kd.R_ne HO448.out BK445.out (by decide))); replace HO460 := am_ (Kd.R_over' (Zr HO460) (Kd.R_typed (Zr HO448)) (by decide) hg); replace HB := am_ (hb); replace HO451 := am_ (ho); clear HO448; clear ho hb hg hat; refine hK.out _ _ (Zbu BK444) (fun hHeld => ?_); clear hK K; refine normZ 8 ?_; exact norm_ Zbv (hJ0_3_8 (v447, v450, v459) _ ⟨hHeld, (Zr HO451), (Zr HO460), (b0Z BK444), (b0Z BK445), (Zn GE444 GE445)⟩)
             ·skip
              refine Kd.R_lit_step k91 _ 91 ?hg (N := 9) ?hd (xs := ([] : List (S91))) (inner := []) (ok := fun _ => True) (okp := fun _ => True) ?hr ?hp (fun _ hk => hk) trivial (Below.refl _ _) (Nat.le_refl _) (by simp) ?_; (case hd => rfl); (case hg => rfl); (case hr => first | (go_simp; done) | (go_simp; rfl)); (case hp => exact (Reps.none _ _)); intro v453 w14 ho15 hb hg_ hnew_; clear hg_ hnew_
              (first | rw [← Ny452.out] at ho15 | (simp only [Int.reduceToNat] at ho15; rw [← Ny452.out] at ho15))
              replace HO448 := (hbZ HO448 hb); replace HO460 := (hbZ HO460 hb); replace HO454 := am_ (Kd.R_lower ho15 (below_size (Zn GE444 GE445))); replace BK444 := (bkZ BK444 hb); replace BK445 := (bkZ BK445 hb); replace HB := (bsZ (Zn GE444 GE445) hb); clear hb ho15; refine hK.out _ _ (Zbu BK444) (fun hHeld => ?_); clear hK K; refine normZ 9 ?_; exact norm_ Zbv (hJ0_4_8 (v447, v453, v459) _ ⟨hHeld, (Zr HO448), (Zr HO454), (Zr HO460), (b0Z BK444), (b0Z BK445), (Zn GE444 GE445)⟩)
           ·skip
            rintro ⟨v447, v453⟩ w13 ⟨hS_, h0_, h1_, h2_, h3_, h4_⟩
            (try dsimp only at hS_ h0_ h1_ h2_ h3_ h4_)
            replace HO448 := am_ h0_; replace HO454 := am_ h1_; replace BK444 := am_ h2_; replace BK445 := am_ h3_; replace HB := am_ h4_; clear h0_ h1_ h2_ h3_ h4_; have hHeld := hS_; refine normP ?_; refine two_ (i := 3) (j := 8) (Ni := some 8) (Nj := some 13) (bB 13 639) (bB 13 887) rfl rfl rfl rfl (two_of HT_.out Zi) (by decide) (by decide) (fun K hK => ?_) (fun K hK => ?_)
            ·skip
             refine Kd.R_append_rows_step k87 (w0 := w) w.heap.size (by rfl) (.tmp 5) (.tmp 7) 31 87 (.agg #[(.int .i64 0), (.int .i64 0)]) 16 rfl Try.underlying31 info87 rfl (by decide) (by omega) v447 y446 l0_0 _ _ _ (fun _ => True) (fun _ => False) rfl rfl ?aO ?aR (fun _ _ h => h) (fun _ h => h.elim) ?aF ?aB ?aS ?aL ?_
             (case aR => repeat (first | exact (Kd.C_below HR0_0.out HB.out) | (with_reducible refine Kd.C_alloc ?_ _) | (with_reducible refine Kd.C_drewN ?_ _) | (with_reducible refine Kd.C_drew ?_)))
             (case aB => exact (Zn GE444 GE445))
             (case aF => exact (fun _ _ => trivial))
             (case aO => exact (Zr HO448))
             (case aS => exact (below_size (Zn GE444 GE445)))
             (case aL => have := LMc3.out; omega)
             intro v450 w14 ho hb hg hat; rw [← Ny449.out] at ho; replace BK444 := am_ (blk_grown (g := gb444) (b0Z BK444) hg (Kd.R_ne HO448.out BK444.out (by decide))); replace BK445 := am_ (blk_grown (g := gb445) (b0Z BK445) hg (Kd.R_ne HO448.out BK445.out (by decide))); replace HO454 := am_ (Kd.R_over' (Zr HO454) (Kd.R_typed (Zr HO448)) (by decide) hg); replace HB := am_ (hb); replace HO451 := am_ (ho); clear HO448; clear ho hb hg hat; refine hK.out _ _ (Zbu BK444) (fun hHeld => ?_); clear hK K; refine normZ 8 ?_; exact norm_ Zbv (hJ0_3_4 (v447, v450, v453) _ ⟨hHeld, (Zr HO451), (Zr HO454), (b0Z BK444), (b0Z BK445), (Zn GE444 GE445)⟩)
            ·skip
             refine Kd.R_lit_step k80 _ 80 ?hg (N := 13) ?hd (xs := ([] : List (S80))) (inner := []) (ok := fun _ => True) (okp := fun _ => True) ?hr ?hp (fun _ hk => hk) trivial (Below.refl _ _) (Nat.le_refl _) (by simp) ?_; (case hd => rfl); (case hg => rfl); (case hr => first | (go_simp; done) | (go_simp; rfl)); (case hp => exact (Reps.none _ _)); intro v459 w14 ho15 hb hg_ hnew_; clear hg_ hnew_
             (first | rw [← Ny458.out] at ho15 | (simp only [Int.reduceToNat] at ho15; rw [← Ny458.out] at ho15))
             replace HO448 := (hbZ HO448 hb); replace HO454 := (hbZ HO454 hb); replace HO460 := am_ (Kd.R_lower ho15 (below_size (Zn GE444 GE445))); replace BK444 := (bkZ BK444 hb); replace BK445 := (bkZ BK445 hb); replace HB := (bsZ (Zn GE444 GE445) hb); clear hb ho15; refine hK.out _ _ (Zbu BK444) (fun hHeld => ?_); clear hK K; refine normZ 13 ?_; exact norm_ Zbv (hJ0_4_8 (v447, v453, v459) _ ⟨hHeld, (Zr HO448), (Zr HO454), (Zr HO460), (b0Z BK444), (b0Z BK445), (Zn GE444 GE445)⟩)
          ·skip
           rintro ⟨v447, v450⟩ w12 ⟨hS_, h0_, h1_, h2_, h3_⟩
           (try dsimp only at hS_ h0_ h1_ h2_ h3_)
           replace HO451 := am_ h0_; replace BK444 := am_ h1_; replace BK445 := am_ h2_; replace HB := am_ h3_; clear h0_ h1_ h2_ h3_; have hHeld := hS_; refine normP ?_; refine two_ (i := 4) (j := 8) (Ni := some 9) (Nj := some 13) (bB 13 639) (bB 13 879) rfl rfl rfl rfl (two_of HT_.out Zi) (by decide) (by decide) (fun K hK => ?_) (fun K hK => ?_)
           ·skip
            refine Kd.R_lit_step k91 _ 91 ?hg (N := 9) ?hd (xs := ([] : List (S91))) (inner := []) (ok := fun _ => True) (okp := fun _ => True) ?hr ?hp (fun _ hk => hk) trivial (Below.refl _ _) (Nat.le_refl _) (by simp) ?_; (case hd => rfl); (case hg => rfl); (case hr => first | (go_simp; done) | (go_simp; rfl)); (case hp => exact (Reps.none _ _)); intro v453 w13 ho14 hb hg_ hnew_; clear hg_ hnew_
            (first | rw [← Ny452.out] at ho14 | (simp only [Int.reduceToNat] at ho14; rw [← Ny452.out] at ho14))
            replace HO451 := (hbZ HO451 hb); replace HO454 := am_ (Kd.R_lower ho14 (below_size (Zn GE444 GE445))); replace BK444 := (bkZ BK444 hb); replace BK445 := (bkZ BK445 hb); replace HB := (bsZ (Zn GE444 GE445) hb); clear hb ho14; refine hK.out _ _ (Zbu BK444) (fun hHeld => ?_); clear hK K; refine normZ 9 ?_; exact norm_ Zbv (hJ0_3_4 (v447, v450, v453) _ ⟨hHeld, (Zr HO451), (Zr HO454), (b0Z BK444), (b0Z BK445), (Zn GE444 GE445)⟩)
           ·skip
            refine Kd.R_lit_step k80 _ 80 ?hg (N := 13) ?hd (xs := ([] : List (S80))) (inner := []) (ok := fun _ => True) (okp := fun _ => True) ?hr ?hp (fun _ hk => hk) trivial (Below.refl _ _) (Nat.le_refl _) (by simp) ?_; (case hd => rfl); (case hg => rfl); (case hr => first | (go_simp; done) | (go_simp; rfl)); (case hp => exact (Reps.none _ _)); intro v459 w13 ho14 hb hg_ hnew_; clear hg_ hnew_
            (first | rw [← Ny458.out] at ho14 | (simp only [Int.reduceToNat] at ho14; rw [← Ny458.out] at ho14))
            replace HO451 := (hbZ HO451 hb); replace HO460 := am_ (Kd.R_lower ho14 (below_size (Zn GE444 GE445))); replace BK444 := (bkZ BK444 hb); replace BK445 := (bkZ BK445 hb); replace HB := (bsZ (Zn GE444 GE445) hb); clear hb ho14; refine hK.out _ _ (Zbu BK444) (fun hHeld => ?_); clear hK K; refine normZ 13 ?_; exact norm_ Zbv (hJ0_3_8 (v447, v450, v459) _ ⟨hHeld, (Zr HO451), (Zr HO460), (b0Z BK444), (b0Z BK445), (Zn GE444 GE445)⟩)
         ·skip
          rintro ⟨v447, v453, v459⟩ w15 ⟨hS_, h0_, h1_, h2_, h3_, h4_, h5_⟩
          (try dsimp only at hS_ h0_ h1_ h2_ h3_ h4_ h5_)
          replace HO448 := am_ h0_; replace HO454 := am_ h1_; replace HO460 := am_ h2_; replace BK444 := am_ h3_; replace BK445 := am_ h4_; replace HB := am_ h5_; clear h0_ h1_ h2_ h3_ h4_ h5_; have hHeld := hS_; refine normP ?_; refine one_ (i := 3) (N := some 8) (bB 13 895) rfl rfl (one_of HT_.out Zi) (by decide) (fun K hK => ?_); refine Kd.R_append_rows_step k87 (w0 := w) w.heap.size (by rfl) (.tmp 5) (.tmp 7) 31 87 (.agg #[(.int .i64 0), (.int .i64 0)]) 16 rfl Try.underlying31 info87 rfl (by decide) (by omega) v447 y446 l0_0 _ _ _ (fun _ => True) (fun _ => False) rfl rfl ?aO ?aR (fun _ _ h => h) (fun _ h => h.elim) ?aF ?aB ?aS ?aL ?_
          (case aR => repeat (first | exact (Kd.C_below HR0_0.out HB.out) | (with_reducible refine Kd.C_alloc ?_ _) | (with_reducible refine Kd.C_drewN ?_ _) | (with_reducible refine Kd.C_drew ?_)))
          (case aB => exact (Zn GE444 GE445))
          (case aF => exact (fun _ _ => trivial))
          (case aO => exact (Zr HO448))
          (case aS => exact (below_size (Zn GE444 GE445)))
          (case aL => have := LMc3.out; omega)
          intro v450 w16 ho hb hg hat; rw [← Ny449.out] at ho; replace BK444 := am_ (blk_grown (g := gb444) (b0Z BK444) hg (Kd.R_ne HO448.out BK444.out (by decide))); replace BK445 := am_ (blk_grown (g := gb445) (b0Z BK445) hg (Kd.R_ne HO448.out BK445.out (by decide))); replace HO454 := am_ (Kd.R_over' (Zr HO454) (Kd.R_typed (Zr HO448)) (by decide) hg); replace HO460 := am_ (Kd.R_over' (Zr HO460) (Kd.R_typed (Zr HO448)) (by decide) hg); replace HB := am_ (hb); replace HO451 := am_ (ho); clear HO448; clear ho hb hg hat; refine hK.out _ _ (Zbu BK444) (fun hHeld => ?_); clear hK K; refine normZ 8 ?_; exact norm_ Zbv (hJ0_3_4_8 (v447, v450, v453, v459) _ ⟨hHeld, (Zr HO451), (Zr HO454), (Zr HO460), (b0Z BK444), (b0Z BK445), (Zn GE444 GE445)⟩)
        ·skip
         rintro ⟨v447, v450, v459⟩ w14 ⟨hS_, h0_, h1_, h2_, h3_, h4_⟩
         (try dsimp only at hS_ h0_ h1_ h2_ h3_ h4_)
         replace HO451 := am_ h0_; replace HO460 := am_ h1_; replace BK444 := am_ h2_; replace BK445 := am_ h3_; replace HB := am_ h4_; clear h0_ h1_ h2_ h3_ h4_; have hHeld := hS_; refine normP ?_; refine one_ (i := 4) (N := some 9) (bB 13 895) rfl rfl (one_of HT_.out Zi) (by decide) (fun K hK => ?_); refine Kd.R_lit_step k91 _ 91 ?hg (N := 9) ?hd (xs := ([] : List (S91))) (inner := []) (ok := fun _ => True) (okp := fun _ => True) ?hr ?hp (fun _ hk => hk) trivial (Below.refl _ _) (Nat.le_refl _) (by simp) ?_; (case hd => rfl); (case hg => rfl); (case hr => first | (go_simp; done) | (go_simp; rfl)); (case hp => exact (Reps.none _ _)); intro v453 w15 ho16 hb hg_ hnew_; clear hg_ hnew_
         (first | rw [← Ny452.out] at ho16 | (simp only [Int.reduceToNat] at ho16; rw [← Ny452.out] at ho16))
         replace HO451 := (hbZ HO451 hb); replace HO460 := (hbZ HO460 hb); replace HO454 := am_ (Kd.R_lower ho16 (below_size (Zn GE444 GE445))); replace BK444 := (bkZ BK444 hb); replace BK445 := (bkZ BK445 hb); replace HB := (bsZ (Zn GE444 GE445) hb); clear hb ho16; refine hK.out _ _ (Zbu BK444) (fun hHeld => ?_); clear hK K; refine normZ 9 ?_; exact norm_ Zbv (hJ0_3_4_8 (v447, v450, v453, v459) _ ⟨hHeld, (Zr HO451), (Zr HO454), (Zr HO460), (b0Z BK444), (b0Z BK445), (Zn GE444 GE445)⟩)
       ·skip
        rintro ⟨v447, v450, v453⟩ w14 ⟨hS_, h0_, h1_, h2_, h3_, h4_⟩
        (try dsimp only at hS_ h0_ h1_ h2_ h3_ h4_)
        replace HO451 := am_ h0_; replace HO454 := am_ h1_; replace BK444 := am_ h2_; replace BK445 := am_ h3_; replace HB := am_ h4_; clear h0_ h1_ h2_ h3_ h4_; have hHeld := hS_; refine normP ?_; refine two_ (i := 7) (j := 8) (Ni := some 12) (Nj := some 13) (bB 13 767) (bB 13 895) rfl rfl rfl rfl (two_of HT_.out Zi) (by decide) (by decide) (fun K hK => ?_) (fun K hK => ?_)
        ·skip
         refine Kd.R_append_rows_step k91 (w0 := w) w.heap.size (by rfl) (.tmp 9) (.tmp 11) 32 91 (.agg #[(.string ⟨#[]⟩), (.int .i64 0), (.int .i64 0), (.int .i64 0), (.int .i64 0), (.int .i64 0), (.int .i64 0), (.int .i64 0), (.int .i64 0)]) 80 rfl Try.underlying32 info91 rfl (by decide) (by omega) v453 y452 l0_1 _ _ _ (fun _ => True) (fun _ => False) rfl rfl ?aO ?aR (fun _ _ h => h) (fun _ h => h.elim) ?aF ?aB ?aS ?aL ?_
         (case aR => repeat (first | exact (Kd.C_below HR0_1.out HB.out) | (with_reducible refine Kd.C_alloc ?_ _) | (with_reducible refine Kd.C_drewN ?_ _) | (with_reducible refine Kd.C_drew ?_)))
         (case aB => exact (Zn GE444 GE445))
         (case aF => exact (fun _ _ => trivial))
         (case aO => exact (Zr HO454))
         (case aS => exact (below_size (Zn GE444 GE445)))
         (case aL => have := LMc4.out; omega)
         intro v456 w15 ho hb hg hat; rw [← Ny455.out] at ho; replace BK444 := am_ (blk_grown (g := gb444) (b0Z BK444) hg (Kd.R_ne HO454.out BK444.out (by decide))); replace BK445 := am_ (blk_grown (g := gb445) (b0Z BK445) hg (Kd.R_ne HO454.out BK445.out (by decide))); replace HO451 := am_ (Kd.R_over' (Zr HO451) (Kd.R_typed (Zr HO454)) (by decide) hg); replace HB := am_ (hb); replace HO457 := am_ (ho); clear HO454; clear ho hb hg hat; refine hK.out _ _ (Zbu BK444) (fun hHeld => ?_); clear hK K; refine normZ 12 ?_; exact norm_ Zbv (hJ0_3_4_7 (v447, v450, v453, v456) _ ⟨hHeld, (Zr HO451), (Zr HO457), (b0Z BK444), (b0Z BK445), (Zn GE444 GE445)⟩)
        ·skip
         refine Kd.R_lit_step k80 _ 80 ?hg (N := 13) ?hd (xs := ([] : List (S80))) (inner := []) (ok := fun _ => True) (okp := fun _ => True) ?hr ?hp (fun _ hk => hk) trivial (Below.refl _ _) (Nat.le_refl _) (by simp) ?_; (case hd => rfl); (case hg => rfl); (case hr => first | (go_simp; done) | (go_simp; rfl)); (case hp => exact (Reps.none _ _)); intro v459 w15 ho16 hb hg_ hnew_; clear hg_ hnew_
         (first | rw [← Ny458.out] at ho16 | (simp only [Int.reduceToNat] at ho16; rw [← Ny458.out] at ho16))
         replace HO451 := (hbZ HO451 hb); replace HO454 := (hbZ HO454 hb); replace HO460 := am_ (Kd.R_lower ho16 (below_size (Zn GE444 GE445))); replace BK444 := (bkZ BK444 hb); replace BK445 := (bkZ BK445 hb); replace HB := (bsZ (Zn GE444 GE445) hb); clear hb ho16; refine hK.out _ _ (Zbu BK444) (fun hHeld => ?_); clear hK K; refine normZ 13 ?_; exact norm_ Zbv (hJ0_3_4_8 (v447, v450, v453, v459) _ ⟨hHeld, (Zr HO451), (Zr HO454), (Zr HO460), (b0Z BK444), (b0Z BK445), (Zn GE444 GE445)⟩)
      ·skip
       rintro ⟨v447, v450, v453, v459⟩ w16 ⟨hS_, h0_, h1_, h2_, h3_, h4_, h5_⟩
       (try dsimp only at hS_ h0_ h1_ h2_ h3_ h4_ h5_)
       replace HO451 := am_ h0_; replace HO454 := am_ h1_; replace HO460 := am_ h2_; replace BK444 := am_ h3_; replace BK445 := am_ h4_; replace HB := am_ h5_; clear h0_ h1_ h2_ h3_ h4_ h5_; have hHeld := hS_; refine normP ?_; refine one_ (i := 7) (N := some 12) (bT 13 10) rfl rfl (one_of HT_.out Zi) (by decide) (fun K hK => ?_); refine Kd.R_append_rows_step k91 (w0 := w) w.heap.size (by rfl) (.tmp 9) (.tmp 11) 32 91 (.agg #[(.string ⟨#[]⟩), (.int .i64 0), (.int .i64 0), (.int .i64 0), (.int .i64 0), (.int .i64 0), (.int .i64 0), (.int .i64 0), (.int .i64 0)]) 80 rfl Try.underlying32 info91 rfl (by decide) (by omega) v453 y452 l0_1 _ _ _ (fun _ => True) (fun _ => False) rfl rfl ?aO ?aR (fun _ _ h => h) (fun _ h => h.elim) ?aF ?aB ?aS ?aL ?_
       (case aR => repeat (first | exact (Kd.C_below HR0_1.out HB.out) | (with_reducible refine Kd.C_alloc ?_ _) | (with_reducible refine Kd.C_drewN ?_ _) | (with_reducible refine Kd.C_drew ?_)))
       (case aB => exact (Zn GE444 GE445))
       (case aF => exact (fun _ _ => trivial))
       (case aO => exact (Zr HO454))
       (case aS => exact (below_size (Zn GE444 GE445)))
       (case aL => have := LMc4.out; omega)
       intro v456 w17 ho hb hg hat; rw [← Ny455.out] at ho; replace BK444 := am_ (blk_grown (g := gb444) (b0Z BK444) hg (Kd.R_ne HO454.out BK444.out (by decide))); replace BK445 := am_ (blk_grown (g := gb445) (b0Z BK445) hg (Kd.R_ne HO454.out BK445.out (by decide))); replace HO451 := am_ (Kd.R_over' (Zr HO451) (Kd.R_typed (Zr HO454)) (by decide) hg); replace HO460 := am_ (Kd.R_over' (Zr HO460) (Kd.R_typed (Zr HO454)) (by decide) hg); replace HB := am_ (hb); replace HO457 := am_ (ho); clear HO454; clear ho hb hg hat; refine hK.out _ _ (Zbu BK444) (fun hHeld => ?_); clear hK K; refine normZ 12 ?_; exact norm_ Zbv (hJ0_3_4_7_8 (v447, v450, v453, v456, v459) _ ⟨hHeld, (Zr HO451), (Zr HO457), (Zr HO460), (b0Z BK444), (b0Z BK445), (Zn GE444 GE445)⟩)
     ·skip
      rintro ⟨v447, v450, v453, v456⟩ w15 ⟨hS_, h0_, h1_, h2_, h3_, h4_⟩
      (try dsimp only at hS_ h0_ h1_ h2_ h3_ h4_)
      replace HO451 := am_ h0_; replace HO457 := am_ h1_; replace BK444 := am_ h2_; replace BK445 := am_ h3_; replace HB := am_ h4_; clear h0_ h1_ h2_ h3_ h4_; have hHeld := hS_; refine normP ?_; refine one_ (i := 8) (N := some 13) (bT 13 10) rfl rfl (one_of HT_.out Zi) (by decide) (fun K hK => ?_); refine Kd.R_lit_step k80 _ 80 ?hg (N := 13) ?hd (xs := ([] : List (S80))) (inner := []) (ok := fun _ => True) (okp := fun _ => True) ?hr ?hp (fun _ hk => hk) trivial (Below.refl _ _) (Nat.le_refl _) (by simp) ?_; (case hd => rfl); (case hg => rfl); (case hr => first | (go_simp; done) | (go_simp; rfl)); (case hp => exact (Reps.none _ _)); intro v459 w16 ho17 hb hg_ hnew_; clear hg_ hnew_
      (first | rw [← Ny458.out] at ho17 | (simp only [Int.reduceToNat] at ho17; rw [← Ny458.out] at ho17))
      replace HO451 := (hbZ HO451 hb); replace HO457 := (hbZ HO457 hb); replace HO460 := am_ (Kd.R_lower ho17 (below_size (Zn GE444 GE445))); replace BK444 := (bkZ BK444 hb); replace BK445 := (bkZ BK445 hb); replace HB := (bsZ (Zn GE444 GE445) hb); clear hb ho17; refine hK.out _ _ (Zbu BK444) (fun hHeld => ?_); clear hK K; refine normZ 13 ?_; exact norm_ Zbv (hJ0_3_4_7_8 (v447, v450, v453, v456, v459) _ ⟨hHeld, (Zr HO451), (Zr HO457), (Zr HO460), (b0Z BK444), (b0Z BK445), (Zn GE444 GE445)⟩)
    rintro ⟨v447, v450, v453, v456, v459⟩ w17 ⟨hS_, h0_, h1_, h2_, h3_, h4_, h5_⟩
    (try dsimp only at hS_ h0_ h1_ h2_ h3_ h4_ h5_)
    replace HO451 := am_ h0_; replace HO457 := am_ h1_; replace HO460 := am_ h2_; replace BK444 := am_ h3_; replace BK445 := am_ h4_; replace HB := am_ h5_; clear h0_ h1_ h2_ h3_ h4_ h5_; have hHeld := hS_; refine normP ?_; refine one_ (i := 10) (N := some 15) (bT 13 11) rfl rfl (one_of HT_.out Zi) (by decide) (fun K hK => ?_); refine Kd.R_append_rows_step k80 (w0 := w) w.heap.size (by rfl) (.tmp 13) (.tmp 14) 33 80 (.agg #[(.int .i64 0), (.int .i64 0), (.string ⟨#[]⟩), (.int .i64 0)]) 40 rfl Try.underlying33 info80 rfl (by decide) (by omega) v459 y458 l1 _ _ _ (fun _ => True) (fun _ => False) rfl rfl ?aO ?aR (fun _ _ h => h) (fun _ h => h.elim) ?aF ?aB ?aS ?aL ?_
    (case aR => repeat (first | exact (Kd.C_below HR1.out HB.out) | (with_reducible refine Kd.C_alloc ?_ _) | (with_reducible refine Kd.C_drewN ?_ _) | (with_reducible refine Kd.C_drew ?_)))
    (case aB => exact (Zn GE444 GE445))
    (case aF => exact (fun _ _ => trivial))
    (case aO => exact (Zr HO460))
    (case aS => exact (below_size (Zn GE444 GE445)))
    (case aL => have := LMc5.out; omega)
    intro v462 w18 ho hb hg hat; rw [← Ny461.out] at ho; replace BK444 := am_ (blk_grown (g := gb444) (b0Z BK444) hg (Kd.R_ne HO460.out BK444.out (by decide))); replace BK445 := am_ (blk_grown (g := gb445) (b0Z BK445) hg (Kd.R_ne HO460.out BK445.out (by decide))); replace HO451 := am_ (Kd.R_over' (Zr HO451) (Kd.R_typed (Zr HO460)) (by decide) hg); replace HO457 := am_ (Kd.R_over' (Zr HO457) (Kd.R_typed (Zr HO460)) (by decide) hg); replace HB := am_ (hb); replace HO463 := am_ (ho); clear HO460; clear ho hb hg hat; obtain ⟨Ao19, co19, eo19⟩ := Kd.R_slice HO463.out
    (first | subst eo19 | (injection eo19 with f1_ f2_ f3_; have f4_ := f1_.symm; have f5_ := f3_.symm; clear f1_ f2_ f3_; subst f4_; subst f5_))
    obtain ⟨Ao20, co20, eo20⟩ := Kd.R_slice HO457.out
    (first | subst eo20 | (injection eo20 with f1_ f2_ f3_; have f4_ := f1_.symm; have f5_ := f3_.symm; clear f1_ f2_ f3_; subst f4_; subst f5_))
    obtain ⟨Ao21, co21, eo21⟩ := Kd.R_slice HO451.out
    (first | subst eo21 | (injection eo21 with f1_ f2_ f3_; have f4_ := f1_.symm; have f5_ := f3_.symm; clear f1_ f2_ f3_; subst f4_; subst f5_))
    refine hK.out _ _ (Zbu BK444) (fun hHeld => ?_); clear hK K; refine normZ 15 ?_; refine pureZ HT_ 11 (some 16) (bT 13 12) ?_; refine one_ (i := 12) (N := none) (bT 13 13) rfl rfl (one_of HT_.out Zi) (by decide) (fun K hK => ?_); have hs22 : w18.cell? ⟨gb445, 0, none⟩ = some (.slice none 0 0) := (blk_cell BK445.out 0).trans rfl; have hfs22 := blk_frozen BK445.out 0; have hns22_0 := NB444_445.out; have hms22_0 := NB445_444.out; have hs23 : w18.cell? ⟨gb445, 1, none⟩ = some (.slice none 0 0) := (blk_cell BK445.out 1).trans rfl; have hfs23 := blk_frozen BK445.out 1; have hns23_0 := NB444_445.out; have hms23_0 := NB445_444.out; have hs24 : w18.cell? ⟨gb445, 2, none⟩ = some (.slice none 0 0) := (blk_cell BK445.out 2).trans rfl; have hfs24 := blk_frozen BK445.out 2; have hns24_0 := NB444_445.out; have hms24_0 := NB445_444.out; refine skip_ (w1 := ?_) (by rfl) rfl ?_ ?_; rotate_left
    ·go_simp
     rfl
    refine hK.out _ _ ⟨(cg1 (hHeld.1) NB444_445), (cg1 (hHeld.2.1) NB444_445), (cg1 (hHeld.2.2) NB444_445)⟩ (fun hHeld => ?_); clear hK K; refine done_ (done_of HT_.out Zi) ?_
    try go_wp2
    refine bodyPost_ret (results_cell_row rfl _ _ gb445 35 #[.slice Ao21 y449.length co21, .slice Ao20 y455.length co20, .slice Ao19 y461.length co19] (0, 0) _ rfl (bpZ BK445) Try.underlying35 rfl Zi) rfl ?_; exact ⟨_, _, _, Zg, (Zbw HO451 BK445), (Zbw HO457 BK445), (Zbw HO463 BK445), (Zn GE444 GE445)⟩
   ·exact nN c5 H
  ·exact nN c4 H
 ·exact nN c3 H
end Go.Proofs.Ytnifblnlpepehaa.F
