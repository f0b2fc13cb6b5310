import Derived.Test.YthhijbdekboahaaJFnCueOrders5
import Derived.Below
import Derived.Deep.Draws
import Derived.Deep.AppendLies
import Derived.Maps.AppendAt
import Derived.OwnWalk
import Derived.Laws.BytesArg
import Derived.Laws.MakeOwn
import Derived.Laws.OwnMore
import Derived.Tactics
import Derived.Lib.ConvBytes
import Derived.Laws.Slices
import Derived.WalkKit
import Derived.KernelRfl
import Derived.RowKit3
import Derived.Deep.LoopGhost
import Derived.Deep.QuietTactic
import Derived.BigQuiet
import Derived.WideLaws
import Derived.Deep.DeepCutAuto
import Derived.Deep.CutBlock
import Derived.Deep.RegionHeld3
import Derived.Lib.AppendStr
import Derived.ArgAppend
import Derived.Laws.IdiomCopy
import Derived.RowKit
import Derived.OrdersHeld
import Derived.Laws.BitsLemmas
import Derived.Laws.StructEq
import Derived.Test.YthhijbdekboahaaProg
import Derived.Laws.Cover1
namespace Go.Proofs.Ythhijbdekboahaa.F
open Go.RowKit Go.Proofs.YthhijbdekboahaaW.PrintWords Go.Proofs.YthhijbdekboahaaW.PrintLast Go.Proofs.YthhijbdekboahaaW.PrintMore
attribute [local go_sem] max2_int min2_int max_two min_two max_three min_three max_four min_four
set_option linter.unusedVariables false
set_option linter.unusedSimpArgs false
mutual
def spec_UnsurePairs.l0 : Nat → List (List Int) → Int → Int → List (S104) → List (S62) → List (S39) → Option ((List (List Int)) × Int)
 | 0, _, _, _, _, _, _ => none
 | k + 1, x4, x5, x6, x1130000, x1130001, x1130002 => if x6 < x5 then (spec_UnsurePairs.l1 k x4 x5 x6 (wrap64 (x6 + 1)) x1130000 x1130001 x1130002) else (some (x4, 0))
def spec_UnsurePairs.l1 : Nat → List (List Int) → Int → Int → Int → List (S104) → List (S62) → List (S39) → Option ((List (List Int)) × Int)
 | 0, _, _, _, _, _, _, _ => none
 | k + 1, x4, x5, x6, x7, x1130000, x1130001, x1130002 => if x7 < x5 then ((spec_l09Before.f k x1130000 x1130001 x1130002 x6 x7).bind fun t1134 => (if t1134 = true then (spec_UnsurePairs.l1 k x4 x5 x6 (wrap64 (x7 + 1)) x1130000 x1130001 x1130002) else ((spec_l09Before.f k x1130000 x1130001 x1130002 x7 x6).bind fun t1135 => (if t1135 = true then (spec_UnsurePairs.l1 k x4 x5 x6 (wrap64 (x7 + 1)) x1130000 x1130001 x1130002) else (if x4.length < 5864062014805 then (spec_UnsurePairs.l1 k (x4 ++ [(([x6, x7] : List Int))]) x5 x6 (wrap64 (x7 + 1)) x1130000 x1130001 x1130002) else (none)))))) else (spec_UnsurePairs.l0 k x4 x5 (wrap64 (x6 + 1)) x1130000 x1130001 x1130002)
end
def spec_UnsurePairs.f (k : Nat) (l0_0 : List (S104)) (l0_1 : List (S62)) (l0_2 : List (S39)) : Option ((List (List Int)) × Int) := (spec_IsShow.f k l0_0 l0_1 l0_2).bind fun t1130 => (if t1130 = true then (spec_UnsurePairs.l0 k (([] : List (List Int))) (l0_2.length : Int) 0 l0_0 l0_1 l0_2) else (some (([] : List (List Int)), 1)))
set_option maxHeartbeats 8000000 in
set_option maxRecDepth 100000 in
theorem spec_UnsurePairs.calls (k : Nat) (A0_0 : Option Addr) (c0_0 : Nat) (l0_0 : List (S104)) (A0_1 : Option Addr) (c0_1 : Nat) (l0_1 : List (S62)) (A0_2 : Option Addr) (c0_2 : Nat) (l0_2 : List (S39)) (r1 : List (List Int)) (r2 : Int) (w : World) (hr0_0 : Kd.C k104 w A0_0 l0_0.length l0_0) (hc0_0 : l0_0.length ≤ c0_0) (hr0_1 : Kd.C k62 w A0_1 l0_1.length l0_1) (hc0_1 : l0_1.length ≤ c0_1) (hr0_2 : Kd.C k39 w A0_2 l0_2.length l0_2) (hc0_2 : l0_2.length ≤ c0_2) (h : spec_UnsurePairs.f k l0_0 l0_1 l0_2 = some (r1, r2)) :
  Calls Try.prog 33 #[.agg #[.slice A0_0 l0_0.length c0_0, .slice A0_1 l0_1.length c0_1, .slice A0_2 l0_2.length c0_2]] w fun e w' => ∃ v0_ : Value, e = .returned (.tuple #[v0_, .int .i64 r2]) ∧ Kd.S (Kd.slice 2 (Kd.int .i64)) 33 w' w.heap.size (fun _ => True) v0_ r1 ∧ Below w.heap.size w w' := by
 have hu28 := Try.underlying28; have HR0_0 := am_ hr0_0; have HC0_0 := am_ hc0_0; clear hr0_0 hc0_0; have HR0_1 := am_ hr0_1; have HC0_1 := am_ hc0_1; clear hr0_1 hc0_1; have HR0_2 := am_ hr0_2; have HC0_2 := am_ hc0_2; clear hr0_2 hc0_2; have HB := am_ (Below.refl w.heap.size w); have H : ((spec_IsShow.f k l0_0 l0_1 l0_2).bind fun t1130 => (if t1130 = true then (spec_UnsurePairs.l0 k (([] : List (List Int))) (l0_2.length : Int) 0 l0_0 l0_1 l0_2) else (some (([] : List (List Int)), 1)))) = some (r1, r2) := h; clear h; replace H := Option.bind_eq_some_iff.mp H; obtain ⟨t1130, A20, H⟩ := H; have A2 := am_ A20; clear A20; have HS_ := am_ H; clear H
 go_enter Try.func33, Try.ntmps33
 go_wp2_with (first | ((with_reducible refine gate_dst (N := 1) rfl ?_); refine boxZ 1 #[.slice A0_0 l0_0.length c0_0, .slice A0_1 l0_1.length c0_1, .slice A0_2 l0_2.length c0_2] 28 ?_; intro gb1129 hg w4 hbox hb; replace BK1129 := am_ (hbox); replace GW1129 := am_ ((Zp : w.heap.size ≤ gb1129)); replace GE1129 := GW1129; replace HB := (bsZ Zc hb); clear hb hbox hg; refine ci3 BK1129 ?_; intros) | ((with_reducible refine gate_callee (f := 56) rfl ?_); refine gZ 9 Try.func56 #[.agg #[.slice A0_0 l0_0.length c0_0, .slice A0_1 l0_1.length c0_1, .slice A0_2 l0_2.length c0_2]] ?_; (with_reducible refine (spec_IsShow.calls k _ _ l0_0 _ _ l0_1 _ _ l0_2 t1130 _ ?_ ?_ ?_ ?_ ?_ ?_ A2.out).mono ?_); exact (Zs HR0_0); exact HC0_0.out; exact (Zs HR0_1); exact HC0_1.out; exact (Zs HR0_2); exact HC0_2.out; rintro e w6 ⟨rfl, hb⟩; refine ⟨_, rfl, ?_⟩; replace BK1129 := (bkZ BK1129 hb); replace HB := (bsZ (Ze GE1129) hb); clear hb; refine ?roundEnd))
 case roundEnd =>
  by_cases c3 : t1130 = true
  ·have H := HS_.out
   clear HS_; subst c3
   have H1 : (spec_UnsurePairs.l0 k (([] : List (List Int))) (l0_2.length : Int) 0 l0_0 l0_1 l0_2) = some (r1, r2) := by rw [if_pos rfl] at H; exact H
   clear H; have H := H1; clear H1; obtain ⟨y1131, hy1131⟩ : ∃ y_ : List (List Int), y_ = (([] : List (List Int))) := ⟨_, rfl⟩
   replace H : (spec_UnsurePairs.l0 k y1131 (l0_2.length : Int) 0 l0_0 l0_1 l0_2) = some (r1, r2) := by (try rw [hy1131]); first | with_reducible exact H | with_reducible exact (Option.bind_some _ _).symm.trans H | exact H
   have Ny1131 := am_ hy1131; clear hy1131; have H' := am_ H; clear H
   go_wp2_with (first | ((with_reducible refine gate_dst (N := 11) rfl ?_); refine Kd.S_lit (Kd.slice 2 (Kd.int .i64)) _ 33 ?hg (N := 11) ?hd (xs := ([] : List (List Int))) (inner := []) (ok := fun _ => True) (okp := fun _ => True) ?hr ?hp (fun _ hk => hk) trivial (Below.refl _ _) (Nat.le_refl _) (by simp) ?_; (case hd => rfl); (case hg => rfl); (case hr => first | (go_simp; done) | (go_simp; rfl)); (case hp => exact (Reps.none _ _)); intro v1132 w7 ho8 hb hg_ hnew_; clear hg_ hnew_; (first | rw [← Ny1131.out] at ho8 | (simp only [Int.reduceToNat] at ho8; rw [← Ny1131.out] at ho8)); replace HO1133 := am_ (Kd.S_lower ho8 (below_size (Ze GE1129))); replace BK1129 := (bkZ BK1129 hb); replace HB := (bsZ (Ze GE1129) hb); clear hb ho8; refine ci3 BK1129 ?_; intros))
   go_loopg [4, 6] k (fun kq v4 v6 w' => ∃ (x4_1 : List (List Int)) (x6_1 : Int), v6 = .int .i64 x6_1 ∧ Aside0 (spec_UnsurePairs.l0 kq x4_1 (l0_2.length : Int) x6_1 l0_0 l0_1 l0_2 = some (r1, r2)) ∧ Aside0 (kq ≤ k) ∧ Aside0 (Kd.S (Kd.slice 2 (Kd.int .i64)) 33 w' w.heap.size (fun _ => True) v4 x4_1) ∧ Aside0 (w'.heap[gb1129]? = some (.cells #[(.slice A0_0 l0_0.length c0_0), (.slice A0_1 l0_1.length c0_1), (.slice A0_2 l0_2.length c0_2)] 28 (0, 0))) ∧ Aside0 (Below w.heap.size w w'))
   case atStart => exact ⟨(y1131), (0), Za, H', ⟨Nat.le_refl _⟩, ⟨(Zcq HO1133)⟩, ⟨(Zd BK1129)⟩, ⟨(Ze GE1129)⟩⟩
   case round =>
    clear H'
    try clear p2
    try clear c3
    try clear c5
    obtain ⟨x4_1, x6_1, rfl, HA, HK1, HO_4, BK1129, HB⟩ := hrel
    cases gk with
    | zero => exact absurd HA.out (by simp [spec_UnsurePairs.l0])
    | succ k1 =>
     have H := HA.out; clear HA; simp only [spec_UnsurePairs.l0] at H
     by_cases c10 : x6_1 < (l0_2.length : Int)
     ·rw [if_pos c10] at H
      have c10b0 := decide_eq_true c10; clear c10; have H' := am_ H; clear H
      go_wp2
      go_loopg [4, 7] k1 (fun kq v4 v7 w' => ∃ (x4_2 : List (List Int)) (x7_2 : Int), v7 = .int .i64 x7_2 ∧ Aside0 (spec_UnsurePairs.l1 kq x4_2 (l0_2.length : Int) x6_1 x7_2 l0_0 l0_1 l0_2 = some (r1, r2)) ∧ Aside0 (kq ≤ k1) ∧ Aside0 (Kd.S (Kd.slice 2 (Kd.int .i64)) 33 w' w.heap.size (fun _ => True) v4 x4_2) ∧ Aside0 (w'.heap[gb1129]? = some (.cells #[(.slice A0_0 l0_0.length c0_0), (.slice A0_1 l0_1.length c0_1), (.slice A0_2 l0_2.length c0_2)] 28 (0, 0))) ∧ Aside0 (Below w.heap.size w w'))
      case atStart => exact ⟨(x4_1), (wrap64 (x6_1 + 1)), Za, H', ⟨Nat.le_refl _⟩, ⟨(Zcq HO_4)⟩, ⟨(Zd BK1129)⟩, ⟨(Ze GE1129)⟩⟩
      case round =>
       clear H'
       try clear c1
       try clear p2
       try clear c3
       try clear c5
       try clear p6
       try clear c10
       try clear c10b0
       try clear p2
       obtain ⟨x4_2, x7_2, rfl, HA, HK2, HO_4, BK1129, HB⟩ := hrel
       cases gk with
       | zero => exact absurd HA.out (by simp [spec_UnsurePairs.l1])
       | succ k2 =>
        have H := HA.out; clear HA; simp only [spec_UnsurePairs.l1] at H
        by_cases c11 : x7_2 < (l0_2.length : Int)
        ·rw [if_pos c11] at H
         have c11b0 := decide_eq_true c11; clear c11; replace H := Option.bind_eq_some_iff.mp H; obtain ⟨t1134, A120, H⟩ := H; have A12 := am_ A120; clear A120; have HS_ := am_ H; clear H; refine ci3 BK1129 ?_; intros
         go_wp2_with (first | ((with_reducible refine gate_callee (f := 74) rfl ?_); refine gZ 30 Try.func74 #[.agg #[.slice A0_0 l0_0.length c0_0, .slice A0_1 l0_1.length c0_1, .slice A0_2 l0_2.length c0_2], .int .i64 x6_1, .int .i64 x7_2] ?_; (with_reducible refine (spec_l09Before.calls k2 _ _ l0_0 _ _ l0_1 _ _ l0_2 x6_1 x7_2 t1134 _ ?_ ?_ ?_ ?_ ?_ ?_ A12.out).mono ?_); exact (Zs HR0_0); exact HC0_0.out; exact (Zs HR0_1); exact HC0_1.out; exact (Zs HR0_2); exact HC0_2.out; rintro e w15 ⟨rfl, hb⟩; refine ⟨_, rfl, ?_⟩; replace HO_4 := am_ (Kd.S_below (Zcq HO_4) hb); replace BK1129 := (bkZ BK1129 hb); replace HB := (bsZ (Ze GE1129) hb); clear hb; refine ?roundEnd))
         case roundEnd =>
          by_cases c13 : t1134 = true
          ·have H := HS_.out
           clear HS_; subst c13
           have H1 : (spec_UnsurePairs.l1 k2 x4_2 (l0_2.length : Int) x6_1 (wrap64 (x7_2 + 1)) l0_0 l0_1 l0_2) = some (r1, r2) := by rw [if_pos rfl] at H; exact H
           clear H; have H := H1; clear H1; have H' := am_ H; clear H
           go_wp2_with (first | fail)
           go_roundg k2
           case measure => have := HK1.out; have := HK2.out; omega
           case rel => exact ⟨(x4_2), (wrap64 (x7_2 + 1)), Za, H', ⟨Zcc⟩, ⟨(Zcq HO_4)⟩, ⟨(Zd BK1129)⟩, ⟨(Ze GE1129)⟩⟩
          ·have H := HS_.out
           clear HS_; replace c13 := Bool.eq_false_iff.mpr c13; subst c13
           have H1 : ((spec_l09Before.f k2 l0_0 l0_1 l0_2 x7_2 x6_1).bind fun t1135 => (if t1135 = true then (spec_UnsurePairs.l1 k2 x4_2 (l0_2.length : Int) x6_1 (wrap64 (x7_2 + 1)) l0_0 l0_1 l0_2) else (if x4_2.length < 5864062014805 then (spec_UnsurePairs.l1 k2 (x4_2 ++ [(([x6_1, x7_2] : List Int))]) (l0_2.length : Int) x6_1 (wrap64 (x7_2 + 1)) l0_0 l0_1 l0_2) else (none)))) = some (r1, r2) := by rw [if_neg (show ¬ (false = true) by decide)] at H; exact H
           clear H; have H := H1; clear H1; replace H := Option.bind_eq_some_iff.mp H; obtain ⟨t1135, A160, H⟩ := H; have A16 := am_ A160; clear A160; have HS_ := am_ H; clear H; refine ci3 BK1129 ?_; intros
           go_wp2_with (first | (go_at_call 74; (with_reducible refine (spec_l09Before.calls k2 _ _ l0_0 _ _ l0_1 _ _ l0_2 x7_2 x6_1 t1135 _ ?_ ?_ ?_ ?_ ?_ ?_ A16.out).mono ?_); exact (Zs HR0_0); exact HC0_0.out; exact (Zs HR0_1); exact HC0_1.out; exact (Zs HR0_2); exact HC0_2.out; rintro e w21 ⟨rfl, hb⟩; replace HO_4 := am_ (Kd.S_below (Zcq HO_4) hb); replace BK1129 := (bkZ BK1129 hb); replace HB := (bsZ (Ze GE1129) hb); clear hb; refine ?roundEnd))
           case roundEnd =>
            by_cases c17 : t1135 = true
            ·have H := HS_.out
             clear HS_; subst c17
             have H1 : (spec_UnsurePairs.l1 k2 x4_2 (l0_2.length : Int) x6_1 (wrap64 (x7_2 + 1)) l0_0 l0_1 l0_2) = some (r1, r2) := by rw [if_pos rfl] at H; exact H
             clear H; have H := H1; clear H1; have H' := am_ H; clear H
             go_wp2_with (first | fail)
             go_roundg k2
             case measure => have := HK1.out; have := HK2.out; omega
             case rel => exact ⟨(x4_2), (wrap64 (x7_2 + 1)), Za, H', ⟨Zcc⟩, ⟨(Zcq HO_4)⟩, ⟨(Zd BK1129)⟩, ⟨(Ze GE1129)⟩⟩
            ·have H := HS_.out
             clear HS_; replace c17 := Bool.eq_false_iff.mpr c17; subst c17
             have H1 : (if x4_2.length < 5864062014805 then (spec_UnsurePairs.l1 k2 (x4_2 ++ [(([x6_1, x7_2] : List Int))]) (l0_2.length : Int) x6_1 (wrap64 (x7_2 + 1)) l0_0 l0_1 l0_2) else (none)) = some (r1, r2) := by rw [if_neg (show ¬ (false = true) by decide)] at H; exact H
             clear H; have H := H1; clear H1; obtain ⟨y1136, hy1136⟩ : ∃ y_ : List Int, y_ = (([x6_1, x7_2] : List Int)) := ⟨_, rfl⟩
             (first | (rw [← hy1136] at H; with_reducible replace H := bindZ H) | rw [← hy1136] at H)
             have Ny1136 := am_ hy1136; clear hy1136
             by_cases c22 : x4_2.length < 5864062014805
             ·rw [if_pos c22] at H
              have LMc22 := am_ c22; clear c22; obtain ⟨y1139, hy1139⟩ : ∃ y_ : List (List Int), y_ = (x4_2 ++ [y1136]) := ⟨_, rfl⟩
              (first | (rw [← hy1139] at H; with_reducible replace H := bindZ H) | rw [← hy1139] at H)
              have Ny1139 := am_ hy1139; clear hy1139; have H' := am_ H; clear H
              go_wp2_with (first | ((with_reducible refine gate_dst (N := 42) rfl ?_); refine Kd.R_lit (Kd.int .i64) _ 2 ?hg (N := 42) ?hd (xs := ([x6_1, x7_2] : List Int)) (inner := [.int .i64 x6_1, .int .i64 x7_2]) (ok := fun _ => True) (okp := fun _ => True) ?hr ?hp (fun _ hk => hk) trivial (Below.refl _ _) (Nat.le_refl _) (by simp) ?_; (case hd => rfl); (case hg => rfl); (case hr => first | (go_simp; done) | (go_simp; rfl)); (case hp => exact (Reps.one (show Kd.M (Kd.int .i64) _ _ _ x6_1 [.int .i64 x6_1] from rfl) (Reps.one (show Kd.M (Kd.int .i64) _ _ _ x7_2 [.int .i64 x7_2] from rfl) (Reps.none _ _)))); intro v1137 w27 ho28 hb hg_ hnew_; clear hg_ hnew_; (first | rw [← Ny1136.out] at ho28 | (simp only [Int.reduceToNat] at ho28; rw [← Ny1136.out] at ho28)); replace HO_4 := am_ (Kd.S_elder' (Zcq HO_4) (Kd.R_base ho28) hb); replace HO1138 := am_ (Kd.R_lower ho28 (below_size (Ze GE1129))); replace BK1129 := (bkZ BK1129 hb); replace HB := (bsZ (Ze GE1129) hb); clear hb ho28; obtain ⟨Ao30, co30, eo30⟩ := Kd.R_slice HO1138.out; subst eo30) | ((with_reducible refine gate_builtin (b := .append) (xs := #[.tmp 39, .tmp 43]) rfl ?_); at_builtin; refine Kd.S_append (Kd.slice 2 (Kd.int .i64)) (w0 := w) w.heap.size rfl (.tmp 39) (.tmp 43) 51 33 (.slice none 0 0) 24 rfl Try.underlying51 info33 rfl (by decide) (by omega) u4 x4_2 y1136 [.slice Ao30 y1136.length co30] (fun _ => True) (fun k_ => some k_ = (.slice Ao30 y1136.length co30 : Value).ownBlock) rfl rfl ?aP (fun k_ hk_ => ((Kd.R_mono (ok' := fun k_ => ((fun _ => True)) k_ ∧ some k_ ≠ (u4 : Value).ownBlock) (Kd.R_apart' (HO1138.out) (Kd.S_typed HO_4.out) (by decide)) (fun k_ hk => ⟨trivial, hk.2⟩))).1 k_ hk_.symm) ?aF ?aO ?aB ?aS ?aL ?_; (case aP => exact Kd.M_row (Kd.R_mono (Kd.R_tight rfl (Kd.R_mono (ok' := fun k_ => ((fun _ => True)) k_ ∧ some k_ ≠ (u4 : Value).ownBlock) (Kd.R_apart' (HO1138.out) (Kd.S_typed HO_4.out) (by decide)) (fun k_ hk => ⟨trivial, hk.2⟩))) (fun _ h_ => h_))); (case aB => exact (Ze GE1129)); (case aF => exact (fun _ _ => trivial)); (case aO => exact (Zcr HO_4)); (case aS => exact (below_size (Ze GE1129))); (case aL => have := LMc22.out; omega); intro v1140 w29 ho hb hg hat; rw [← Ny1139.out] at ho; replace BK1129 := am_ (blk_grown (g := gb1129) (b0Z BK1129) hg (Kd.S_ne HO_4.out BK1129.out (by decide))); replace HB := am_ (hb); replace HO1141 := am_ (ho); clear HO_4 HO1138; clear ho hb hg hat))
              go_roundg k2
              case measure => have := HK1.out; have := HK2.out; omega
              case rel => exact ⟨(y1139), (wrap64 (x7_2 + 1)), Za, H', ⟨Zcc⟩, ⟨(Zcq HO1141)⟩, ⟨(Zd BK1129)⟩, ⟨(Ze GE1129)⟩⟩
             ·rw [if_neg c22] at H
              exact absurd H (by simp)
        ·rw [if_neg c11] at H
         have c11b0 := decide_eq_false c11; clear c11; have H' := am_ H; clear H
         go_wp2
         go_roundg k2
         case measure => have := HK1.out; have := HK2.out; omega
         case rel => exact ⟨(x4_2), (wrap64 (x6_1 + 1)), Za, H', ⟨Zcc⟩, ⟨(Zcq HO_4)⟩, ⟨(Zd BK1129)⟩, ⟨(Ze GE1129)⟩⟩
     ·rw [if_neg c10] at H
      have c10b0 := decide_eq_false c10; clear c10; simp only [Option.some.injEq, Prod.mk.injEq] at H; obtain ⟨rfl, rfl⟩ := H
      go_wp2
      go_ret2
      exact ⟨_, Zj, (Zcq HO_4), (Ze GE1129)⟩
  ·have H := HS_.out
   clear HS_; replace c3 := Bool.eq_false_iff.mpr c3; subst c3
   have H1 : (some (([] : List (List Int)), 1)) = some (r1, r2) := by rw [if_neg (show ¬ (false = true) by decide)] at H; exact H
   clear H; have H := H1; clear H1; simp only [Option.some.injEq, Prod.mk.injEq] at H; obtain ⟨rfl, rfl⟩ := H
   go_wp2_with (first | fail)
   go_ret2
   exact ⟨_, Zj, Zcp, (Ze GE1129)⟩
def laws_likeInts.l0 : Nat → List Int → List Int → Int → Option (Bool)
 | 0, _, _, _ => none
 | k + 1, x0, x1, x5 => if x5 < (x0.length : Int) then (if 0 ≤ x5 then (if x5 < (x1.length : Int) then (if (rd x0 x5) = (rd x1 x5) then (laws_likeInts.l0 k x0 x1 (wrap64 (x5 + 1))) else (some false)) else (none)) else (none)) else (some true)
def laws_likeInts.f (k : Nat) (l0 : List Int) (l1 : List Int) : Option (Bool) := if (l0.length : Int) = (l1.length : Int) then (laws_likeInts.l0 k l0 l1 0) else (some false)
set_option maxHeartbeats 8000000 in
set_option maxRecDepth 100000 in
theorem laws_likeInts.calls (k : Nat) (A0 : Option Addr) (c0 : Nat) (l0 : List Int) (A1 : Option Addr) (c1 : Nat) (l1 : List Int) (r : Bool) (w : World) (hr0 : Kd.C (Kd.int .i64) w A0 l0.length l0) (hc0 : l0.length ≤ c0) (hr1 : Kd.C (Kd.int .i64) w A1 l1.length l1) (hc1 : l1.length ≤ c1) (h : laws_likeInts.f k l0 l1 = some r) :
  Calls Try.prog 14 #[.slice A0 l0.length c0, .slice A1 l1.length c1] w fun e w' => e = .returned (.bool r) ∧ Drawn0 w w' := by
 have HR0 := am_ hr0; have HC0 := am_ hc0; clear hr0 hc0; have HR1 := am_ hr1; have HC1 := am_ hc1; clear hr1 hc1; have H : (if (l0.length : Int) = (l1.length : Int) then (laws_likeInts.l0 k l0 l1 0) else (some false)) = some r := h; clear h
 by_cases c3 : (l0.length : Int) = (l1.length : Int)
 ·rw [if_pos c3] at H
  have c3b0 := beq_iff_eq.mpr c3; have c3b1 := bne_eq_false_iff_eq.mpr c3
  have c3b2 : (l0.length == l1.length) = true := by first | simpa using c3 | (simp at c3 ⊢; omega)
  clear c3; have H' := am_ H; clear H
  go_enter Try.func14, Try.ntmps14
  go_wp2
  repeat (go_quiet (fail); try go_wp2)
  go_loopg [5] k (fun kq v5 w' => ∃ (x5_1 : Int), v5 = .int .i64 x5_1 ∧ Aside0 (laws_likeInts.l0 kq l0 l1 x5_1 = some r) ∧ Aside0 (kq ≤ k) ∧ Drawn0 w w')
  case atStart => exact ⟨(0), Za, H', ⟨Nat.le_refl _⟩, Zb⟩
  case round =>
   clear H'
   try clear c1
   try clear p2
   try clear c3
   try clear c3b0
   try clear c3b1
   try clear c3b2
   obtain ⟨x5_1, rfl, HA, HK1, ⟨m1, rfl⟩⟩ := hrel
   cases gk with
   | zero => exact absurd HA.out (by simp [laws_likeInts.l0])
   | succ k1 =>
    have H := HA.out; clear HA; simp only [laws_likeInts.l0] at H
    by_cases c4 : x5_1 < (l0.length : Int)
    ·rw [if_pos c4] at H
     have c4b0 := decide_eq_true c4; clear c4
     by_cases c5 : 0 ≤ x5_1
     ·rw [if_pos c5] at H
      have c5b0 := decide_eq_true c5; clear c5
      by_cases c6 : x5_1 < (l1.length : Int)
      ·rw [if_pos c6] at H
       have c6b0 := decide_eq_true c6; clear c6
       by_cases c7 : (rd l0 x5_1) = (rd l1 x5_1)
       ·rw [if_pos c7] at H
        have c7b0 := beq_iff_eq.mpr c7; have c7b1 := bne_eq_false_iff_eq.mpr c7; clear c7; have H' := am_ H; clear H; have p653 : 0 ≤ (x5_1 : Int) := of_decide_eq_true Zg; have q653 : x5_1 < (l0.length : Int) := of_decide_eq_true Zg; obtain ⟨ad653, e653, hx653_0⟩ := Kd.at_int HR0.out x5_1 p653 q653
        cases e653
        replace p653 := eq_true p653; replace q653 := eq_true q653; have p654 : 0 ≤ (x5_1 : Int) := of_decide_eq_true Zg; have q654 : x5_1 < (l1.length : Int) := of_decide_eq_true Zg; obtain ⟨ad654, e654, hx654_0⟩ := Kd.at_int HR1.out x5_1 p654 q654
        cases e654
        replace p654 := eq_true p654; replace q654 := eq_true q654
        go_wp2
        repeat (go_quiet (fail); try go_wp2)
        go_roundg k1
        case measure => have := HK1.out; omega
        case rel => exact ⟨(wrap64 (x5_1 + 1)), Za, H', ⟨Zi⟩, Zb⟩
       ·rw [if_neg c7] at H
        have c7b0 := beq_eq_false_iff_ne.mpr c7; have c7b1 := bne_iff_ne.mpr c7; obtain rfl := Option.some.inj H; have p653 : 0 ≤ (x5_1 : Int) := of_decide_eq_true Zg; have q653 : x5_1 < (l0.length : Int) := of_decide_eq_true Zg; obtain ⟨ad653, e653, hx653_0⟩ := Kd.at_int HR0.out x5_1 p653 q653
        cases e653
        replace p653 := eq_true p653; replace q653 := eq_true q653; have p654 : 0 ≤ (x5_1 : Int) := of_decide_eq_true Zg; have q654 : x5_1 < (l1.length : Int) := of_decide_eq_true Zg; obtain ⟨ad654, e654, hx654_0⟩ := Kd.at_int HR1.out x5_1 p654 q654
        cases e654
        replace p654 := eq_true p654; replace q654 := eq_true q654
        go_wp2
        repeat (go_quiet (fail); try go_wp2)
        go_ret
        exact ⟨Za, Zb⟩
      ·rw [if_neg c6] at H
       exact absurd H (by simp)
     ·rw [if_neg c5] at H
      exact absurd H (by simp)
    ·rw [if_neg c4] at H
     have c4b0 := decide_eq_false c4; clear c4; obtain rfl := Option.some.inj H
     go_wp2
     repeat (go_quiet (fail); try go_wp2)
     go_ret
     exact ⟨Za, Zb⟩
 ·rw [if_neg c3] at H
  have c3b0 := beq_eq_false_iff_ne.mpr c3; have c3b1 := bne_iff_ne.mpr c3
  have c3b2 : (l0.length == l1.length) = false := by first | simpa using c3 | (simp at c3 ⊢; omega)
  obtain rfl := Option.some.inj H
  go_enter Try.func14, Try.ntmps14
  go_wp2
  repeat (go_quiet (fail); try go_wp2)
  go_ret
  exact ⟨Za, Zb⟩
def laws_likeRows.l0 : Nat → List (List Int) → List (List Int) → Int → Option (Bool)
 | 0, _, _, _ => none
 | k + 1, x0, x1, x5 => if x5 < (x0.length : Int) then (if 0 ≤ x5 then (if x5 < (x1.length : Int) then ((laws_likeInts.f k (rd_L6 x0 x5) (rd_L6 x1 x5)).bind fun t1144 => (if t1144 = true then (laws_likeRows.l0 k x0 x1 (wrap64 (x5 + 1))) else (some false))) else (none)) else (none)) else (some true)
def laws_likeRows.f (k : Nat) (l0 : List (List Int)) (l1 : List (List Int)) : Option (Bool) := if (l0.length : Int) = (l1.length : Int) then (laws_likeRows.l0 k l0 l1 0) else (some false)
set_option maxHeartbeats 8000000 in
set_option maxRecDepth 100000 in
theorem laws_likeRows.calls (k : Nat) (A0 : Option Addr) (c0 : Nat) (l0 : List (List Int)) (A1 : Option Addr) (c1 : Nat) (l1 : List (List Int)) (r : Bool) (w : World) (hr0 : Kd.C (Kd.slice 2 (Kd.int .i64)) w A0 l0.length l0) (hc0 : l0.length ≤ c0) (hr1 : Kd.C (Kd.slice 2 (Kd.int .i64)) w A1 l1.length l1) (hc1 : l1.length ≤ c1) (h : laws_likeRows.f k l0 l1 = some r) :
  Calls Try.prog 34 #[.slice A0 l0.length c0, .slice A1 l1.length c1] w fun e w' => e = .returned (.bool r) ∧ Drawn0 w w' := by
 have HR0 := am_ hr0; have HC0 := am_ hc0; clear hr0 hc0; have HR1 := am_ hr1; have HC1 := am_ hc1; clear hr1 hc1; have H : (if (l0.length : Int) = (l1.length : Int) then (laws_likeRows.l0 k l0 l1 0) else (some false)) = some r := h; clear h
 by_cases c3 : (l0.length : Int) = (l1.length : Int)
 ·rw [if_pos c3] at H
  have c3b0 := beq_iff_eq.mpr c3; have c3b1 := bne_eq_false_iff_eq.mpr c3
  have c3b2 : (l0.length == l1.length) = true := by first | simpa using c3 | (simp at c3 ⊢; omega)
  clear c3; have H' := am_ H; clear H
  go_enter Try.func34, Try.ntmps34
  go_wp2
  repeat (go_quiet (fail); try go_wp2)
  go_loopg [5] k (fun kq v5 w' => ∃ (x5_1 : Int), v5 = .int .i64 x5_1 ∧ Aside0 (laws_likeRows.l0 kq l0 l1 x5_1 = some r) ∧ Aside0 (kq ≤ k) ∧ Drawn0 w w')
  case atStart => exact ⟨(0), Za, H', ⟨Nat.le_refl _⟩, Zb⟩
  case round =>
   clear H'
   try clear c1
   try clear p2
   try clear c3
   try clear c3b0
   try clear c3b1
   try clear c3b2
   obtain ⟨x5_1, rfl, HA, HK1, ⟨m1, rfl⟩⟩ := hrel
   cases gk with
   | zero => exact absurd HA.out (by simp [laws_likeRows.l0])
   | succ k1 =>
    have H := HA.out; clear HA; simp only [laws_likeRows.l0] at H
    by_cases c4 : x5_1 < (l0.length : Int)
    ·rw [if_pos c4] at H
     have c4b0 := decide_eq_true c4; clear c4
     by_cases c5 : 0 ≤ x5_1
     ·rw [if_pos c5] at H
      have c5b0 := decide_eq_true c5; clear c5
      by_cases c6 : x5_1 < (l1.length : Int)
      ·rw [if_pos c6] at H
       have c6b0 := decide_eq_true c6; clear c6; replace H := Option.bind_eq_some_iff.mp H; obtain ⟨t1144, A70, H⟩ := H; have A7 := am_ A70; clear A70
       by_cases c8 : t1144 = true
       ·subst c8
        have H1 : (laws_likeRows.l0 k1 l0 l1 (wrap64 (x5_1 + 1))) = some r := by rw [if_pos rfl] at H; exact H
        clear H; have H := H1; clear H1; have H' := am_ H; clear H; have p1142 : 0 ≤ (x5_1 : Int) := of_decide_eq_true Zg; have q1142 : x5_1 < (l0.length : Int) := of_decide_eq_true Zg; obtain ⟨ad1142, A1142_0, c1142_0, e1142, hx1142_0, hl1142_0, hi1142_0⟩ := at_L6 HR0.out x5_1 p1142 q1142
        cases e1142
        have HR1142_0 := am_ hi1142_0; have HC1142_0 := am_ hl1142_0; clear hi1142_0 hl1142_0; replace p1142 := eq_true p1142; replace q1142 := eq_true q1142; have p1143 : 0 ≤ (x5_1 : Int) := of_decide_eq_true Zg; have q1143 : x5_1 < (l1.length : Int) := of_decide_eq_true Zg; obtain ⟨ad1143, A1143_0, c1143_0, e1143, hx1143_0, hl1143_0, hi1143_0⟩ := at_L6 HR1.out x5_1 p1143 q1143
        cases e1143
        have HR1143_0 := am_ hi1143_0; have HC1143_0 := am_ hl1143_0; clear hi1143_0 hl1143_0; replace p1143 := eq_true p1143; replace q1143 := eq_true q1143
        go_wp2_with (first | (go_at_call 14; (with_reducible refine (laws_likeInts.calls k1 _ _ (rd_L6 l0 x5_1) _ _ (rd_L6 l1 x5_1) true _ ?_ ?_ ?_ ?_ A7.out).mono ?_); exact (Zdb HR1142_0); exact HC1142_0.out; exact (Zdb HR1143_0); exact HC1143_0.out; rintro e w' ⟨rfl, ⟨nd, rfl⟩⟩; (try first | exact ⟨rfl, _, World.drewN_drewN _ _ _⟩ | exact ⟨rfl, _, Eq.trans (World.drewN_drewN _ _ _) (congrArg (World.drewN _) (Nat.add_assoc _ _ _))⟩)))
        repeat (go_quiet (first | (go_at_call 14; (with_reducible refine (laws_likeInts.calls k1 _ _ (rd_L6 l0 x5_1) _ _ (rd_L6 l1 x5_1) true _ ?_ ?_ ?_ ?_ A7.out).mono ?_); exact (Zdb HR1142_0); exact HC1142_0.out; exact (Zdb HR1143_0); exact HC1143_0.out; rintro e w' ⟨rfl, ⟨nd, rfl⟩⟩; (try first | exact ⟨rfl, _, World.drewN_drewN _ _ _⟩ | exact ⟨rfl, _, Eq.trans (World.drewN_drewN _ _ _) (congrArg (World.drewN _) (Nat.add_assoc _ _ _))⟩))); try go_wp2_with (first | (go_at_call 14; (with_reducible refine (laws_likeInts.calls k1 _ _ (rd_L6 l0 x5_1) _ _ (rd_L6 l1 x5_1) true _ ?_ ?_ ?_ ?_ A7.out).mono ?_); exact (Zdb HR1142_0); exact HC1142_0.out; exact (Zdb HR1143_0); exact HC1143_0.out; rintro e w' ⟨rfl, ⟨nd, rfl⟩⟩; (try first | exact ⟨rfl, _, World.drewN_drewN _ _ _⟩ | exact ⟨rfl, _, Eq.trans (World.drewN_drewN _ _ _) (congrArg (World.drewN _) (Nat.add_assoc _ _ _))⟩))))
        go_roundg k1
        case measure => have := HK1.out; omega
        case rel => exact ⟨(wrap64 (x5_1 + 1)), Za, H', ⟨Zi⟩, Zb⟩
       ·replace c8 := Bool.eq_false_iff.mpr c8
        subst c8
        have H1 : (some false) = some r := by rw [if_neg (show ¬ (false = true) by decide)] at H; exact H
        clear H; have H := H1; clear H1; obtain rfl := Option.some.inj H; have p1142 : 0 ≤ (x5_1 : Int) := of_decide_eq_true Zg; have q1142 : x5_1 < (l0.length : Int) := of_decide_eq_true Zg; obtain ⟨ad1142, A1142_0, c1142_0, e1142, hx1142_0, hl1142_0, hi1142_0⟩ := at_L6 HR0.out x5_1 p1142 q1142
        cases e1142
        have HR1142_0 := am_ hi1142_0; have HC1142_0 := am_ hl1142_0; clear hi1142_0 hl1142_0; replace p1142 := eq_true p1142; replace q1142 := eq_true q1142; have p1143 : 0 ≤ (x5_1 : Int) := of_decide_eq_true Zg; have q1143 : x5_1 < (l1.length : Int) := of_decide_eq_true Zg; obtain ⟨ad1143, A1143_0, c1143_0, e1143, hx1143_0, hl1143_0, hi1143_0⟩ := at_L6 HR1.out x5_1 p1143 q1143
        cases e1143
        have HR1143_0 := am_ hi1143_0; have HC1143_0 := am_ hl1143_0; clear hi1143_0 hl1143_0; replace p1143 := eq_true p1143; replace q1143 := eq_true q1143
        go_wp2_with (first | (go_at_call 14; (with_reducible refine (laws_likeInts.calls k1 _ _ (rd_L6 l0 x5_1) _ _ (rd_L6 l1 x5_1) false _ ?_ ?_ ?_ ?_ A7.out).mono ?_); exact (Zdb HR1142_0); exact HC1142_0.out; exact (Zdb HR1143_0); exact HC1143_0.out; rintro e w' ⟨rfl, ⟨nd, rfl⟩⟩; (try first | exact ⟨rfl, _, World.drewN_drewN _ _ _⟩ | exact ⟨rfl, _, Eq.trans (World.drewN_drewN _ _ _) (congrArg (World.drewN _) (Nat.add_assoc _ _ _))⟩)))
        repeat (go_quiet (first | (go_at_call 14; (with_reducible refine (laws_likeInts.calls k1 _ _ (rd_L6 l0 x5_1) _ _ (rd_L6 l1 x5_1) false _ ?_ ?_ ?_ ?_ A7.out).mono ?_); exact (Zdb HR1142_0); exact HC1142_0.out; exact (Zdb HR1143_0); exact HC1143_0.out; rintro e w' ⟨rfl, ⟨nd, rfl⟩⟩; (try first | exact ⟨rfl, _, World.drewN_drewN _ _ _⟩ | exact ⟨rfl, _, Eq.trans (World.drewN_drewN _ _ _) (congrArg (World.drewN _) (Nat.add_assoc _ _ _))⟩))); try go_wp2_with (first | (go_at_call 14; (with_reducible refine (laws_likeInts.calls k1 _ _ (rd_L6 l0 x5_1) _ _ (rd_L6 l1 x5_1) false _ ?_ ?_ ?_ ?_ A7.out).mono ?_); exact (Zdb HR1142_0); exact HC1142_0.out; exact (Zdb HR1143_0); exact HC1143_0.out; rintro e w' ⟨rfl, ⟨nd, rfl⟩⟩; (try first | exact ⟨rfl, _, World.drewN_drewN _ _ _⟩ | exact ⟨rfl, _, Eq.trans (World.drewN_drewN _ _ _) (congrArg (World.drewN _) (Nat.add_assoc _ _ _))⟩))))
        go_ret
        exact ⟨Za, Zb⟩
      ·rw [if_neg c6] at H
       exact absurd H (by simp)
     ·rw [if_neg c5] at H
      exact absurd H (by simp)
    ·rw [if_neg c4] at H
     have c4b0 := decide_eq_false c4; clear c4; obtain rfl := Option.some.inj H
     go_wp2
     repeat (go_quiet (fail); try go_wp2)
     go_ret
     exact ⟨Za, Zb⟩
 ·rw [if_neg c3] at H
  have c3b0 := beq_eq_false_iff_ne.mpr c3; have c3b1 := bne_iff_ne.mpr c3
  have c3b2 : (l0.length == l1.length) = false := by first | simpa using c3 | (simp at c3 ⊢; omega)
  obtain rfl := Option.some.inj H
  go_enter Try.func34, Try.ntmps34
  go_wp2
  repeat (go_quiet (fail); try go_wp2)
  go_ret
  exact ⟨Za, Zb⟩
def laws_hasRow.l0 : Nat → List (List Int) → Int → Int → Int → Option (Bool)
 | 0, _, _, _, _ => none
 | k + 1, x0, x1, x2, x7 => if x7 < (x0.length : Int) then (if 0 ≤ x7 then (if ((rd_L6 x0 x7).length : Int) = 2 then (if 0 < ((rd_L6 x0 x7).length : Int) then (if (rd (rd_L6 x0 x7) 0) = x1 then (if 1 < ((rd_L6 x0 x7).length : Int) then (if (rd (rd_L6 x0 x7) 1) = x2 then (some true) else (laws_hasRow.l0 k x0 x1 x2 (wrap64 (x7 + 1)))) else (none)) else (laws_hasRow.l0 k x0 x1 x2 (wrap64 (x7 + 1)))) else (none)) else (laws_hasRow.l0 k x0 x1 x2 (wrap64 (x7 + 1)))) else (none)) else (some false)
def laws_hasRow.f (k : Nat) (l0 : List (List Int)) (a1 : Int) (a2 : Int) : Option (Bool) := laws_hasRow.l0 k l0 a1 a2 0
set_option maxHeartbeats 8000000 in
set_option maxRecDepth 100000 in
theorem laws_hasRow.calls (k : Nat) (A0 : Option Addr) (c0 : Nat) (l0 : List (List Int)) (a1 : Int) (a2 : Int) (r : Bool) (w : World) (hr0 : Kd.C (Kd.slice 2 (Kd.int .i64)) w A0 l0.length l0) (hc0 : l0.length ≤ c0) (h : laws_hasRow.f k l0 a1 a2 = some r) :
  Calls Try.prog 35 #[.slice A0 l0.length c0, .int .i64 a1, .int .i64 a2] w fun e w' => e = .returned (.bool r) ∧ Drawn0 w w' := by
 have HR0 := am_ hr0; have HC0 := am_ hc0; clear hr0 hc0; have H : (laws_hasRow.l0 k l0 a1 a2 0) = some r := h; clear h; have H' := am_ H; clear H
 go_enter Try.func35, Try.ntmps35
 go_wp2
 go_loopg [7] k (fun kq v7 w' => ∃ (x7_1 : Int), v7 = .int .i64 x7_1 ∧ Aside0 (laws_hasRow.l0 kq l0 a1 a2 x7_1 = some r) ∧ Aside0 (kq ≤ k) ∧ Drawn0 w w')
 case atStart => exact ⟨(0), Za, H', ⟨Nat.le_refl _⟩, Zb⟩
 case round =>
  clear H'
  try clear p2
  try clear c3
  obtain ⟨x7_1, rfl, HA, HK1, ⟨m1, rfl⟩⟩ := hrel
  cases gk with
  | zero => exact absurd HA.out (by simp [laws_hasRow.l0])
  | succ k1 =>
   have H := HA.out; clear HA; simp only [laws_hasRow.l0] at H
   by_cases c4 : x7_1 < (l0.length : Int)
   ·rw [if_pos c4] at H
    have c4b0 := decide_eq_true c4; clear c4
    by_cases c5 : 0 ≤ x7_1
    ·rw [if_pos c5] at H
     have c5b0 := decide_eq_true c5; clear c5
     by_cases c6 : ((rd_L6 l0 x7_1).length : Int) = 2
     ·rw [if_pos c6] at H
      have c6b0 := beq_iff_eq.mpr c6; have c6b1 := bne_eq_false_iff_eq.mpr c6; clear c6
      by_cases c7 : 0 < ((rd_L6 l0 x7_1).length : Int)
      ·rw [if_pos c7] at H
       have c7b0 := decide_eq_true c7; have c7b1 : decide (0 < (rd_L6 l0 x7_1).length) = true := decide_eq_true (by omega); clear c7
       by_cases c8 : (rd (rd_L6 l0 x7_1) 0) = a1
       ·rw [if_pos c8] at H
        have c8b0 := beq_iff_eq.mpr c8; have c8b1 := bne_eq_false_iff_eq.mpr c8; clear c8
        by_cases c9 : 1 < ((rd_L6 l0 x7_1).length : Int)
        ·rw [if_pos c9] at H
         have c9b0 := decide_eq_true c9; have c9b1 : decide (1 < (rd_L6 l0 x7_1).length) = true := decide_eq_true (by omega); clear c9
         by_cases c10 : (rd (rd_L6 l0 x7_1) 1) = a2
         ·rw [if_pos c10] at H
          have c10b0 := beq_iff_eq.mpr c10; have c10b1 := bne_eq_false_iff_eq.mpr c10; clear c10; obtain rfl := Option.some.inj H; have p1145 : 0 ≤ (x7_1 : Int) := of_decide_eq_true Zg; have q1145 : x7_1 < (l0.length : Int) := of_decide_eq_true Zg; obtain ⟨ad1145, A1145_0, c1145_0, e1145, hx1145_0, hl1145_0, hi1145_0⟩ := at_L6 HR0.out x7_1 p1145 q1145
          cases e1145
          have HR1145_0 := am_ hi1145_0; have HC1145_0 := am_ hl1145_0; clear hi1145_0 hl1145_0; replace p1145 := eq_true p1145; replace q1145 := eq_true q1145; have p1146 : 0 ≤ (x7_1 : Int) := of_decide_eq_true Zg; have q1146 : x7_1 < (l0.length : Int) := of_decide_eq_true Zg; obtain ⟨ad1146, A1146_0, c1146_0, e1146, hx1146_0, hl1146_0, hi1146_0⟩ := at_L6 HR0.out x7_1 p1146 q1146; obtain rfl : ad1145 = ad1146 := (by injection e1146); have HR1146_0 := am_ hi1146_0; have HC1146_0 := am_ hl1146_0; clear hi1146_0 hl1146_0; replace p1146 := eq_true p1146; replace q1146 := eq_true q1146; have ea_ := Option.some.inj (hx1145_0.symm.trans hx1146_0); injection ea_ with ea_ en_ ec_; subst ea_; subst ec_; clear en_; have p1147 : 0 ≤ (0 : Int) := (by omega); have q1147 : 0 < ((rd_L6 l0 x7_1).length : Int) := of_decide_eq_true Zg; obtain ⟨ad1147, e1147, hx1147_0⟩ := Kd.at_int HR1146_0.out 0 p1147 q1147
          cases e1147
          have qi1147 : (0 < (rd_L6 l0 x7_1).length) = True := eq_true (by omega)
          (try rw [show ((0 : Int)).toNat = 0 from rfl] at hx1147_0)
          (try rw [Addr.add_zero'] at hx1147_0)
          replace p1147 := eq_true p1147; replace q1147 := eq_true q1147; have p1148 : 0 ≤ (x7_1 : Int) := of_decide_eq_true Zg; have q1148 : x7_1 < (l0.length : Int) := of_decide_eq_true Zg; obtain ⟨ad1148, A1148_0, c1148_0, e1148, hx1148_0, hl1148_0, hi1148_0⟩ := at_L6 HR0.out x7_1 p1148 q1148; obtain rfl : ad1145 = ad1148 := (by injection e1148); have HR1148_0 := am_ hi1148_0; have HC1148_0 := am_ hl1148_0; clear hi1148_0 hl1148_0; replace p1148 := eq_true p1148; replace q1148 := eq_true q1148; have ea_ := Option.some.inj (hx1145_0.symm.trans hx1148_0); injection ea_ with ea_ en_ ec_; subst ea_; subst ec_; clear en_; have p1149 : 0 ≤ (1 : Int) := (by omega); have q1149 : 1 < ((rd_L6 l0 x7_1).length : Int) := of_decide_eq_true Zg; obtain ⟨ad1149, e1149, hx1149_0⟩ := Kd.at_int HR1148_0.out 1 p1149 q1149
          cases e1149
          (try simp only [show (1 : Int).toNat = 1 from rfl, Nat.reduceMul, Nat.reduceEqDiff, Go.Addr.add, ↓reduceIte] at hx1149_0)
          have qi1149 : (1 < (rd_L6 l0 x7_1).length) = True := eq_true (by omega)
          (try rw [show ((1 : Int)).toNat = 1 from rfl] at hx1149_0)
          replace p1149 := eq_true p1149; replace q1149 := eq_true q1149
          go_wp2
          go_ret
          exact ⟨Za, Zb⟩
         ·rw [if_neg c10] at H
          have c10b0 := beq_eq_false_iff_ne.mpr c10; have c10b1 := bne_iff_ne.mpr c10; have H' := am_ H; clear H; have p1145 : 0 ≤ (x7_1 : Int) := of_decide_eq_true Zg; have q1145 : x7_1 < (l0.length : Int) := of_decide_eq_true Zg; obtain ⟨ad1145, A1145_0, c1145_0, e1145, hx1145_0, hl1145_0, hi1145_0⟩ := at_L6 HR0.out x7_1 p1145 q1145
          cases e1145
          have HR1145_0 := am_ hi1145_0; have HC1145_0 := am_ hl1145_0; clear hi1145_0 hl1145_0; replace p1145 := eq_true p1145; replace q1145 := eq_true q1145; have p1146 : 0 ≤ (x7_1 : Int) := of_decide_eq_true Zg; have q1146 : x7_1 < (l0.length : Int) := of_decide_eq_true Zg; obtain ⟨ad1146, A1146_0, c1146_0, e1146, hx1146_0, hl1146_0, hi1146_0⟩ := at_L6 HR0.out x7_1 p1146 q1146; obtain rfl : ad1145 = ad1146 := (by injection e1146); have HR1146_0 := am_ hi1146_0; have HC1146_0 := am_ hl1146_0; clear hi1146_0 hl1146_0; replace p1146 := eq_true p1146; replace q1146 := eq_true q1146; have ea_ := Option.some.inj (hx1145_0.symm.trans hx1146_0); injection ea_ with ea_ en_ ec_; subst ea_; subst ec_; clear en_; have p1147 : 0 ≤ (0 : Int) := (by omega); have q1147 : 0 < ((rd_L6 l0 x7_1).length : Int) := of_decide_eq_true Zg; obtain ⟨ad1147, e1147, hx1147_0⟩ := Kd.at_int HR1146_0.out 0 p1147 q1147
          cases e1147
          have qi1147 : (0 < (rd_L6 l0 x7_1).length) = True := eq_true (by omega)
          (try rw [show ((0 : Int)).toNat = 0 from rfl] at hx1147_0)
          (try rw [Addr.add_zero'] at hx1147_0)
          replace p1147 := eq_true p1147; replace q1147 := eq_true q1147; have p1148 : 0 ≤ (x7_1 : Int) := of_decide_eq_true Zg; have q1148 : x7_1 < (l0.length : Int) := of_decide_eq_true Zg; obtain ⟨ad1148, A1148_0, c1148_0, e1148, hx1148_0, hl1148_0, hi1148_0⟩ := at_L6 HR0.out x7_1 p1148 q1148; obtain rfl : ad1145 = ad1148 := (by injection e1148); have HR1148_0 := am_ hi1148_0; have HC1148_0 := am_ hl1148_0; clear hi1148_0 hl1148_0; replace p1148 := eq_true p1148; replace q1148 := eq_true q1148; have ea_ := Option.some.inj (hx1145_0.symm.trans hx1148_0); injection ea_ with ea_ en_ ec_; subst ea_; subst ec_; clear en_; have p1149 : 0 ≤ (1 : Int) := (by omega); have q1149 : 1 < ((rd_L6 l0 x7_1).length : Int) := of_decide_eq_true Zg; obtain ⟨ad1149, e1149, hx1149_0⟩ := Kd.at_int HR1148_0.out 1 p1149 q1149
          cases e1149
          (try simp only [show (1 : Int).toNat = 1 from rfl, Nat.reduceMul, Nat.reduceEqDiff, Go.Addr.add, ↓reduceIte] at hx1149_0)
          have qi1149 : (1 < (rd_L6 l0 x7_1).length) = True := eq_true (by omega)
          (try rw [show ((1 : Int)).toNat = 1 from rfl] at hx1149_0)
          replace p1149 := eq_true p1149; replace q1149 := eq_true q1149
          go_wp2
          go_roundg k1
          case measure => have := HK1.out; omega
          case rel => exact ⟨(wrap64 (x7_1 + 1)), Za, H', ⟨Zi⟩, Zb⟩
        ·rw [if_neg c9] at H
         exact absurd H (by simp)
       ·rw [if_neg c8] at H
        have c8b0 := beq_eq_false_iff_ne.mpr c8; have c8b1 := bne_iff_ne.mpr c8; have H' := am_ H; clear H; have p1145 : 0 ≤ (x7_1 : Int) := of_decide_eq_true Zg; have q1145 : x7_1 < (l0.length : Int) := of_decide_eq_true Zg; obtain ⟨ad1145, A1145_0, c1145_0, e1145, hx1145_0, hl1145_0, hi1145_0⟩ := at_L6 HR0.out x7_1 p1145 q1145
        cases e1145
        have HR1145_0 := am_ hi1145_0; have HC1145_0 := am_ hl1145_0; clear hi1145_0 hl1145_0; replace p1145 := eq_true p1145; replace q1145 := eq_true q1145; have p1146 : 0 ≤ (x7_1 : Int) := of_decide_eq_true Zg; have q1146 : x7_1 < (l0.length : Int) := of_decide_eq_true Zg; obtain ⟨ad1146, A1146_0, c1146_0, e1146, hx1146_0, hl1146_0, hi1146_0⟩ := at_L6 HR0.out x7_1 p1146 q1146; obtain rfl : ad1145 = ad1146 := (by injection e1146); have HR1146_0 := am_ hi1146_0; have HC1146_0 := am_ hl1146_0; clear hi1146_0 hl1146_0; replace p1146 := eq_true p1146; replace q1146 := eq_true q1146; have ea_ := Option.some.inj (hx1145_0.symm.trans hx1146_0); injection ea_ with ea_ en_ ec_; subst ea_; subst ec_; clear en_; have p1147 : 0 ≤ (0 : Int) := (by omega); have q1147 : 0 < ((rd_L6 l0 x7_1).length : Int) := of_decide_eq_true Zg; obtain ⟨ad1147, e1147, hx1147_0⟩ := Kd.at_int HR1146_0.out 0 p1147 q1147
        cases e1147
        have qi1147 : (0 < (rd_L6 l0 x7_1).length) = True := eq_true (by omega)
        (try rw [show ((0 : Int)).toNat = 0 from rfl] at hx1147_0)
        (try rw [Addr.add_zero'] at hx1147_0)
        replace p1147 := eq_true p1147; replace q1147 := eq_true q1147
        go_wp2
        go_roundg k1
        case measure => have := HK1.out; omega
        case rel => exact ⟨(wrap64 (x7_1 + 1)), Za, H', ⟨Zi⟩, Zb⟩
      ·rw [if_neg c7] at H
       exact absurd H (by simp)
     ·rw [if_neg c6] at H
      have c6b0 := beq_eq_false_iff_ne.mpr c6; have c6b1 := bne_iff_ne.mpr c6; have H' := am_ H; clear H; have p1145 : 0 ≤ (x7_1 : Int) := of_decide_eq_true Zg; have q1145 : x7_1 < (l0.length : Int) := of_decide_eq_true Zg; obtain ⟨ad1145, A1145_0, c1145_0, e1145, hx1145_0, hl1145_0, hi1145_0⟩ := at_L6 HR0.out x7_1 p1145 q1145
      cases e1145
      have HR1145_0 := am_ hi1145_0; have HC1145_0 := am_ hl1145_0; clear hi1145_0 hl1145_0; replace p1145 := eq_true p1145; replace q1145 := eq_true q1145
      go_wp2
      go_roundg k1
      case measure => have := HK1.out; omega
      case rel => exact ⟨(wrap64 (x7_1 + 1)), Za, H', ⟨Zi⟩, Zb⟩
    ·rw [if_neg c5] at H
     exact absurd H (by simp)
   ·rw [if_neg c4] at H
    have c4b0 := decide_eq_false c4; clear c4; obtain rfl := Option.some.inj H
    go_wp2
    go_ret
    exact ⟨Za, Zb⟩
def laws_FnCueOrders.j0 : Nat → Int → Int → Bool → Int → Bool → List (List Int) → Bool → List (S104) → List (S62) → List (S39) → Option (Bool)
 | 0, _, _, _, _, _, _, _, _, _, _ => none
 | k + 1, x4, x5, x6, x7, x10, x14, x101, x1163000, x1163001, x1163002 => if x101 = true then (some false) else (if x7 = 0 then ((impl_SurelyBefore.f k x1163000 x1163001 x1163002 x5 x4).bind fun bt1180 => ((impl_MayMeet.f k x1163000 x1163001 x1163002 x5 x4).bind fun bt1182 => (if bt1180.2 = 0 then (if x6 = true then (if bt1180.1 = true then (some false) else (if bt1182.2 = 0 then (if (bt1182.1 != x10) = true then (some false) else (if x10 = true then (some false) else (if x4 = x5 then (some true) else ((laws_hasRow.f k x14 (mn x4 x5) (mx x4 x5)).bind fun t1184 => (some (t1184 == false)))))) else (some false))) else (if bt1182.2 = 0 then (if (bt1182.1 != x10) = true then (some false) else (if x4 = x5 then (some true) else ((laws_hasRow.f k x14 (mn x4 x5) (mx x4 x5)).bind fun t1185 => (some (t1185 == (!bt1180.1)))))) else (some false))) else (some false)))) else (some true))
def laws_FnCueOrders.f (k : Nat) (l0 : List Int) : Option (Bool) := (laws_big.f l0).bind fun t1150 => (if t1150 = true then (some true) else ((spec_DrawSurelyBefore.f k l0).bind fun bt1151 => ((impl_SurelyBefore.f k bt1151.1 bt1151.2.1 bt1151.2.2.1 bt1151.2.2.2.1 bt1151.2.2.2.2).bind fun bt1163 => ((spec_SurelyBefore.f k bt1151.1 bt1151.2.1 bt1151.2.2.1 bt1151.2.2.2.1 bt1151.2.2.2.2).bind fun bt1165 => ((impl_MayMeet.f k bt1151.1 bt1151.2.1 bt1151.2.2.1 bt1151.2.2.2.1 bt1151.2.2.2.2).bind fun bt1167 => ((spec_MayMeet.f k bt1151.1 bt1151.2.1 bt1151.2.2.1 bt1151.2.2.2.1 bt1151.2.2.2.2).bind fun bt1169 => ((impl_UnsurePairs.f k bt1151.1 bt1151.2.1 bt1151.2.2.1).bind fun bt1171 => ((spec_UnsurePairs.f k bt1151.1 bt1151.2.1 bt1151.2.2.1).bind fun bt1175 => (if bt1163.2 = bt1165.2 then (if (bt1163.1 != bt1165.1) = true then (laws_FnCueOrders.j0 k bt1151.2.2.2.1 bt1151.2.2.2.2 bt1163.1 bt1163.2 bt1167.1 bt1171.1 true bt1151.1 bt1151.2.1 bt1151.2.2.1) else (if bt1167.2 = bt1169.2 then (if (bt1167.1 != bt1169.1) = true then (laws_FnCueOrders.j0 k bt1151.2.2.2.1 bt1151.2.2.2.2 bt1163.1 bt1163.2 bt1167.1 bt1171.1 true bt1151.1 bt1151.2.1 bt1151.2.2.1) else (if bt1171.2 = bt1175.2 then ((laws_likeRows.f k bt1171.1 bt1175.1).bind fun t1179 => (if t1179 = true then (laws_FnCueOrders.j0 k bt1151.2.2.2.1 bt1151.2.2.2.2 bt1163.1 bt1163.2 bt1167.1 bt1171.1 (bt1167.2 != bt1163.2) bt1151.1 bt1151.2.1 bt1151.2.2.1) else (laws_FnCueOrders.j0 k bt1151.2.2.2.1 bt1151.2.2.2.2 bt1163.1 bt1163.2 bt1167.1 bt1171.1 true bt1151.1 bt1151.2.1 bt1151.2.2.1))) else (laws_FnCueOrders.j0 k bt1151.2.2.2.1 bt1151.2.2.2.2 bt1163.1 bt1163.2 bt1167.1 bt1171.1 true bt1151.1 bt1151.2.1 bt1151.2.2.1))) else (laws_FnCueOrders.j0 k bt1151.2.2.2.1 bt1151.2.2.2.2 bt1163.1 bt1163.2 bt1167.1 bt1171.1 true bt1151.1 bt1151.2.1 bt1151.2.2.1))) else (laws_FnCueOrders.j0 k bt1151.2.2.2.1 bt1151.2.2.2.2 bt1163.1 bt1163.2 bt1167.1 bt1171.1 true bt1151.1 bt1151.2.1 bt1151.2.2.1))))))))))
theorem laws_FnCueOrders.j0_true (k : Nat) (x4 : Int) (x5 : Int) (x6 : Bool) (x7 : Int) (x10 : Bool) (x14 : List (List Int)) (x1163000 : List (S104)) (x1163001 : List (S62)) (x1163002 : List (S39)) : ¬ laws_FnCueOrders.j0 k x4 x5 x6 x7 x10 x14 true x1163000 x1163001 x1163002 = some true := by
 cases k with
 | zero => simp [laws_FnCueOrders.j0]
 | succ k => simp [laws_FnCueOrders.j0]
set_option maxHeartbeats 8000000 in
set_option maxRecDepth 100000 in
theorem laws_FnCueOrders.calls (k : Nat) (A0 : Option Addr) (c0 : Nat) (l0 : List Int) (r : Bool) (w : World) (hr0 : Kd.C (Kd.int .u8) w A0 l0.length l0) (hc0 : l0.length ≤ c0) (h : laws_FnCueOrders.f k l0 = some r) (hr_ : r = true) :
  Calls Try.prog 5 #[.slice A0 l0.length c0] w fun e w' => e = .returned (.bool r) ∧ Below w.heap.size w w' := by
 have HR_ := am_ hr_; clear hr_; have hu28 := Try.underlying28; have HR0 := am_ hr0; have HC0 := am_ hc0; clear hr0 hc0; have HB := am_ (Below.refl w.heap.size w); have H : ((laws_big.f l0).bind fun t1150 => (if t1150 = true then (some true) else ((spec_DrawSurelyBefore.f k l0).bind fun bt1151 => ((impl_SurelyBefore.f k bt1151.1 bt1151.2.1 bt1151.2.2.1 bt1151.2.2.2.1 bt1151.2.2.2.2).bind fun bt1163 => ((spec_SurelyBefore.f k bt1151.1 bt1151.2.1 bt1151.2.2.1 bt1151.2.2.2.1 bt1151.2.2.2.2).bind fun bt1165 => ((impl_MayMeet.f k bt1151.1 bt1151.2.1 bt1151.2.2.1 bt1151.2.2.2.1 bt1151.2.2.2.2).bind fun bt1167 => ((spec_MayMeet.f k bt1151.1 bt1151.2.1 bt1151.2.2.1 bt1151.2.2.2.1 bt1151.2.2.2.2).bind fun bt1169 => ((impl_UnsurePairs.f k bt1151.1 bt1151.2.1 bt1151.2.2.1).bind fun bt1171 => ((spec_UnsurePairs.f k bt1151.1 bt1151.2.1 bt1151.2.2.1).bind fun bt1175 => (if bt1163.2 = bt1165.2 then (if (bt1163.1 != bt1165.1) = true then (laws_FnCueOrders.j0 k bt1151.2.2.2.1 bt1151.2.2.2.2 bt1163.1 bt1163.2 bt1167.1 bt1171.1 true bt1151.1 bt1151.2.1 bt1151.2.2.1) else (if bt1167.2 = bt1169.2 then (if (bt1167.1 != bt1169.1) = true then (laws_FnCueOrders.j0 k bt1151.2.2.2.1 bt1151.2.2.2.2 bt1163.1 bt1163.2 bt1167.1 bt1171.1 true bt1151.1 bt1151.2.1 bt1151.2.2.1) else (if bt1171.2 = bt1175.2 then ((laws_likeRows.f k bt1171.1 bt1175.1).bind fun t1179 => (if t1179 = true then (laws_FnCueOrders.j0 k bt1151.2.2.2.1 bt1151.2.2.2.2 bt1163.1 bt1163.2 bt1167.1 bt1171.1 (bt1167.2 != bt1163.2) bt1151.1 bt1151.2.1 bt1151.2.2.1) else (laws_FnCueOrders.j0 k bt1151.2.2.2.1 bt1151.2.2.2.2 bt1163.1 bt1163.2 bt1167.1 bt1171.1 true bt1151.1 bt1151.2.1 bt1151.2.2.1))) else (laws_FnCueOrders.j0 k bt1151.2.2.2.1 bt1151.2.2.2.2 bt1163.1 bt1163.2 bt1167.1 bt1171.1 true bt1151.1 bt1151.2.1 bt1151.2.2.1))) else (laws_FnCueOrders.j0 k bt1151.2.2.2.1 bt1151.2.2.2.2 bt1163.1 bt1163.2 bt1167.1 bt1171.1 true bt1151.1 bt1151.2.1 bt1151.2.2.1))) else (laws_FnCueOrders.j0 k bt1151.2.2.2.1 bt1151.2.2.2.2 bt1163.1 bt1163.2 bt1167.1 bt1171.1 true bt1151.1 bt1151.2.1 bt1151.2.2.1))))))))))) = some r := h; clear h; replace H := Option.bind_eq_some_iff.mp H; obtain ⟨t1150, A20, H⟩ := H; have A2 := am_ A20; clear A20
 by_cases c3 : t1150 = true
 ·subst c3
  have H1 : (some true) = some r := by rw [if_pos rfl] at H; exact H
  clear H; have H := H1; clear H1; obtain rfl := Option.some.inj H
  go_enter Try.func5, Try.ntmps5
  go_wp2_with (first | ((with_reducible refine gate_callee (f := 8) rfl ?_); refine gZ 23 Try.func8 #[.slice A0 l0.length c0] ?_; (with_reducible refine (laws_big.calls _ _ l0 true _ ?_ ?_ A2.out).mono ?_); exact (Zdb HR0); exact HC0.out; rintro e w' ⟨rfl, ⟨nd, rfl⟩⟩; refine ⟨_, rfl, ?_⟩))
  go_ret
  exact ⟨Zj, Zc⟩
 ·replace c3 := Bool.eq_false_iff.mpr c3
  subst c3
  have H1 : ((spec_DrawSurelyBefore.f k l0).bind fun bt1151 => ((impl_SurelyBefore.f k bt1151.1 bt1151.2.1 bt1151.2.2.1 bt1151.2.2.2.1 bt1151.2.2.2.2).bind fun bt1163 => ((spec_SurelyBefore.f k bt1151.1 bt1151.2.1 bt1151.2.2.1 bt1151.2.2.2.1 bt1151.2.2.2.2).bind fun bt1165 => ((impl_MayMeet.f k bt1151.1 bt1151.2.1 bt1151.2.2.1 bt1151.2.2.2.1 bt1151.2.2.2.2).bind fun bt1167 => ((spec_MayMeet.f k bt1151.1 bt1151.2.1 bt1151.2.2.1 bt1151.2.2.2.1 bt1151.2.2.2.2).bind fun bt1169 => ((impl_UnsurePairs.f k bt1151.1 bt1151.2.1 bt1151.2.2.1).bind fun bt1171 => ((spec_UnsurePairs.f k bt1151.1 bt1151.2.1 bt1151.2.2.1).bind fun bt1175 => (if bt1163.2 = bt1165.2 then (if (bt1163.1 != bt1165.1) = true then (laws_FnCueOrders.j0 k bt1151.2.2.2.1 bt1151.2.2.2.2 bt1163.1 bt1163.2 bt1167.1 bt1171.1 true bt1151.1 bt1151.2.1 bt1151.2.2.1) else (if bt1167.2 = bt1169.2 then (if (bt1167.1 != bt1169.1) = true then (laws_FnCueOrders.j0 k bt1151.2.2.2.1 bt1151.2.2.2.2 bt1163.1 bt1163.2 bt1167.1 bt1171.1 true bt1151.1 bt1151.2.1 bt1151.2.2.1) else (if bt1171.2 = bt1175.2 then ((laws_likeRows.f k bt1171.1 bt1175.1).bind fun t1179 => (if t1179 = true then (laws_FnCueOrders.j0 k bt1151.2.2.2.1 bt1151.2.2.2.2 bt1163.1 bt1163.2 bt1167.1 bt1171.1 (bt1167.2 != bt1163.2) bt1151.1 bt1151.2.1 bt1151.2.2.1) else (laws_FnCueOrders.j0 k bt1151.2.2.2.1 bt1151.2.2.2.2 bt1163.1 bt1163.2 bt1167.1 bt1171.1 true bt1151.1 bt1151.2.1 bt1151.2.2.1))) else (laws_FnCueOrders.j0 k bt1151.2.2.2.1 bt1151.2.2.2.2 bt1163.1 bt1163.2 bt1167.1 bt1171.1 true bt1151.1 bt1151.2.1 bt1151.2.2.1))) else (laws_FnCueOrders.j0 k bt1151.2.2.2.1 bt1151.2.2.2.2 bt1163.1 bt1163.2 bt1167.1 bt1171.1 true bt1151.1 bt1151.2.1 bt1151.2.2.1))) else (laws_FnCueOrders.j0 k bt1151.2.2.2.1 bt1151.2.2.2.2 bt1163.1 bt1163.2 bt1167.1 bt1171.1 true bt1151.1 bt1151.2.1 bt1151.2.2.1))))))))) = some r := by rw [if_neg (show ¬ (false = true) by decide)] at H; exact H
  clear H; have H := H1; clear H1; replace H := Option.bind_eq_some_iff.mp H; obtain ⟨⟨t1151, t1154, t1157, t1160, t1161⟩, A40, H⟩ := H; replace H : ((impl_SurelyBefore.f k t1151 t1154 t1157 t1160 t1161).bind fun bt1163 => ((spec_SurelyBefore.f k t1151 t1154 t1157 t1160 t1161).bind fun bt1165 => ((impl_MayMeet.f k t1151 t1154 t1157 t1160 t1161).bind fun bt1167 => ((spec_MayMeet.f k t1151 t1154 t1157 t1160 t1161).bind fun bt1169 => ((impl_UnsurePairs.f k t1151 t1154 t1157).bind fun bt1171 => ((spec_UnsurePairs.f k t1151 t1154 t1157).bind fun bt1175 => (if bt1163.2 = bt1165.2 then (if (bt1163.1 != bt1165.1) = true then (laws_FnCueOrders.j0 k t1160 t1161 bt1163.1 bt1163.2 bt1167.1 bt1171.1 true t1151 t1154 t1157) else (if bt1167.2 = bt1169.2 then (if (bt1167.1 != bt1169.1) = true then (laws_FnCueOrders.j0 k t1160 t1161 bt1163.1 bt1163.2 bt1167.1 bt1171.1 true t1151 t1154 t1157) else (if bt1171.2 = bt1175.2 then ((laws_likeRows.f k bt1171.1 bt1175.1).bind fun t1179 => (if t1179 = true then (laws_FnCueOrders.j0 k t1160 t1161 bt1163.1 bt1163.2 bt1167.1 bt1171.1 (bt1167.2 != bt1163.2) t1151 t1154 t1157) else (laws_FnCueOrders.j0 k t1160 t1161 bt1163.1 bt1163.2 bt1167.1 bt1171.1 true t1151 t1154 t1157))) else (laws_FnCueOrders.j0 k t1160 t1161 bt1163.1 bt1163.2 bt1167.1 bt1171.1 true t1151 t1154 t1157))) else (laws_FnCueOrders.j0 k t1160 t1161 bt1163.1 bt1163.2 bt1167.1 bt1171.1 true t1151 t1154 t1157))) else (laws_FnCueOrders.j0 k t1160 t1161 bt1163.1 bt1163.2 bt1167.1 bt1171.1 true t1151 t1154 t1157)))))))) = some r := H; have A4 := am_ A40; clear A40; replace H := Option.bind_eq_some_iff.mp H; obtain ⟨⟨t1163, t1164⟩, A50, H⟩ := H; replace H : ((spec_SurelyBefore.f k t1151 t1154 t1157 t1160 t1161).bind fun bt1165 => ((impl_MayMeet.f k t1151 t1154 t1157 t1160 t1161).bind fun bt1167 => ((spec_MayMeet.f k t1151 t1154 t1157 t1160 t1161).bind fun bt1169 => ((impl_UnsurePairs.f k t1151 t1154 t1157).bind fun bt1171 => ((spec_UnsurePairs.f k t1151 t1154 t1157).bind fun bt1175 => (if t1164 = bt1165.2 then (if (t1163 != bt1165.1) = true then (laws_FnCueOrders.j0 k t1160 t1161 t1163 t1164 bt1167.1 bt1171.1 true t1151 t1154 t1157) else (if bt1167.2 = bt1169.2 then (if (bt1167.1 != bt1169.1) = true then (laws_FnCueOrders.j0 k t1160 t1161 t1163 t1164 bt1167.1 bt1171.1 true t1151 t1154 t1157) else (if bt1171.2 = bt1175.2 then ((laws_likeRows.f k bt1171.1 bt1175.1).bind fun t1179 => (if t1179 = true then (laws_FnCueOrders.j0 k t1160 t1161 t1163 t1164 bt1167.1 bt1171.1 (bt1167.2 != t1164) t1151 t1154 t1157) else (laws_FnCueOrders.j0 k t1160 t1161 t1163 t1164 bt1167.1 bt1171.1 true t1151 t1154 t1157))) else (laws_FnCueOrders.j0 k t1160 t1161 t1163 t1164 bt1167.1 bt1171.1 true t1151 t1154 t1157))) else (laws_FnCueOrders.j0 k t1160 t1161 t1163 t1164 bt1167.1 bt1171.1 true t1151 t1154 t1157))) else (laws_FnCueOrders.j0 k t1160 t1161 t1163 t1164 bt1167.1 bt1171.1 true t1151 t1154 t1157))))))) = some r := H; have A5 := am_ A50; clear A50; replace H := Option.bind_eq_some_iff.mp H
  obtain ⟨⟨t1165, t1166⟩, A60, H⟩ := H; replace H : ((impl_MayMeet.f k t1151 t1154 t1157 t1160 t1161).bind fun bt1167 => ((spec_MayMeet.f k t1151 t1154 t1157 t1160 t1161).bind fun bt1169 => ((impl_UnsurePairs.f k t1151 t1154 t1157).bind fun bt1171 => ((spec_UnsurePairs.f k t1151 t1154 t1157).bind fun bt1175 => (if t1164 = t1166 then (if (t1163 != t1165) = true then (laws_FnCueOrders.j0 k t1160 t1161 t1163 t1164 bt1167.1 bt1171.1 true t1151 t1154 t1157) else (if bt1167.2 = bt1169.2 then (if (bt1167.1 != bt1169.1) = true then (laws_FnCueOrders.j0 k t1160 t1161 t1163 t1164 bt1167.1 bt1171.1 true t1151 t1154 t1157) else (if bt1171.2 = bt1175.2 then ((laws_likeRows.f k bt1171.1 bt1175.1).bind fun t1179 => (if t1179 = true then (laws_FnCueOrders.j0 k t1160 t1161 t1163 t1164 bt1167.1 bt1171.1 (bt1167.2 != t1164) t1151 t1154 t1157) else (laws_FnCueOrders.j0 k t1160 t1161 t1163 t1164 bt1167.1 bt1171.1 true t1151 t1154 t1157))) else (laws_FnCueOrders.j0 k t1160 t1161 t1163 t1164 bt1167.1 bt1171.1 true t1151 t1154 t1157))) else (laws_FnCueOrders.j0 k t1160 t1161 t1163 t1164 bt1167.1 bt1171.1 true t1151 t1154 t1157))) else (laws_FnCueOrders.j0 k t1160 t1161 t1163 t1164 bt1167.1 bt1171.1 true t1151 t1154 t1157)))))) = some r := H; have A6 := am_ A60; clear A60; replace H := Option.bind_eq_some_iff.mp H; obtain ⟨⟨t1167, t1168⟩, A70, H⟩ := H; replace H : ((spec_MayMeet.f k t1151 t1154 t1157 t1160 t1161).bind fun bt1169 => ((impl_UnsurePairs.f k t1151 t1154 t1157).bind fun bt1171 => ((spec_UnsurePairs.f k t1151 t1154 t1157).bind fun bt1175 => (if t1164 = t1166 then (if (t1163 != t1165) = true then (laws_FnCueOrders.j0 k t1160 t1161 t1163 t1164 t1167 bt1171.1 true t1151 t1154 t1157) else (if t1168 = bt1169.2 then (if (t1167 != bt1169.1) = true then (laws_FnCueOrders.j0 k t1160 t1161 t1163 t1164 t1167 bt1171.1 true t1151 t1154 t1157) else (if bt1171.2 = bt1175.2 then ((laws_likeRows.f k bt1171.1 bt1175.1).bind fun t1179 => (if t1179 = true then (laws_FnCueOrders.j0 k t1160 t1161 t1163 t1164 t1167 bt1171.1 (t1168 != t1164) t1151 t1154 t1157) else (laws_FnCueOrders.j0 k t1160 t1161 t1163 t1164 t1167 bt1171.1 true t1151 t1154 t1157))) else (laws_FnCueOrders.j0 k t1160 t1161 t1163 t1164 t1167 bt1171.1 true t1151 t1154 t1157))) else (laws_FnCueOrders.j0 k t1160 t1161 t1163 t1164 t1167 bt1171.1 true t1151 t1154 t1157))) else (laws_FnCueOrders.j0 k t1160 t1161 t1163 t1164 t1167 bt1171.1 true t1151 t1154 t1157))))) = some r := H; have A7 := am_ A70; clear A70; replace H := Option.bind_eq_some_iff.mp H; obtain ⟨⟨t1169, t1170⟩, A80, H⟩ := H; replace H : ((impl_UnsurePairs.f k t1151 t1154 t1157).bind fun bt1171 => ((spec_UnsurePairs.f k t1151 t1154 t1157).bind fun bt1175 => (if t1164 = t1166 then (if (t1163 != t1165) = true then (laws_FnCueOrders.j0 k t1160 t1161 t1163 t1164 t1167 bt1171.1 true t1151 t1154 t1157) else (if t1168 = t1170 then (if (t1167 != t1169) = true then (laws_FnCueOrders.j0 k t1160 t1161 t1163 t1164 t1167 bt1171.1 true t1151 t1154 t1157) else (if bt1171.2 = bt1175.2 then ((laws_likeRows.f k bt1171.1 bt1175.1).bind fun t1179 => (if t1179 = true then (laws_FnCueOrders.j0 k t1160 t1161 t1163 t1164 t1167 bt1171.1 (t1168 != t1164) t1151 t1154 t1157) else (laws_FnCueOrders.j0 k t1160 t1161 t1163 t1164 t1167 bt1171.1 true t1151 t1154 t1157))) else (laws_FnCueOrders.j0 k t1160 t1161 t1163 t1164 t1167 bt1171.1 true t1151 t1154 t1157))) else (laws_FnCueOrders.j0 k t1160 t1161 t1163 t1164 t1167 bt1171.1 true t1151 t1154 t1157))) else (laws_FnCueOrders.j0 k t1160 t1161 t1163 t1164 t1167 bt1171.1 true t1151 t1154 t1157)))) = some r := H
  have A8 := am_ A80; clear A80; replace H := Option.bind_eq_some_iff.mp H; obtain ⟨⟨t1171, t1174⟩, A90, H⟩ := H; replace H : ((spec_UnsurePairs.f k t1151 t1154 t1157).bind fun bt1175 => (if t1164 = t1166 then (if (t1163 != t1165) = true then (laws_FnCueOrders.j0 k t1160 t1161 t1163 t1164 t1167 t1171 true t1151 t1154 t1157) else (if t1168 = t1170 then (if (t1167 != t1169) = true then (laws_FnCueOrders.j0 k t1160 t1161 t1163 t1164 t1167 t1171 true t1151 t1154 t1157) else (if t1174 = bt1175.2 then ((laws_likeRows.f k t1171 bt1175.1).bind fun t1179 => (if t1179 = true then (laws_FnCueOrders.j0 k t1160 t1161 t1163 t1164 t1167 t1171 (t1168 != t1164) t1151 t1154 t1157) else (laws_FnCueOrders.j0 k t1160 t1161 t1163 t1164 t1167 t1171 true t1151 t1154 t1157))) else (laws_FnCueOrders.j0 k t1160 t1161 t1163 t1164 t1167 t1171 true t1151 t1154 t1157))) else (laws_FnCueOrders.j0 k t1160 t1161 t1163 t1164 t1167 t1171 true t1151 t1154 t1157))) else (laws_FnCueOrders.j0 k t1160 t1161 t1163 t1164 t1167 t1171 true t1151 t1154 t1157))) = some r := H; have A9 := am_ A90; clear A90; replace H := Option.bind_eq_some_iff.mp H; obtain ⟨⟨t1175, t1178⟩, A100, H⟩ := H; replace H : (if t1164 = t1166 then (if (t1163 != t1165) = true then (laws_FnCueOrders.j0 k t1160 t1161 t1163 t1164 t1167 t1171 true t1151 t1154 t1157) else (if t1168 = t1170 then (if (t1167 != t1169) = true then (laws_FnCueOrders.j0 k t1160 t1161 t1163 t1164 t1167 t1171 true t1151 t1154 t1157) else (if t1174 = t1178 then ((laws_likeRows.f k t1171 t1175).bind fun t1179 => (if t1179 = true then (laws_FnCueOrders.j0 k t1160 t1161 t1163 t1164 t1167 t1171 (t1168 != t1164) t1151 t1154 t1157) else (laws_FnCueOrders.j0 k t1160 t1161 t1163 t1164 t1167 t1171 true t1151 t1154 t1157))) else (laws_FnCueOrders.j0 k t1160 t1161 t1163 t1164 t1167 t1171 true t1151 t1154 t1157))) else (laws_FnCueOrders.j0 k t1160 t1161 t1163 t1164 t1167 t1171 true t1151 t1154 t1157))) else (laws_FnCueOrders.j0 k t1160 t1161 t1163 t1164 t1167 t1171 true t1151 t1154 t1157)) = some r := H; have A10 := am_ A100; clear A100; have HC11 := am_ H; clear H
  go_enter Try.func5, Try.ntmps5
  go_upto_region 10 with (first | ((with_reducible refine gate_callee (f := 8) rfl ?_); refine gZ 23 Try.func8 #[.slice A0 l0.length c0] ?_; (with_reducible refine (laws_big.calls _ _ l0 false _ ?_ ?_ A2.out).mono ?_); exact (Zdb HR0); exact HC0.out; rintro e w' ⟨rfl, ⟨nd, rfl⟩⟩; refine ⟨_, rfl, ?_⟩) | ((with_reducible refine gate_callee (f := 27) rfl ?_); refine gZ 26 Try.func27 #[.slice A0 l0.length c0] ?_; (with_reducible refine (spec_DrawSurelyBefore.calls k _ _ l0 t1151 t1154 t1157 t1160 t1161 _ ?_ ?_ A4.out).mono ?_); exact (Zdb HR0); exact HC0.out; rintro e w12 ⟨v1152, v1155, v1158, rfl, ho0, ho1, ho2, hb⟩; refine ⟨_, rfl, ?_⟩; replace HO1153 := am_ (Kd.R_lower ho0 (below_size Zc)); replace HO1156 := am_ (Kd.R_lower ho1 (below_size Zc)); replace HO1159 := am_ (Kd.R_lower ho2 (below_size Zc)); replace HB := (bsZ Zc hb); clear hb ho0 ho1 ho2) | ((with_reducible refine gate_dst (N := 3) rfl ?_); (try (refine gate_guard (by rfl) ?_; dsimp only)); refine boxZ 3 #[.slice none 0 0, .slice none 0 0, .slice none 0 0] 28 ?_; intro gb1162 hg w13 hbox hb; replace HO1153 := (hbZ HO1153 hb); replace HO1156 := (hbZ HO1156 hb); replace HO1159 := (hbZ HO1159 hb); replace BK1162 := am_ (hbox); replace GW1162 := am_ ((Zp : w.heap.size ≤ gb1162)); replace GE1162 := GW1162; replace HB := (bsZ Zc hb); clear hb hbox hg; obtain ⟨Ao14, co14, eo14⟩ := Kd.R_slice HO1153.out; subst eo14; refine ci3 BK1162 ?_; intros; obtain ⟨Ao16, co16, eo16⟩ := Kd.R_slice HO1156.out; subst eo16; obtain ⟨Ao17, co17, eo17⟩ := Kd.R_slice HO1159.out; subst eo17) | ((with_reducible refine gate_callee (f := 28) rfl ?_); refine gZ 34 Try.func28 #[.agg #[.slice Ao14 t1151.length co14, .slice Ao16 t1154.length co16, .slice Ao17 t1157.length co17], .int .i64 t1160, .int .i64 t1161] ?_; (with_reducible refine (impl_SurelyBefore.calls k _ _ t1151 _ _ t1154 _ _ t1157 t1160 t1161 t1163 t1164 _ ?_ ?_ ?_ ?_ ?_ ?_ A5.out).mono ?_); refine (Kd.R_reads' (e := 104) (base := w.heap.size) (ok := fun k_ => True) (n := t1151.length) (c := co14) ?_).2.2; exact (Zar HO1153 BK1162); exact (Kd.R_reads' HO1153.out).2.1; refine (Kd.R_reads' (e := 62) (base := w.heap.size) (ok := fun k_ => True) (n := t1154.length) (c := co16) ?_).2.2; exact (Zar HO1156 BK1162); exact (Kd.R_reads' HO1156.out).2.1; refine (Kd.R_reads' (e := 39) (base := w.heap.size) (ok := fun k_ => True) (n := t1157.length) (c := co17) ?_).2.2; exact (Zar HO1159 BK1162); exact (Kd.R_reads' HO1159.out).2.1; rintro e w18 ⟨rfl, hb⟩; refine ⟨_, rfl, ?_⟩; replace HO1153 := am_ (Kd.R_below (Zar HO1153 BK1162) hb); replace HO1156 := am_ (Kd.R_below (Zar HO1156 BK1162) hb); replace HO1159 := am_ (Kd.R_below (Zar HO1159 BK1162) hb); replace BK1162 := am_ (blk_below (g := gb1162) (o := .cells #[.slice Ao14 t1151.length co14, .slice Ao16 t1154.length co16, .slice Ao17 t1157.length co17] 28 (0, 0)) (bpZ BK1162) hb); replace HB := (bsZ (Ze GE1162) hb); clear hb; refine ci3 BK1162 ?_; intros) | ((with_reducible refine gate_callee (f := 29) rfl ?_); refine gZ 41 Try.func29 #[.agg #[.slice Ao14 t1151.length co14, .slice Ao16 t1154.length co16, .slice Ao17 t1157.length co17], .int .i64 t1160, .int .i64 t1161] ?_; (with_reducible refine (spec_SurelyBefore.calls k _ _ t1151 _ _ t1154 _ _ t1157 t1160 t1161 t1165 t1166 _ ?_ ?_ ?_ ?_ ?_ ?_ A6.out).mono ?_); exact (Zap HO1153); exact (Kd.R_reads' HO1153.out).2.1; exact (Zap HO1156); exact (Kd.R_reads' HO1156.out).2.1; exact (Zap HO1159); exact (Kd.R_reads' HO1159.out).2.1; rintro e w20 ⟨rfl, hb⟩; refine ⟨_, rfl, ?_⟩; replace HO1153 := (hbZ HO1153 hb); replace HO1156 := (hbZ HO1156 hb); replace HO1159 := (hbZ HO1159 hb); replace BK1162 := (bkZ BK1162 hb); replace HB := (bsZ (Ze GE1162) hb); clear hb; refine ci3 BK1162 ?_; intros) | ((with_reducible refine gate_callee (f := 30) rfl ?_); refine gZ 48 Try.func30 #[.agg #[.slice Ao14 t1151.length co14, .slice Ao16 t1154.length co16, .slice Ao17 t1157.length co17], .int .i64 t1160, .int .i64 t1161] ?_; (with_reducible refine (impl_MayMeet.calls k _ _ t1151 _ _ t1154 _ _ t1157 t1160 t1161 t1167 t1168 _ ?_ ?_ ?_ ?_ ?_ ?_ A7.out).mono ?_); exact (Zap HO1153); exact (Kd.R_reads' HO1153.out).2.1; exact (Zap HO1156); exact (Kd.R_reads' HO1156.out).2.1; exact (Zap HO1159); exact (Kd.R_reads' HO1159.out).2.1; rintro e w22 ⟨rfl, hb⟩; refine ⟨_, rfl, ?_⟩; replace HO1153 := (hbZ HO1153 hb); replace HO1156 := (hbZ HO1156 hb); replace HO1159 := (hbZ HO1159 hb); replace BK1162 := (bkZ BK1162 hb); replace HB := (bsZ (Ze GE1162) hb); clear hb; refine ci3 BK1162 ?_; intros) | ((with_reducible refine gate_callee (f := 31) rfl ?_); refine gZ 55 Try.func31 #[.agg #[.slice Ao14 t1151.length co14, .slice Ao16 t1154.length co16, .slice Ao17 t1157.length co17], .int .i64 t1160, .int .i64 t1161] ?_; (with_reducible refine (spec_MayMeet.calls k _ _ t1151 _ _ t1154 _ _ t1157 t1160 t1161 t1169 t1170 _ ?_ ?_ ?_ ?_ ?_ ?_ A8.out).mono ?_); exact (Zap HO1153); exact (Kd.R_reads' HO1153.out).2.1; exact (Zap HO1156); exact (Kd.R_reads' HO1156.out).2.1; exact (Zap HO1159); exact (Kd.R_reads' HO1159.out).2.1; rintro e w24 ⟨rfl, hb⟩; refine ⟨_, rfl, ?_⟩; replace HO1153 := (hbZ HO1153 hb); replace HO1156 := (hbZ HO1156 hb); replace HO1159 := (hbZ HO1159 hb); replace BK1162 := (bkZ BK1162 hb); replace HB := (bsZ (Ze GE1162) hb); clear hb; refine ci3 BK1162 ?_; intros) | ((with_reducible refine gate_callee (f := 32) rfl ?_); refine gZ 60 Try.func32 #[.agg #[.slice Ao14 t1151.length co14, .slice Ao16 t1154.length co16, .slice Ao17 t1157.length co17]] ?_; (with_reducible refine (impl_UnsurePairs.calls k _ _ t1151 _ _ t1154 _ _ t1157 t1171 t1174 _ ?_ ?_ ?_ ?_ ?_ ?_ A9.out).mono ?_); exact (Zap HO1153); exact (Kd.R_reads' HO1153.out).2.1; exact (Zap HO1156); exact (Kd.R_reads' HO1156.out).2.1; exact (Zap HO1159); exact (Kd.R_reads' HO1159.out).2.1; rintro e w26 ⟨v1172, rfl, ho0, hb⟩; refine ⟨_, rfl, ?_⟩; replace HO1153 := (hbZ HO1153 hb); replace HO1156 := (hbZ HO1156 hb); replace HO1159 := (hbZ HO1159 hb); replace HO1173 := am_ (Kd.S_lower ho0 (below_size (Ze GE1162))); replace BK1162 := (bkZ BK1162 hb); replace HB := (bsZ (Ze GE1162) hb); clear hb ho0; refine ci3 BK1162 ?_; intros) | ((with_reducible refine gate_callee (f := 33) rfl ?_); refine gZ 65 Try.func33 #[.agg #[.slice Ao14 t1151.length co14, .slice Ao16 t1154.length co16, .slice Ao17 t1157.length co17]] ?_; (with_reducible refine (spec_UnsurePairs.calls k _ _ t1151 _ _ t1154 _ _ t1157 t1175 t1178 _ ?_ ?_ ?_ ?_ ?_ ?_ A10.out).mono ?_); exact (Zap HO1153); exact (Kd.R_reads' HO1153.out).2.1; exact (Zap HO1156); exact (Kd.R_reads' HO1156.out).2.1; exact (Zap HO1159); exact (Kd.R_reads' HO1159.out).2.1; rintro e w28 ⟨v1176, rfl, ho0, hb⟩; refine ⟨_, rfl, ?_⟩; replace HO1153 := (hbZ HO1153 hb); replace HO1156 := (hbZ HO1156 hb); replace HO1159 := (hbZ HO1159 hb); replace HO1177 := am_ (Kd.S_lower (Kd.S_new' ho0 (Kd.S_lt (Zcq HO1173))) (below_size (Ze GE1162))); replace HO1173 := am_ (Kd.S_elder' (Zcq HO1173) (Kd.S_base ho0) hb); replace BK1162 := (bkZ BK1162 hb); replace HB := (bsZ (Ze GE1162) hb); clear hb ho0))
  (try simp only [Act.put, List.setIfInBounds_toArray, List.set_cons_zero, List.set_cons_succ])
  go_cut [101] (fun v101 wc => ∃ (kq : Nat) (x101_10 : Bool), v101 = .bool x101_10 ∧ Aside0 (laws_FnCueOrders.j0 kq t1160 t1161 t1163 t1164 t1167 t1171 x101_10 t1151 t1154 t1157 = some r) ∧ Aside0 (kq ≤ k) ∧ Aside0 (Kd.S (Kd.slice 2 (Kd.int .i64)) 33 wc w.heap.size (fun _ => True) v1172 t1171) ∧ Aside0 (Kd.R k104 104 wc w.heap.size (fun _ => True) (.slice Ao14 t1151.length co14) t1151) ∧ Aside0 (Kd.R k62 62 wc w.heap.size (fun _ => True) (.slice Ao16 t1154.length co16) t1154) ∧ Aside0 (Kd.R k39 39 wc w.heap.size (fun _ => True) (.slice Ao17 t1157.length co17) t1157) ∧ Aside0 (wc.heap[gb1162]? = some (.cells #[(.slice Ao14 t1151.length co14), (.slice Ao16 t1154.length co16), (.slice Ao17 t1157.length co17)] 28 (0, 0))) ∧ Aside0 (Below w.heap.size w wc))
  case first => as_aux_lemma =>
   have H := HC11.out; clear HC11
   by_cases c29 : t1164 = t1166
   ·rw [if_pos c29] at H
    have c29b0 := beq_iff_eq.mpr c29; have c29b1 := bne_eq_false_iff_eq.mpr c29; clear c29
    (first | rw [c29b0] | (simp only [i64_w, i32_w]; rw [c29b0]) | skip)
    by_cases c30 : (t1163 != t1165) = true
    ·rw [if_pos c30] at H
     have c30b0 : (t1163 != t1165) = true := c30
     (try (have c30b1 : decide (t1163 = t1165) = false := by simpa using c30))
     (try (have c30b2 : (t1163 == t1165) = false := by simpa using c30))
     (try (have c30b3 : ¬ (t1163 = t1165) := by simpa using c30))
     clear c30; exact absurd (H.trans (congrArg some HR_.out)) (laws_FnCueOrders.j0_true _ _ _ _ _ _ _ _ _ _)
    ·rw [if_neg c30] at H
     have c30b0 : (t1163 != t1165) = false := by simpa using c30
     (try (have c30b1 : decide (t1163 = t1165) = true := by simpa using c30))
     (try (have c30b2 : (t1163 == t1165) = true := by simpa using c30))
     clear c30
     by_cases c31 : t1168 = t1170
     ·rw [if_pos c31] at H
      have c31b0 := beq_iff_eq.mpr c31; have c31b1 := bne_eq_false_iff_eq.mpr c31; clear c31
      by_cases c32 : (t1167 != t1169) = true
      ·rw [if_pos c32] at H
       have c32b0 : (t1167 != t1169) = true := c32
       (try (have c32b1 : decide (t1167 = t1169) = false := by simpa using c32))
       (try (have c32b2 : (t1167 == t1169) = false := by simpa using c32))
       (try (have c32b3 : ¬ (t1167 = t1169) := by simpa using c32))
       clear c32; exact absurd (H.trans (congrArg some HR_.out)) (laws_FnCueOrders.j0_true _ _ _ _ _ _ _ _ _ _)
      ·rw [if_neg c32] at H
       have c32b0 : (t1167 != t1169) = false := by simpa using c32
       (try (have c32b1 : decide (t1167 = t1169) = true := by simpa using c32))
       (try (have c32b2 : (t1167 == t1169) = true := by simpa using c32))
       clear c32
       by_cases c33 : t1174 = t1178
       ·rw [if_pos c33] at H
        have c33b0 := beq_iff_eq.mpr c33; have c33b1 := bne_eq_false_iff_eq.mpr c33; clear c33; replace H := Option.bind_eq_some_iff.mp H; obtain ⟨t1179, A340, H⟩ := H; have A34 := am_ A340; clear A340
        by_cases c35 : t1179 = true
        ·subst c35
         have H1 : (laws_FnCueOrders.j0 k t1160 t1161 t1163 t1164 t1167 t1171 (t1168 != t1164) t1151 t1154 t1157) = some r := by rw [if_pos rfl] at H; exact H
         clear H; have H := H1; clear H1; have H' := am_ H; clear H; obtain ⟨Ao36, co36, eo36⟩ := Kd.S_slice HO1173.out; subst eo36; obtain ⟨Ao37, co37, eo37⟩ := Kd.S_slice HO1177.out; subst eo37
         go_wp2_with (first | (go_at_call 34; (with_reducible refine (laws_likeRows.calls k _ _ t1171 _ _ t1175 true _ ?_ ?_ ?_ ?_ A34.out).mono ?_); exact (Zdc HO1173); exact (Kd.S_reads' HO1173.out).2.1; exact (Zdc HO1177); exact (Kd.S_reads' HO1177.out).2.1; rintro e w' ⟨rfl, ⟨nd, rfl⟩⟩))
         go_meet
         case rel => exact ⟨_, ((t1168 != t1164)), Za, H', ⟨Zv⟩, ⟨(Zcu HO1173)⟩, ⟨(Zy HO1153)⟩, ⟨(Zy HO1156)⟩, ⟨(Zy HO1159)⟩, ⟨(Zd BK1162)⟩, ⟨(Ze GE1162)⟩⟩
        ·replace c35 := Bool.eq_false_iff.mpr c35
         subst c35
         have H1 : (laws_FnCueOrders.j0 k t1160 t1161 t1163 t1164 t1167 t1171 true t1151 t1154 t1157) = some r := by rw [if_neg (show ¬ (false = true) by decide)] at H; exact H
         clear H; have H := H1; clear H1; exact absurd (H.trans (congrArg some HR_.out)) (laws_FnCueOrders.j0_true _ _ _ _ _ _ _ _ _ _)
       ·rw [if_neg c33] at H
        have c33b0 := beq_eq_false_iff_ne.mpr c33; have c33b1 := bne_iff_ne.mpr c33; exact absurd (H.trans (congrArg some HR_.out)) (laws_FnCueOrders.j0_true _ _ _ _ _ _ _ _ _ _)
     ·rw [if_neg c31] at H
      have c31b0 := beq_eq_false_iff_ne.mpr c31; have c31b1 := bne_iff_ne.mpr c31; exact absurd (H.trans (congrArg some HR_.out)) (laws_FnCueOrders.j0_true _ _ _ _ _ _ _ _ _ _)
   ·rw [if_neg c29] at H
    have c29b0 := beq_eq_false_iff_ne.mpr c29; have c29b1 := bne_iff_ne.mpr c29
    (first | rw [c29b0] | (simp only [i64_w, i32_w]; rw [c29b0]) | skip)
    exact absurd (H.trans (congrArg some HR_.out)) (laws_FnCueOrders.j0_true _ _ _ _ _ _ _ _ _ _)
  case rest => as_aux_lemma =>
   clear HC11
   try clear c2
   try clear p2
   try clear c3
   try clear c5
   try clear c8
   try clear c27
   try clear c28
   try clear c29
   try clear c29b0
   try clear c29b1
   try clear c30
   try clear c30b0
   try clear c30b1
   try clear c30b2
   try clear c31
   try clear c31b0
   try clear c31b1
   try clear c32
   try clear c32b0
   try clear c32b1
   try clear c32b2
   try clear c33
   try clear c33b0
   try clear c33b1
   try clear c35
   obtain ⟨kq, x101_10, rfl, HA, HJ10, HO_14, HO_1163000, HO_1163001, HO_1163002, BK1162, HB⟩ := hcut
   cases kq with
   | zero => exact absurd HA.out (by simp [laws_FnCueOrders.j0])
   | succ kj10 =>
    have H := HA.out; clear HA; simp only [laws_FnCueOrders.j0] at H
    by_cases c40 : x101_10 = true
    ·subst c40
     have H1 : (some false) = some r := by rw [if_pos rfl] at H; exact H
     clear H; have H := H1; clear H1; exact absurd ((Option.some.inj H).trans HR_.out) (by decide)
    ·replace c40 := Bool.eq_false_iff.mpr c40
     subst c40
     have H1 : (if t1164 = 0 then ((impl_SurelyBefore.f kj10 t1151 t1154 t1157 t1161 t1160).bind fun bt1180 => ((impl_MayMeet.f kj10 t1151 t1154 t1157 t1161 t1160).bind fun bt1182 => (if bt1180.2 = 0 then (if t1163 = true then (if bt1180.1 = true then (some false) else (if bt1182.2 = 0 then (if (bt1182.1 != t1167) = true then (some false) else (if t1167 = true then (some false) else (if t1160 = t1161 then (some true) else ((laws_hasRow.f kj10 t1171 (mn t1160 t1161) (mx t1160 t1161)).bind fun t1184 => (some (t1184 == false)))))) else (some false))) else (if bt1182.2 = 0 then (if (bt1182.1 != t1167) = true then (some false) else (if t1160 = t1161 then (some true) else ((laws_hasRow.f kj10 t1171 (mn t1160 t1161) (mx t1160 t1161)).bind fun t1185 => (some (t1185 == (!bt1180.1)))))) else (some false))) else (some false)))) else (some true)) = some r := by rw [if_neg (show ¬ (false = true) by decide)] at H; exact H
     clear H; have H := H1; clear H1
     by_cases c41 : t1164 = 0
     ·rw [if_pos c41] at H
      have c41b0 := beq_iff_eq.mpr c41; have c41b1 := bne_eq_false_iff_eq.mpr c41; clear c41; replace H := Option.bind_eq_some_iff.mp H; obtain ⟨⟨t1180, t1181⟩, A420, H⟩ := H; replace H : ((impl_MayMeet.f kj10 t1151 t1154 t1157 t1161 t1160).bind fun bt1182 => (if t1181 = 0 then (if t1163 = true then (if t1180 = true then (some false) else (if bt1182.2 = 0 then (if (bt1182.1 != t1167) = true then (some false) else (if t1167 = true then (some false) else (if t1160 = t1161 then (some true) else ((laws_hasRow.f kj10 t1171 (mn t1160 t1161) (mx t1160 t1161)).bind fun t1184 => (some (t1184 == false)))))) else (some false))) else (if bt1182.2 = 0 then (if (bt1182.1 != t1167) = true then (some false) else (if t1160 = t1161 then (some true) else ((laws_hasRow.f kj10 t1171 (mn t1160 t1161) (mx t1160 t1161)).bind fun t1185 => (some (t1185 == (!t1180)))))) else (some false))) else (some false))) = some r := H; have A42 := am_ A420; clear A420; replace H := Option.bind_eq_some_iff.mp H; obtain ⟨⟨t1182, t1183⟩, A430, H⟩ := H; replace H : (if t1181 = 0 then (if t1163 = true then (if t1180 = true then (some false) else (if t1183 = 0 then (if (t1182 != t1167) = true then (some false) else (if t1167 = true then (some false) else (if t1160 = t1161 then (some true) else ((laws_hasRow.f kj10 t1171 (mn t1160 t1161) (mx t1160 t1161)).bind fun t1184 => (some (t1184 == false)))))) else (some false))) else (if t1183 = 0 then (if (t1182 != t1167) = true then (some false) else (if t1160 = t1161 then (some true) else ((laws_hasRow.f kj10 t1171 (mn t1160 t1161) (mx t1160 t1161)).bind fun t1185 => (some (t1185 == (!t1180)))))) else (some false))) else (some false)) = some r := H; have A43 := am_ A430; clear A430
      by_cases c44 : t1181 = 0
      ·rw [if_pos c44] at H
       have c44b0 := beq_iff_eq.mpr c44; have c44b1 := bne_eq_false_iff_eq.mpr c44; clear c44
       by_cases c45 : t1163 = true
       ·subst c45
        have H1 : (if t1180 = true then (some false) else (if t1183 = 0 then (if (t1182 != t1167) = true then (some false) else (if t1167 = true then (some false) else (if t1160 = t1161 then (some true) else ((laws_hasRow.f kj10 t1171 (mn t1160 t1161) (mx t1160 t1161)).bind fun t1184 => (some (t1184 == false)))))) else (some false))) = some r := by rw [if_pos rfl] at H; exact H
        clear H; have H := H1; clear H1
        by_cases c46 : t1180 = true
        ·subst c46
         have H1 : (some false) = some r := by rw [if_pos rfl] at H; exact H
         clear H; have H := H1; clear H1; exact absurd ((Option.some.inj H).trans HR_.out) (by decide)
        ·replace c46 := Bool.eq_false_iff.mpr c46
         subst c46
         have H1 : (if t1183 = 0 then (if (t1182 != t1167) = true then (some false) else (if t1167 = true then (some false) else (if t1160 = t1161 then (some true) else ((laws_hasRow.f kj10 t1171 (mn t1160 t1161) (mx t1160 t1161)).bind fun t1184 => (some (t1184 == false)))))) else (some false)) = some r := by rw [if_neg (show ¬ (false = true) by decide)] at H; exact H
         clear H; have H := H1; clear H1
         by_cases c51 : t1183 = 0
         ·rw [if_pos c51] at H
          have c51b0 := beq_iff_eq.mpr c51; have c51b1 := bne_eq_false_iff_eq.mpr c51; clear c51
          by_cases c52 : (t1182 != t1167) = true
          ·rw [if_pos c52] at H
           have c52b0 : (t1182 != t1167) = true := c52
           (try (have c52b1 : decide (t1182 = t1167) = false := by simpa using c52))
           (try (have c52b2 : (t1182 == t1167) = false := by simpa using c52))
           (try (have c52b3 : ¬ (t1182 = t1167) := by simpa using c52))
           clear c52; exact absurd ((Option.some.inj H).trans HR_.out) (by decide)
          ·rw [if_neg c52] at H
           have c52b0 : (t1182 != t1167) = false := by simpa using c52
           (try (have c52b1 : decide (t1182 = t1167) = true := by simpa using c52))
           (try (have c52b2 : (t1182 == t1167) = true := by simpa using c52))
           clear c52
           by_cases c57 : t1167 = true
           ·subst c57
            have H1 : (some false) = some r := by rw [if_pos rfl] at H; exact H
            clear H; have H := H1; clear H1; exact absurd ((Option.some.inj H).trans HR_.out) (by decide)
           ·replace c57 := Bool.eq_false_iff.mpr c57
            subst c57
            have H1 : (if t1160 = t1161 then (some true) else ((laws_hasRow.f kj10 t1171 (mn t1160 t1161) (mx t1160 t1161)).bind fun t1184 => (some (t1184 == false)))) = some r := by rw [if_neg (show ¬ (false = true) by decide)] at H; exact H
            clear H; have H := H1; clear H1; have HS_ := am_ H; clear H; refine ci3 BK1162 ?_; intros
            go_wp2_with (first | ((with_reducible refine gate_callee (f := 28) rfl ?_); refine gZ 108 Try.func28 #[.agg #[.slice Ao14 t1151.length co14, .slice Ao16 t1154.length co16, .slice Ao17 t1157.length co17], .int .i64 t1161, .int .i64 t1160] ?_; (with_reducible refine (impl_SurelyBefore.calls kj10 _ _ t1151 _ _ t1154 _ _ t1157 t1161 t1160 false t1181 _ ?_ ?_ ?_ ?_ ?_ ?_ A42.out).mono ?_); exact (Zap HO_1163000); exact (Kd.R_reads' HO_1163000.out).2.1; exact (Zap HO_1163001); exact (Kd.R_reads' HO_1163001.out).2.1; exact (Zap HO_1163002); exact (Kd.R_reads' HO_1163002.out).2.1; rintro e w64 ⟨rfl, hb⟩; refine ⟨_, rfl, ?_⟩; replace HO_14 := am_ (Kd.S_below (Zcq HO_14) hb); replace HO_1163000 := (hbZ HO_1163000 hb); replace HO_1163001 := (hbZ HO_1163001 hb); replace HO_1163002 := (hbZ HO_1163002 hb); replace BK1162 := (bkZ BK1162 hb); replace HB := (bsZ (Ze GE1162) hb); clear hb; refine ci3 BK1162 ?_; intros) | ((with_reducible refine gate_callee (f := 30) rfl ?_); refine gZ 115 Try.func30 #[.agg #[.slice Ao14 t1151.length co14, .slice Ao16 t1154.length co16, .slice Ao17 t1157.length co17], .int .i64 t1161, .int .i64 t1160] ?_; (with_reducible refine (impl_MayMeet.calls kj10 _ _ t1151 _ _ t1154 _ _ t1157 t1161 t1160 t1182 t1183 _ ?_ ?_ ?_ ?_ ?_ ?_ A43.out).mono ?_); exact (Zap HO_1163000); exact (Kd.R_reads' HO_1163000.out).2.1; exact (Zap HO_1163001); exact (Kd.R_reads' HO_1163001.out).2.1; exact (Zap HO_1163002); exact (Kd.R_reads' HO_1163002.out).2.1; rintro e w66 ⟨rfl, hb⟩; refine ⟨_, rfl, ?_⟩; replace HO_14 := am_ (Kd.S_below (Zcq HO_14) hb); replace HO_1163000 := (hbZ HO_1163000 hb); replace HO_1163001 := (hbZ HO_1163001 hb); replace HO_1163002 := (hbZ HO_1163002 hb); replace BK1162 := (bkZ BK1162 hb); replace HB := (bsZ (Ze GE1162) hb); clear hb; refine ?roundEnd))
            case roundEnd =>
             by_cases c62 : t1160 = t1161
             ·have H := HS_.out
              clear HS_; rw [if_pos c62] at H; have c62b0 := beq_iff_eq.mpr c62; have c62b1 := bne_eq_false_iff_eq.mpr c62; clear c62; obtain rfl := Option.some.inj H
              go_wp2_with (first | fail)
              go_ret
              exact ⟨Zj, (Ze GE1162)⟩
             ·have H := HS_.out
              clear HS_; rw [if_neg c62] at H; have c62b0 := beq_eq_false_iff_ne.mpr c62; have c62b1 := bne_iff_ne.mpr c62; obtain ⟨ji67, hji67⟩ : ∃ j_ : Int, (mn t1160 t1161) = j_ := ⟨_, rfl⟩
              replace H : ((laws_hasRow.f kj10 t1171 (ji67) (mx t1160 t1161)).bind fun t1184 => (some (t1184 == false))) = some r := by first | (rw [hji67] at H; exact H) | (simp only [hji67] at H ⊢; exact H)
              (try rw [hji67] at A42)
              (try rw [hji67] at A43)
              have hji67_ : (if t1161 < t1160 then t1161 else t1160) = ji67 := hji67; obtain ⟨ji68, hji68⟩ : ∃ j_ : Int, (mx t1160 t1161) = j_ := ⟨_, rfl⟩
              replace H : ((laws_hasRow.f kj10 t1171 (ji67) (ji68)).bind fun t1184 => (some (t1184 == false))) = some r := by first | (rw [hji68] at H; exact H) | (simp only [hji68] at H ⊢; exact H)
              (try rw [hji68] at A42)
              (try rw [hji68] at A43)
              have hji68_ : (if t1160 < t1161 then t1161 else t1160) = ji68 := hji68; replace H := Option.bind_eq_some_iff.mp H; obtain ⟨t1184, A690, H⟩ := H; have A69 := am_ A690; clear A690; obtain rfl := Option.some.inj H; obtain ⟨Ao74, co74, eo74⟩ := Kd.S_slice HO_14.out; subst eo74
              go_wp2_with (first | (go_at_call 35; (with_reducible refine (laws_hasRow.calls kj10 _ _ t1171 ji67 ji68 t1184 _ ?_ ?_ A69.out).mono ?_); exact (Zdc HO_14); exact (Kd.S_reads' HO_14.out).2.1; rintro e w' ⟨rfl, ⟨nd, rfl⟩⟩))
              go_ret
              exact ⟨by first | rfl | (simp [errW_none, errW_some] <;> rfl) | (simp only [← hji67, ← hji68]; first | rfl | (simp [errW_none, errW_some] <;> rfl)) | (simp [*, errW_none, errW_some] <;> rfl), (Ze GE1162)⟩
         ·rw [if_neg c51] at H
          have c51b0 := beq_eq_false_iff_ne.mpr c51; have c51b1 := bne_iff_ne.mpr c51; exact absurd ((Option.some.inj H).trans HR_.out) (by decide)
       ·replace c45 := Bool.eq_false_iff.mpr c45
        subst c45
        have H1 : (if t1183 = 0 then (if (t1182 != t1167) = true then (some false) else (if t1160 = t1161 then (some true) else ((laws_hasRow.f kj10 t1171 (mn t1160 t1161) (mx t1160 t1161)).bind fun t1185 => (some (t1185 == (!t1180)))))) else (some false)) = some r := by rw [if_neg (show ¬ (false = true) by decide)] at H; exact H
        clear H; have H := H1; clear H1
        by_cases c79 : t1183 = 0
        ·rw [if_pos c79] at H
         have c79b0 := beq_iff_eq.mpr c79; have c79b1 := bne_eq_false_iff_eq.mpr c79; clear c79
         by_cases c80 : (t1182 != t1167) = true
         ·rw [if_pos c80] at H
          have c80b0 : (t1182 != t1167) = true := c80
          (try (have c80b1 : decide (t1182 = t1167) = false := by simpa using c80))
          (try (have c80b2 : (t1182 == t1167) = false := by simpa using c80))
          (try (have c80b3 : ¬ (t1182 = t1167) := by simpa using c80))
          clear c80; exact absurd ((Option.some.inj H).trans HR_.out) (by decide)
         ·rw [if_neg c80] at H
          have c80b0 : (t1182 != t1167) = false := by simpa using c80
          (try (have c80b1 : decide (t1182 = t1167) = true := by simpa using c80))
          (try (have c80b2 : (t1182 == t1167) = true := by simpa using c80))
          clear c80; have HS_ := am_ H; clear H; refine ci3 BK1162 ?_; intros
          go_wp2_with (first | ((with_reducible refine gate_callee (f := 28) rfl ?_); refine gZ 108 Try.func28 #[.agg #[.slice Ao14 t1151.length co14, .slice Ao16 t1154.length co16, .slice Ao17 t1157.length co17], .int .i64 t1161, .int .i64 t1160] ?_; (with_reducible refine (impl_SurelyBefore.calls kj10 _ _ t1151 _ _ t1154 _ _ t1157 t1161 t1160 t1180 t1181 _ ?_ ?_ ?_ ?_ ?_ ?_ A42.out).mono ?_); exact (Zap HO_1163000); exact (Kd.R_reads' HO_1163000.out).2.1; exact (Zap HO_1163001); exact (Kd.R_reads' HO_1163001.out).2.1; exact (Zap HO_1163002); exact (Kd.R_reads' HO_1163002.out).2.1; rintro e w87 ⟨rfl, hb⟩; refine ⟨_, rfl, ?_⟩; replace HO_14 := am_ (Kd.S_below (Zcq HO_14) hb); replace HO_1163000 := (hbZ HO_1163000 hb); replace HO_1163001 := (hbZ HO_1163001 hb); replace HO_1163002 := (hbZ HO_1163002 hb); replace BK1162 := (bkZ BK1162 hb); replace HB := (bsZ (Ze GE1162) hb); clear hb; refine ci3 BK1162 ?_; intros) | ((with_reducible refine gate_callee (f := 30) rfl ?_); refine gZ 115 Try.func30 #[.agg #[.slice Ao14 t1151.length co14, .slice Ao16 t1154.length co16, .slice Ao17 t1157.length co17], .int .i64 t1161, .int .i64 t1160] ?_; (with_reducible refine (impl_MayMeet.calls kj10 _ _ t1151 _ _ t1154 _ _ t1157 t1161 t1160 t1182 t1183 _ ?_ ?_ ?_ ?_ ?_ ?_ A43.out).mono ?_); exact (Zap HO_1163000); exact (Kd.R_reads' HO_1163000.out).2.1; exact (Zap HO_1163001); exact (Kd.R_reads' HO_1163001.out).2.1; exact (Zap HO_1163002); exact (Kd.R_reads' HO_1163002.out).2.1; rintro e w89 ⟨rfl, hb⟩; refine ⟨_, rfl, ?_⟩; replace HO_14 := am_ (Kd.S_below (Zcq HO_14) hb); replace HO_1163000 := (hbZ HO_1163000 hb); replace HO_1163001 := (hbZ HO_1163001 hb); replace HO_1163002 := (hbZ HO_1163002 hb); replace BK1162 := (bkZ BK1162 hb); replace HB := (bsZ (Ze GE1162) hb); clear hb; refine ?roundEnd))
          case roundEnd =>
           by_cases c85 : t1160 = t1161
           ·have H := HS_.out
            clear HS_; rw [if_pos c85] at H; have c85b0 := beq_iff_eq.mpr c85; have c85b1 := bne_eq_false_iff_eq.mpr c85; clear c85; obtain rfl := Option.some.inj H
            go_wp2_with (first | fail)
            go_ret
            exact ⟨Zj, (Ze GE1162)⟩
           ·have H := HS_.out
            clear HS_; rw [if_neg c85] at H; have c85b0 := beq_eq_false_iff_ne.mpr c85; have c85b1 := bne_iff_ne.mpr c85; obtain ⟨ji90, hji90⟩ : ∃ j_ : Int, (mn t1160 t1161) = j_ := ⟨_, rfl⟩
            replace H : ((laws_hasRow.f kj10 t1171 (ji90) (mx t1160 t1161)).bind fun t1185 => (some (t1185 == (!t1180)))) = some r := by first | (rw [hji90] at H; exact H) | (simp only [hji90] at H ⊢; exact H)
            (try rw [hji90] at A42)
            (try rw [hji90] at A43)
            have hji90_ : (if t1161 < t1160 then t1161 else t1160) = ji90 := hji90; obtain ⟨ji91, hji91⟩ : ∃ j_ : Int, (mx t1160 t1161) = j_ := ⟨_, rfl⟩
            replace H : ((laws_hasRow.f kj10 t1171 (ji90) (ji91)).bind fun t1185 => (some (t1185 == (!t1180)))) = some r := by first | (rw [hji91] at H; exact H) | (simp only [hji91] at H ⊢; exact H)
            (try rw [hji91] at A42)
            (try rw [hji91] at A43)
            have hji91_ : (if t1160 < t1161 then t1161 else t1160) = ji91 := hji91; replace H := Option.bind_eq_some_iff.mp H; obtain ⟨t1185, A920, H⟩ := H; have A92 := am_ A920; clear A920; obtain rfl := Option.some.inj H; obtain ⟨Ao97, co97, eo97⟩ := Kd.S_slice HO_14.out; subst eo97
            go_wp2_with (first | (go_at_call 35; (with_reducible refine (laws_hasRow.calls kj10 _ _ t1171 ji90 ji91 t1185 _ ?_ ?_ A92.out).mono ?_); exact (Zdc HO_14); exact (Kd.S_reads' HO_14.out).2.1; rintro e w' ⟨rfl, ⟨nd, rfl⟩⟩))
            go_ret
            exact ⟨by first | rfl | (simp [errW_none, errW_some] <;> rfl) | (simp only [← hji90, ← hji91]; first | rfl | (simp [errW_none, errW_some] <;> rfl)) | (simp [*, errW_none, errW_some] <;> rfl), (Ze GE1162)⟩
        ·rw [if_neg c79] at H
         have c79b0 := beq_eq_false_iff_ne.mpr c79; have c79b1 := bne_iff_ne.mpr c79; exact absurd ((Option.some.inj H).trans HR_.out) (by decide)
      ·rw [if_neg c44] at H
       have c44b0 := beq_eq_false_iff_ne.mpr c44; have c44b1 := bne_iff_ne.mpr c44; exact absurd ((Option.some.inj H).trans HR_.out) (by decide)
     ·rw [if_neg c41] at H
      have c41b0 := beq_eq_false_iff_ne.mpr c41; have c41b1 := bne_iff_ne.mpr c41; obtain rfl := Option.some.inj H
      go_wp2
      go_ret
      exact ⟨Zj, (Ze GE1162)⟩
def laws_FnCueOrders.Pure : Prop := ∀ (l0 : List Int), l0.length ≤ maxLen → l0.length * 1 ≤ 140737488351232 → (∀ x ∈ l0, (Lit.int .u8 x).wf = true) → ∃ k, laws_FnCueOrders.f k l0 = some true
theorem laws_FnCueOrders.walk (P : laws_FnCueOrders.Pure) (a0 : Option Addr) (len0 cap0 : Nat) (z0 : List Int) (w : World) (w0 : (a0 = none ∧ len0 = 0 ∧ cap0 = 0 ∧ z0 = []) ∨ ∃ x, a0 = some x ∧ len0 ≤ cap0 ∧ cap0 ≤ maxLen ∧ z0.length = cap0 ∧ (∀ i, i < z0.length → w.cell? (x.add i) = some (.int .u8 (z0.getD i 0))) ∧ ∀ n ∈ z0, (Lit.int .u8 n).wf = true) (y0 : len0 * 1 ≤ 140737488351232) :
  Calls Try.prog 5 #[.slice a0 len0 cap0] w fun e w' => e = .returned (.bool true) ∧ Below w.heap.size w w' := by
 obtain ⟨l0, rfl, hr0, hm0, hw0, hc0⟩ := ReadsInt.ofRowC w0; obtain ⟨k, h⟩ := P l0 hm0 y0 hw0; refine (laws_FnCueOrders.calls k _ _ l0 true w (Kd.C_of_reads (d := (0 : Int)) (h1 := fun _ => rfl) hr0) hc0 h rfl).mono ?_; rintro e w' ⟨rfl, hd⟩; exact ⟨rfl, hd⟩
end Go.Proofs.Ythhijbdekboahaa.F
namespace Go.Proofs.Ythhijbdekboahaa.F
open Go.RowKit Go.Proofs.YthhijbdekboahaaW.PrintWords Go.Proofs.YthhijbdekboahaaW.PrintLast Go.Proofs.YthhijbdekboahaaW.PrintMore
set_option linter.unusedVariables false
set_option linter.unusedSimpArgs false
def Evt (P : Nat → Prop) : Prop := ∃ K, ∀ k, K ≤ k → P k
theorem Evt.mono {P Q : Nat → Prop} (h : Evt P) (hq : ∀ k, P k → Q k) : Evt Q := by
 obtain ⟨K, h⟩ := h; exact ⟨K, fun k hk => hq k (h k hk)⟩
theorem Evt.of {P : Nat → Prop} (h : ∀ k, P k) : Evt P := ⟨0, fun k _ => h k⟩
theorem Evt.succ {P : Nat → Prop} (h : Evt (fun k => P (k + 1))) : Evt P := by
 obtain ⟨K, h⟩ := h; refine ⟨K + 1, fun k hk => ?_⟩; obtain ⟨m, rfl⟩ : ∃ m, k = m + 1 := ⟨k - 1, by omega⟩; exact h m (by omega)
theorem w64 {n : Int} (h : -9223372036854775808 ≤ n ∧ n ≤ 9223372036854775807) : wrap64 n = n := by unfold wrap64; omega
def allF (p : Nat → Bool) : Nat → Nat → Bool
 | _, 0 => true
 | i, d + 1 => p i && allF p (i + 1) d
theorem allF_true {p : Nat → Bool} : ∀ (d i : Nat), allF p i d = true ↔ ∀ j, i ≤ j → j < i + d → p j = true
 | 0, i => by simp [allF]; intro j h1 h2; omega
 | d + 1, i => by
  unfold allF
  rw [Bool.and_eq_true, allF_true d (i + 1)]; constructor
  ·rintro ⟨h1, h2⟩ j h3 h4
   rcases Nat.eq_or_lt_of_le h3 with e | e
   ·exact e ▸ h1
   ·exact h2 j e (by omega)
  ·exact fun h => ⟨h i (Nat.le_refl _) (by omega), fun j h1 h2 => h j (by omega) (by omega)⟩
theorem all_loopF {f : Nat → Nat → Option Bool} {p : Nat → Bool} {e : Bool} (a n : Nat) (hs : ∀ k i, a ≤ i → i < n → f (k + 1) i = if p i = true then f k (i + 1) else some false) (he : ∀ k, f (k + 1) n = some e) :
  ∀ d k i, a ≤ i → n - i = d → i ≤ n → d < k → f k i = some (allF p i d && e) := by
 intro d
 induction d with
 | zero =>
  intro k i ha hd hi hk; obtain ⟨k, rfl⟩ : ∃ m, k = m + 1 := ⟨k - 1, by omega⟩
  have : i = n := by omega
  subst this; rw [he]
  rfl
 | succ d ih =>
  intro k i ha hd hi hk; obtain ⟨k, rfl⟩ : ∃ m, k = m + 1 := ⟨k - 1, by omega⟩; rw [hs k i ha (by omega)]
  unfold allF
  by_cases hp : p i = true
  ·rw [if_pos hp, ih k (i + 1) (by omega) (by omega) (by omega) (by omega), hp, Bool.true_and]
  ·rw [if_neg hp]
   replace hp := Bool.eq_false_iff.mpr hp; rw [hp, Bool.false_and, Bool.false_and]
theorem all_loop {f : Nat → Nat → Option Bool} {p : Nat → Bool} {e : Bool} (n : Nat) (hs : ∀ k i, i < n → f (k + 1) i = if p i = true then f k (i + 1) else some false) (he : ∀ k, f (k + 1) n = some e) :
  ∀ d k i, n - i = d → i ≤ n → d < k → f k i = some (allF p i d && e) := fun d k i => all_loopF 0 n (fun k i _ h => hs k i h) he d k i (Nat.zero_le _)
def foldF {σ : Type} (step : Nat → σ → σ) : Nat → Nat → σ → σ
 | _, 0, s => s
 | i, d + 1, s => foldF step (i + 1) d (step i s)
theorem foldF_snoc {σ : Type} (f : Nat → σ → σ) : ∀ (d i : Nat) (s : σ), foldF f i (d + 1) s = f (i + d) (foldF f i d s)
 | 0, i, s => rfl
 | d + 1, i, s => by
  have h := foldF_snoc f d (i + 1) (f i s); rw [show i + 1 + d = i + (d + 1) by omega] at h; exact h
theorem fold_loop {σ β : Type} {f : Nat → Nat → σ → Option β} {step : Nat → σ → σ} {I : Nat → σ → Prop} {e : σ → Option β} (n : Nat) (hs : ∀ k i s, i < n → I i s → f (k + 1) i s = f k (i + 1) (step i s)) (hI : ∀ i s, i < n → I i s → I (i + 1) (step i s)) (he : ∀ k s, I n s → f (k + 1) n s = e s) :
  ∀ d k i s, n - i = d → i ≤ n → I i s → d < k → f k i s = e (foldF step i d s) := by
 intro d
 induction d with
 | zero =>
  intro k i s hd hi h0 hk; obtain ⟨k, rfl⟩ : ∃ m, k = m + 1 := ⟨k - 1, by omega⟩
  have : i = n := by omega
  subst this; exact he k s h0
 | succ d ih =>
  intro k i s hd hi h0 hk; obtain ⟨k, rfl⟩ : ∃ m, k = m + 1 := ⟨k - 1, by omega⟩; rw [hs k i s (by omega) h0]; exact ih k (i + 1) _ (by omega) (by omega) (hI i s (by omega) h0) (by omega)
def inB (n lo hi : Int) : Bool := decide (lo ≤ n ∧ n ≤ hi)
theorem inB_true {n lo hi : Int} : inB n lo hi = true ↔ lo ≤ n ∧ n ≤ hi := by unfold inB; exact decide_eq_true_iff
theorem inB_false {n lo hi : Int} : inB n lo hi = false ↔ ¬ (lo ≤ n ∧ n ≤ hi) := by unfold inB; exact decide_eq_false_iff_not
theorem getD_take {α : Type} (xs : List α) (z : α) (n i : Nat) (h : i < n) : (xs.take n).getD i z = xs.getD i z := by
 rw [List.getD_eq_getElem?_getD, List.getD_eq_getElem?_getD, List.getElem?_take, if_pos h]
def Code (c : List Int) : Prop := c.length ≤ 4096 ∧ ∀ x ∈ c, 0 ≤ x ∧ x ≤ 255
def St (c : List Int) (a s : Int) : Prop := 0 ≤ a ∧ a ≤ (c.length : Int) ∧ 0 ≤ s ∧ s < 2147483647
theorem rd_code {c : List Int} (hc : Code c) (i : Int) : 0 ≤ rd c i ∧ rd c i ≤ 255 := by
 unfold rd
 rw [List.getD_eq_getElem?_getD]
 cases h : c[i.toNat]? with
 | none => exact ⟨Int.le_refl _, by decide⟩
 | some x => exact hc.2 x (List.mem_of_getElem? h)
theorem tmod_nn {a b : Int} (ha : 0 ≤ a) (hb : 0 < b) : 0 ≤ Int.tmod a b ∧ Int.tmod a b < b := by
 rw [Int.tmod_eq_emod_of_nonneg ha]; exact ⟨Int.emod_nonneg _ (by omega), Int.emod_lt_of_pos _ hb⟩
theorem next_ok {c : List Int} (hc : Code c) {a s : Int} (h : St c a s) (n : Int) (hn : n ≤ 4611686018427387904) : ∃ r a' s', spec_l01Next.f c a s n = some (r, a', s') ∧ St c a' s' ∧ 0 ≤ r ∧ (r < n ∨ (n ≤ 1 ∧ r = 0)) := by
 obtain ⟨h1, h2, h3, h4⟩ := h; have hl := hc.1
 unfold spec_l01Next.f
 by_cases c1 : n ≤ 1
 ·rw [if_pos c1]
  exact ⟨0, a, s, rfl, ⟨h1, h2, h3, h4⟩, Int.le_refl _, .inr ⟨c1, rfl⟩⟩
 ·have hs := tmod_nn (a := s * 48271 + 29) (b := 2147483647) (by omega) (by omega)
  rw [if_neg c1, w64 (n := s * 48271) (by omega), w64 (n := s * 48271 + 29) (by omega)]; generalize Int.tmod (s * 48271 + 29) 2147483647 = z at hs ⊢; have hd : Int.tdiv z 31 = z / 31 := Int.tdiv_eq_ediv_of_nonneg hs.1; rw [hd]
  have n0 : ¬ n = 0 := by omega
  by_cases c2 : a < (c.length : Int)
  ·have hr := rd_code hc a
   have p := tmod_nn (a := z / 31 + rd c a) (b := n) (by omega) (by omega); have q := tmod_nn (a := rd c a) (b := n) (by omega) (by omega); simp only [if_neg n0]; rw [if_pos c2, if_pos h1, w64 (n := a + 1) (by omega), w64 (n := z / 31) (by omega), w64 (n := rd c a) (by omega), w64 (n := z / 31 + rd c a) (by omega), w64 (n := a + 1 - 1) (by omega), show a + 1 - 1 = a by omega, w64 (n := rd c a) (by omega)]
   by_cases c3 : n ≤ 256
   ·rw [if_pos c3]
    by_cases c4 : Int.tmod (a + 1) 2 = 0
    ·rw [if_pos c4, if_pos h1, if_pos c2]
     exact ⟨_, _, _, rfl, ⟨by omega, by omega, hs.1, hs.2⟩, q.1, .inl q.2⟩
    ·rw [if_neg c4]
     exact ⟨_, _, _, rfl, ⟨by omega, by omega, hs.1, hs.2⟩, p.1, .inl p.2⟩
   ·rw [if_neg c3]
    exact ⟨_, _, _, rfl, ⟨by omega, by omega, hs.1, hs.2⟩, p.1, .inl p.2⟩
  ·have p := tmod_nn (a := z / 31) (b := n) (by omega) (by omega)
   simp only [if_neg n0]; rw [if_neg c2, w64 (n := z / 31) (by omega)]; exact ⟨_, _, _, rfl, ⟨h1, h2, hs.1, hs.2⟩, p.1, .inl p.2⟩
theorem pick_ok {c : List Int} (hc : Code c) {a s : Int} (h : St c a s) (l : List Int) (hl : 0 < l.length) (hl2 : l.length ≤ 1000) : ∃ r a' s', spec_l01Pick.f c a s l = some (r, a', s') ∧ St c a' s' ∧ r ∈ l := by
 obtain ⟨r, a', s', e, h', h0, h1⟩ := next_ok hc h (l.length : Int) (by omega); refine ⟨rd l r, a', s', ?_, h', ?_⟩
 ·unfold spec_l01Pick.f
  rw [e]; simp only [Option.bind_some]; rw [if_pos h0, if_pos (by omega)]
 ·have hr : r.toNat < l.length := by omega
  unfold rd
  rw [List.getD_eq_getElem?_getD, List.getElem?_eq_getElem hr]; exact List.getElem_mem hr
theorem from_ok {c : List Int} (hc : Code c) : ∃ s, (∀ k, 70 ≤ k → spec_l01From.f k c = some (c, 0, s)) ∧ St c 0 s := by
 have loop : ∀ (d : Nat) (i s : Int), 0 ≤ i → i ≤ 64 → 64 - i ≤ d → 0 ≤ s → s < 2147483647 → ∃ s', (∀ k, d < k → spec_l01From.l0 k c i c 0 s = some (c, 0, s')) ∧ St c 0 s' := by
  intro d
  induction d with
  | zero =>
   intro i s h1 h2 h3 h4 h5; refine ⟨s, fun k hk => ?_, by omega, by omega, h4, h5⟩; obtain ⟨k, rfl⟩ : ∃ m, k = m + 1 := ⟨k - 1, by omega⟩; simp only [spec_l01From.l0]; rw [if_neg (show ¬ i < 64 by omega)]
   split <;> rfl
  | succ d ih =>
   intro i s h1 h2 h3 h4 h5
   by_cases c1 : i < (c.length : Int) ∧ i < 64
   ·have hr := rd_code hc i
    have hm := tmod_nn (a := s * 83 + rd c i) (b := 2147483647) (by omega) (by omega); obtain ⟨s', e, hs⟩ := ih (i + 1) (Int.tmod (s * 83 + rd c i) 2147483647) (by omega) (by omega) (by omega) hm.1 hm.2; refine ⟨s', fun k hk => ?_, hs⟩; obtain ⟨k, rfl⟩ : ∃ m, k = m + 1 := ⟨k - 1, by omega⟩; simp only [spec_l01From.l0]; rw [if_pos c1.1, if_pos c1.2, if_pos h1, w64 (n := i + 1) (by omega), w64 (n := s * 83) (by omega), w64 (n := rd c i) (by omega), w64 (n := s * 83 + rd c i) (by omega)]; exact e k (by omega)
   ·refine ⟨s, fun k hk => ?_, by omega, by omega, h4, h5⟩
    obtain ⟨k, rfl⟩ : ∃ m, k = m + 1 := ⟨k - 1, by omega⟩; simp only [spec_l01From.l0]
    by_cases c2 : i < (c.length : Int)
    ·rw [if_pos c2, if_neg (fun x => c1 ⟨c2, x⟩)]
    ·rw [if_neg c2]
 obtain ⟨s', e, hs⟩ := loop 64 0 61043 (by omega) (by omega) (by omega) (by omega) (by omega); exact ⟨s', fun k hk => e k (by omega), hs⟩
theorem code_of {l : List Int} (h : ¬ (l.length : Int) > 4096) (hb : ∀ x ∈ l, (Go.Lit.int .u8 x).wf = true) : Code l := ⟨by omega, fun x hx => by
 have h := hb x hx
 simp [Go.Lit.wf, Go.IntKind.min, Go.IntKind.max, Go.IntKind.signed, Go.IntKind.bits] at h
 omega⟩
theorem good_art {c : List Int} (hc : Code c) {a s : Int} (h : St c a s) (nm : ByteArray) : ∃ q2 q3 q4 q5 q6 q7 q8 q9 a' s', spec_l03Good.f c a s nm = some (nm, q2, q3, q4, q5, q6, q7, q8, q9, a', s') ∧ St c a' s' := by
 obtain ⟨r1, a1, s1, e1, h1, _⟩ := next_ok hc h 4 (by decide); obtain ⟨r2, a2, s2, e2, h2, _⟩ := next_ok hc h1 281 (by decide); obtain ⟨r3, a3, s3, e3, h3, _⟩ := pick_ok hc h2 [50, 75, 100, 150, wrap64 (20 + r2)] (by simp) (by simp); obtain ⟨r4, a4, s4, e4, h4, _⟩ := next_ok hc h3 5000 (by decide); obtain ⟨r5, a5, s5, e5, h5, _⟩ := next_ok hc h4 300 (by decide); obtain ⟨r6, a6, s6, e6, h6, _⟩ := next_ok hc h5 2000 (by decide); obtain ⟨r7, a7, s7, e7, h7, _⟩ := next_ok hc h6 4 (by decide); obtain ⟨r8, a8, s8, e8, h8, _⟩ := next_ok hc h7 8 (by decide); obtain ⟨r9, a9, s9, e9, h9, _⟩ := next_ok hc h8 2000 (by decide)
 unfold spec_l03Good.f
 rw [e1, Option.bind_some]; dsimp only; rw [e2, Option.bind_some]; dsimp only; rw [e3, Option.bind_some]; dsimp only; rw [e4, Option.bind_some]; dsimp only; rw [e5, Option.bind_some]; dsimp only; rw [e6, Option.bind_some]; dsimp only; rw [e7, Option.bind_some]; dsimp only
 by_cases g : r1 = 1
 ·rw [if_pos g, e8, Option.bind_some]; dsimp only
  rw [e9, Option.bind_some]; dsimp only
  by_cases g2 : r1 = 2
  ·rw [if_pos g2]; exact ⟨_, _, _, _, _, _, _, _, _, _, rfl, h9⟩
  ·rw [if_neg g2]; exact ⟨_, _, _, _, _, _, _, _, _, _, rfl, h9⟩
 ·rw [if_neg g]
  by_cases g2 : r1 = 2
  ·rw [if_pos g2]; exact ⟨_, _, _, _, _, _, _, _, _, _, rfl, h7⟩
  ·rw [if_neg g2]; exact ⟨_, _, _, _, _, _, _, _, _, _, rfl, h7⟩
theorem In_eq (n lo hi : Int) : spec_l01In.f n lo hi = some (inB n lo hi) := by
 unfold spec_l01In.f inB
 by_cases h : n ≥ lo
 ·rw [if_pos h]; congr 1; simp; omega
 ·rw [if_neg h]; congr 1; simp; omega
theorem Wi_eq (n lo hi : Int) : impl_within.f n lo hi = some (inB n lo hi) := by
 unfold impl_within.f inB
 by_cases h : lo ≤ n
 ·rw [if_pos h]; congr 1; simp; omega
 ·rw [if_neg h]; congr 1; simp; omega
def bt_at (xs : List S104) (i : Nat) : Int := (xs.getD i z104).f0
def ln_at (xs : List S104) (i : Nat) : Int := (xs.getD i z104).f1
def barAt (xs : List S104) (i : Nat) : Bool := inB (bt_at xs i) 1 16 && inB (ln_at xs i) 100 5000
def isScore (xs : List S104) : Bool := allF (barAt xs) 0 xs.length && inB (xs.length : Int) 1 20
theorem rd_bar (xs : List S104) (i : Nat) : rd_T104 xs (i : Int) = xs.getD i z104 := by unfold rd_T104; rw [Int.toNat_natCast]
theorem spec_score (xs : List S104) (hx : xs.length ≤ 9223372036854775807) (k : Nat) (hk : xs.length < k) : spec_IsScore.f k xs = some (isScore xs) := by
 refine all_loop (f := fun k i => spec_IsScore.l0 k xs (i : Int)) xs.length (fun k i hi => ?_) (fun k => ?_) xs.length k 0 (by omega) (by omega) (by omega)
 ·show spec_IsScore.l0 (k + 1) xs i = _
  simp only [spec_IsScore.l0, In_eq, Option.bind_some]; rw [if_pos (by omega), if_pos (by omega), w64 (by omega), rd_bar]
  unfold barAt bt_at ln_at
  cases inB (xs.getD i z104).f0 1 16 <;> cases inB (xs.getD i z104).f1 100 5000 <;> rfl
 ·show spec_IsScore.l0 (k + 1) xs _ = _
  simp only [spec_IsScore.l0, In_eq, Option.bind_some]; rw [if_neg (by omega)]
theorem impl_score (xs : List S104) (hx : xs.length ≤ 9223372036854775807) (k : Nat) (hk : xs.length + 1 < k) : impl_IsScore.f k xs = some (isScore xs) := by
 obtain ⟨k, rfl⟩ : ∃ m, k = m + 1 := ⟨k - 1, by omega⟩
 unfold impl_IsScore.f isScore
 simp only [impl_IsScore.j0]
 by_cases h1 : (xs.length : Int) < 1
 ·rw [if_pos h1, if_pos trivial, inB_false.2 (by omega), Bool.and_false]
 ·rw [if_neg h1]
  by_cases h2 : (xs.length : Int) > 20
  ·rw [if_pos (decide_eq_true h2), inB_false.2 (by omega), Bool.and_false]
  ·rw [if_neg (by simpa using h2), inB_true.2 (by omega)]
   refine all_loop (f := fun k i => impl_IsScore.l0 k xs (xs.length : Int) (i : Int)) xs.length (fun k i hi => ?_) (fun k => ?_) xs.length k 0 (by omega) (by omega) (by omega)
   ·show impl_IsScore.l0 (k + 1) xs (xs.length : Int) i = _
    simp only [impl_IsScore.l0, Wi_eq, Option.bind_some]; rw [if_pos (by omega), if_pos (by omega), if_pos (by omega), w64 (by omega), rd_bar]
    unfold barAt bt_at ln_at
    cases inB (xs.getD i z104).f0 1 16 <;> cases inB (xs.getD i z104).f1 100 5000 <;> rfl
   ·show impl_IsScore.l0 (k + 1) xs (xs.length : Int) _ = _
    simp only [impl_IsScore.l0]; rw [if_neg (by omega)]
theorem isScore_true {xs : List S104} (h : isScore xs = true) : 1 ≤ xs.length ∧ xs.length ≤ 20 ∧ ∀ i, i < xs.length → 1 ≤ bt_at xs i ∧ bt_at xs i ≤ 16 ∧ 100 ≤ ln_at xs i ∧ ln_at xs i ≤ 5000 := by
 unfold isScore at h
 rw [Bool.and_eq_true, allF_true, inB_true] at h; refine ⟨by omega, by omega, fun i hi => ?_⟩; have := h.1 i (by omega) (by omega)
 unfold barAt at this
 rw [Bool.and_eq_true, inB_true, inB_true] at this
 omega
def tm (xs : List S104) (i : Nat) : Int := foldF (fun j s => s + bt_at xs j * ln_at xs j) 0 i 0
theorem tm_succ (xs : List S104) (i : Nat) : tm xs (i + 1) = tm xs i + bt_at xs i * ln_at xs i := by
 unfold tm
 rw [foldF_snoc, Nat.zero_add]
theorem prod_le {a b : Int} (h : 1 ≤ a ∧ a ≤ 16 ∧ 100 ≤ b ∧ b ≤ 5000) : 100 ≤ a * b ∧ a * b ≤ 80000 := by
 have h1 : 1 * b ≤ a * b := Int.mul_le_mul_of_nonneg_right h.1 (by omega); have h2 : a * b ≤ 16 * b := Int.mul_le_mul_of_nonneg_right h.2.1 (by omega)
 omega
theorem tm_le {xs : List S104} (h : isScore xs = true) : ∀ i, i ≤ xs.length → 0 ≤ tm xs i ∧ tm xs i ≤ 80000 * i
 | 0, _ => by unfold tm foldF; omega
 | i + 1, hi => by
  have h1 := tm_le h i (by omega); have h2 := prod_le ((isScore_true h).2.2 i (by omega)); rw [tm_succ]
  omega
def GoodBars (xs : List S104) : Prop := ∀ x ∈ xs, (2 ≤ x.f0 ∧ x.f0 ≤ 5) ∧ 400 ≤ x.f1 ∧ x.f1 ≤ 999
theorem score_good {c : List Int} (hc : Code c) {a s : Int} (h : St c a s) : ∃ xs a' s', (∀ k, 20 ≤ k → spec_l07Good.f k c a s = some (xs, a', s')) ∧ St c a' s' ∧ 1 ≤ xs.length ∧ xs.length ≤ 6 ∧ GoodBars xs := by
 have loop : ∀ (d : Nat) (n : Int) (xs : List S104) (a s : Int), n = d → GoodBars xs → xs.length + d ≤ 6 → St c a s → ∃ r a' s', (∀ k, d < k → spec_l07Good.l0 k xs n c a s = some (r, a', s')) ∧ St c a' s' ∧ r.length = xs.length + d ∧ GoodBars r := by
  intro d
  induction d with
  | zero =>
   intro n xs a s hn hg hl h; refine ⟨xs, a, s, fun k hk => ?_, h, rfl, hg⟩; obtain ⟨k, rfl⟩ : ∃ m, k = m + 1 := ⟨k - 1, by omega⟩; simp only [spec_l07Good.l0]; rw [if_neg (by omega)]
  | succ d ih =>
   intro n xs a s hn hg hl h; obtain ⟨r1, a1, s1, e1, h1, b1, c1⟩ := next_ok hc h 4 (by omega); obtain ⟨r2, a2, s2, e2, h2, b2, c2⟩ := next_ok hc h1 600 (by omega)
   obtain ⟨r, a', s', e, h', hr, hg'⟩ := ih (n - 1) (xs ++ [(⟨2 + r1, 400 + r2⟩ : S104)]) a2 s2 (by omega) (by
    intro x hx
    rcases List.mem_append.1 hx with y | y
    ·exact hg x y
    ·rw [List.mem_singleton.1 y]
     exact ⟨by show 2 ≤ 2 + r1 ∧ 2 + r1 ≤ 5; omega, by show 400 ≤ 400 + r2 ∧ 400 + r2 ≤ 999; omega⟩) (by rw [List.length_append]; show xs.length + 1 + d ≤ 6; omega) h2
   refine ⟨r, a', s', fun k hk => ?_, h', by rw [hr, List.length_append]; show xs.length + 1 + d = _; omega, hg'⟩; obtain ⟨k, rfl⟩ : ∃ m, k = m + 1 := ⟨k - 1, by omega⟩; simp only [spec_l07Good.l0]; rw [if_pos (by omega)]; simp only [e1, e2, Option.bind_some]; rw [if_pos (by omega), w64 (n := 2 + r1) (by omega), w64 (n := 400 + r2) (by omega), w64 (n := n - 1) (by omega)]; exact e k (by omega)
 obtain ⟨r1, a1, s1, e1, h1, b1, c1⟩ := next_ok hc h 6 (by omega); obtain ⟨r, a', s', e, h', hr, hg⟩ := loop (1 + r1).toNat (1 + r1) [] a1 s1 (by omega) (fun x hx => absurd hx (by simp)) (by show 0 + _ ≤ 6; omega) h1
 have hr' : r.length = (1 + r1).toNat := by rw [hr]; show 0 + _ = _; omega
 refine ⟨r, a', s', fun k hk => ?_, h', by omega, by omega, hg⟩
 unfold spec_l07Good.f
 rw [e1]; simp only [Option.bind_some]; rw [w64 (n := 1 + r1) (by omega)]; exact e k (by omega)
theorem score_draw {c : List Int} (hc : Code c) {a s : Int} (h : St c a s) : ∃ xs a' s', (∀ k, 60 ≤ k → spec_l07Draw.f k c a s = some (xs, a', s')) ∧ St c a' s' ∧ xs.length ≤ 30 := by
 have loop : ∀ (d : Nat) (xs : List S104) (a s : Int), 21 - xs.length = d → xs.length ≤ 30 → St c a s → ∃ r a' s', (∀ k, d < k → spec_l07Draw.l0 k xs c a s = some (r, a', s')) ∧ St c a' s' ∧ r.length ≤ 30 := by
  intro d
  induction d with
  | zero =>
   intro xs a s hd hx h; obtain ⟨r1, a1, s1, e1, h1, b1, b2⟩ := next_ok hc h 2 (by omega); refine ⟨xs, a1, s1, fun k hk => ?_, h1, hx⟩; obtain ⟨k, rfl⟩ : ∃ m, k = m + 1 := ⟨k - 1, by omega⟩; simp only [spec_l07Draw.l0, e1, Option.bind_some]; rw [w64 (n := 20 + r1) (by omega), if_neg (by omega)]
  | succ d ih =>
   intro xs a s hd hx h; obtain ⟨r1, a1, s1, e1, h1, b1, b2⟩ := next_ok hc h 2 (by omega)
   by_cases c1 : (xs.length : Int) < 20 + r1
   ·obtain ⟨r, a', s', e, h', hl⟩ := ih (xs ++ [(⟨4, 500⟩ : S104)]) a1 s1 (by rw [List.length_append]; show 21 - (xs.length + 1) = d; omega) (by rw [List.length_append]; show xs.length + 1 ≤ 30; omega) h1
    refine ⟨r, a', s', fun k hk => ?_, h', hl⟩; obtain ⟨k, rfl⟩ : ∃ m, k = m + 1 := ⟨k - 1, by omega⟩; simp only [spec_l07Draw.l0, e1, Option.bind_some]; rw [w64 (n := 20 + r1) (by omega), if_pos c1, if_pos (by omega)]; exact e k (by omega)
   ·refine ⟨xs, a1, s1, fun k hk => ?_, h1, hx⟩
    obtain ⟨k, rfl⟩ : ∃ m, k = m + 1 := ⟨k - 1, by omega⟩; simp only [spec_l07Draw.l0, e1, Option.bind_some]; rw [w64 (n := 20 + r1) (by omega), if_neg c1]
 obtain ⟨xs, a1, s1, e1, h1, l1, l2, hg⟩ := score_good hc h; obtain ⟨r2, a2, s2, e2, h2, b2, c2⟩ := next_ok hc h1 40 (by omega)
 by_cases d0 : r2 = 0
 ·obtain ⟨r3, a3, s3, e3, h3, _⟩ := pick_ok hc h2 [0, 1, 16, 17] (by simp) (by simp)
  refine ⟨xs.set (0 : Int).toNat (⟨r3, (rd_T104 xs 0).f1⟩ : S104), a3, s3, fun k hk => ?_, h3, by rw [List.length_set]; omega⟩
  unfold spec_l07Draw.f
  simp only [e1 k (by omega), e2, e3, Option.bind_some]; rw [if_pos d0, if_pos (by omega)]
 by_cases d1 : r2 = 1
 ·obtain ⟨r3, a3, s3, e3, h3, _⟩ := pick_ok hc h2 [99, 100, 5000, 5001] (by simp) (by simp)
  refine ⟨xs.set (0 : Int).toNat (⟨(rd_T104 xs 0).f0, r3⟩ : S104), a3, s3, fun k hk => ?_, h3, by rw [List.length_set]; omega⟩
  unfold spec_l07Draw.f
  simp only [e1 k (by omega), e2, e3, Option.bind_some]; rw [if_neg d0, if_pos d1, if_pos (by omega)]
 by_cases d2 : r2 = 2
 ·obtain ⟨r, a', s', e, h', hl⟩ := loop (21 - xs.length) xs a2 s2 rfl (by omega) h2
  refine ⟨r, a', s', fun k hk => ?_, h', hl⟩
  unfold spec_l07Draw.f
  simp only [e1 k (by omega), e2, Option.bind_some]; rw [if_neg d0, if_neg d1, if_pos d2]; exact e k (by omega)
 by_cases d3 : r2 = 3
 ·refine ⟨xs.take (0 : Int).toNat, a2, s2, fun k hk => ?_, h2, Nat.zero_le _⟩
  unfold spec_l07Draw.f
  simp only [e1 k (by omega), e2, Option.bind_some]; rw [if_neg d0, if_neg d1, if_neg d2, if_pos d3, if_pos (by omega)]
 ·refine ⟨xs, a2, s2, fun k hk => ?_, h2, by omega⟩
  unfold spec_l07Draw.f
  simp only [e1 k (by omega), e2, Option.bind_some]; rw [if_neg d0, if_neg d1, if_neg d2, if_neg d3]
def word (s : ByteArray) : Bool := allF (fun j => inB (bt s (j : Int)) 97 122) 0 s.size && inB (s.size : Int) 1 16
theorem spec_word (s : ByteArray) (hs : s.size ≤ 9223372036854775807) (k : Nat) (hk : s.size < k) : spec_IsWord.f k s = some (word s) := by
 refine all_loop (f := fun k i => spec_IsWord.l0 k s (i : Int)) s.size (fun k i hi => ?_) (fun k => ?_) s.size k 0 (by omega) (by omega) (by omega)
 ·show spec_IsWord.l0 (k + 1) s i = _
  simp only [spec_IsWord.l0]; rw [if_pos (by omega), if_pos (by omega), w64 (n := (i : Int) + 1) (by omega)]
  by_cases c1 : bt s (i : Int) < 97
  ·rw [if_pos c1, inB_false.2 (by omega), if_neg (by decide)]
  ·rw [if_neg c1]
   by_cases c2 : bt s (i : Int) > 122
   ·rw [if_pos c2, inB_false.2 (by omega), if_neg (by decide)]
   ·rw [if_neg c2, inB_true.2 (by omega), if_pos rfl]; rfl
 ·show spec_IsWord.l0 (k + 1) s _ = _
  simp only [spec_IsWord.l0]; rw [if_neg (by omega), In_eq]; rfl
theorem impl_word (s : ByteArray) (hs : s.size ≤ 9223372036854775807) (k : Nat) (hk : s.size + 1 < k) : impl_IsWord.f k s = some (word s) := by
 obtain ⟨k, rfl⟩ : ∃ m, k = m + 1 := ⟨k - 1, by omega⟩
 unfold impl_IsWord.f word
 simp only [impl_IsWord.j0]
 by_cases h1 : (s.size : Int) < 1
 ·rw [if_pos h1, if_pos trivial, inB_false.2 (by omega), Bool.and_false]
 ·rw [if_neg h1]
  by_cases h2 : (s.size : Int) > 16
  ·rw [if_pos (decide_eq_true h2), inB_false.2 (by omega), Bool.and_false]
  ·rw [if_neg (by simpa using h2), inB_true.2 (by omega)]
   refine all_loop (f := fun k i => impl_IsWord.l0 k s (i : Int)) s.size (fun k i hi => ?_) (fun k => ?_) s.size k 0 (by omega) (by omega) (by omega)
   ·show impl_IsWord.l0 (k + 1) s i = _
    simp only [impl_IsWord.l0]; rw [if_pos (by omega), if_pos (by omega), w64 (n := (i : Int) + 1) (by omega)]
    by_cases c1 : bt s (i : Int) < 97
    ·rw [if_pos c1, inB_false.2 (by omega), if_neg (by decide)]
    ·rw [if_neg c1]
     by_cases c2 : bt s (i : Int) > 122
     ·rw [if_pos c2, inB_false.2 (by omega), if_neg (by decide)]
     ·rw [if_neg c2, inB_true.2 (by omega), if_pos rfl]; rfl
   ·show impl_IsWord.l0 (k + 1) s _ = _
    simp only [impl_IsWord.l0]; rw [if_neg (by omega)]
def art (a : S62) : Bool := word a.f0 && (inB a.f1 0 3 && (inB a.f2 20 300 && (inB a.f3 0 10000 && (inB a.f4 0 a.f3 && (inB a.f5 1 50 && (inB a.f6 0 10000 && (inB a.f7 1 100000 && inB a.f8 0 3)))))))
theorem spec_art (a : S62) (hs : a.f0.size ≤ 9223372036854775807) (k : Nat) (hk : a.f0.size < k) : spec_IsArticle.f k a.f0 a.f1 a.f2 a.f3 a.f4 a.f5 a.f6 a.f7 a.f8 = some (art a) := by
 unfold spec_IsArticle.f art
 rw [spec_word a.f0 hs k hk]; simp only [In_eq, Option.bind_some]
 cases word a.f0 <;> cases inB a.f1 0 3 <;> cases inB a.f2 20 300 <;> cases inB a.f3 0 10000 <;> cases inB a.f4 0 a.f3 <;> cases inB a.f5 1 50 <;> cases inB a.f6 0 10000 <;> cases inB a.f7 1 100000 <;> rfl
theorem impl_art (a : S62) (hs : a.f0.size ≤ 9223372036854775807) (k : Nat) (hk : a.f0.size + 1 < k) : impl_IsArticle.f k a.f0 a.f1 a.f2 a.f3 a.f4 a.f5 a.f6 a.f7 a.f8 = some (art a) := by
 unfold impl_IsArticle.f art
 rw [impl_word a.f0 hs k hk]; simp only [Wi_eq, Option.bind_some]
 cases word a.f0 <;> cases inB a.f1 0 3 <;> cases inB a.f2 20 300 <;> cases inB a.f3 0 10000 <;> cases inB a.f4 0 a.f3 <;> cases inB a.f5 1 50 <;> cases inB a.f6 0 10000 <;> cases inB a.f7 1 100000 <;> rfl
def ar_at (xs : List S62) (i : Nat) : S62 := xs.getD i z62
theorem rd_art (xs : List S62) (i : Nat) : rd_T62 xs (i : Int) = ar_at xs i := by unfold rd_T62 ar_at; rw [Int.toNat_natCast]
def artAt (xs : List S62) (i : Nat) : Bool := art (ar_at xs i) && (decide (i = 0) || Op.bytesLess (ar_at xs (i - 1)).f0.toList (ar_at xs i).f0.toList)
def areArts (xs : List S62) : Bool := allF (artAt xs) 0 xs.length && decide ((xs.length : Int) ≤ 12)
def Small (B : Nat) (xs : List S62) : Prop := B ≤ 9223372036854775807 ∧ ∀ x ∈ xs, x.f0.size ≤ B
theorem small_at {B : Nat} {xs : List S62} (h : Small B xs) (i : Nat) (hi : i < xs.length) : (ar_at xs i).f0.size ≤ B := by
 unfold ar_at
 rw [List.getD_eq_getElem?_getD, List.getElem?_eq_getElem hi]; exact h.2 _ (List.getElem_mem hi)
theorem spec_arts (B : Nat) (xs : List S62) (hx : xs.length ≤ 9223372036854775807) (hB : Small B xs) (k : Nat) (hk : xs.length + B < k) : spec_AreArticles.f k xs = some (areArts xs) := by
 have loop : ∀ d k i, xs.length - i = d → i ≤ xs.length → d + B < k → spec_AreArticles.l0 k xs (i : Int) = some (allF (artAt xs) i d && decide ((xs.length : Int) ≤ 12)) := by
  intro d
  induction d with
  | zero =>
   intro k i hd hi hk; obtain ⟨k, rfl⟩ : ∃ m, k = m + 1 := ⟨k - 1, by omega⟩; simp only [spec_AreArticles.l0]; rw [if_neg (by omega)]
   rfl
  | succ d ih =>
   intro k i hd hi hk; obtain ⟨k, rfl⟩ : ∃ m, k = m + 1 := ⟨k - 1, by omega⟩; have hb := small_at hB i (by omega); have hB1 := hB.1; have nx := ih k (i + 1) (by omega) (by omega) (by omega); simp only [spec_AreArticles.l0]; rw [if_pos (by omega), if_pos (by omega), rd_art, spec_art _ (by omega) k (by omega), w64 (n := (i : Int) + 1) (by omega)]; simp only [Option.bind_some]
   unfold allF artAt
   cases ha : art (ar_at xs i) with
   | false => rfl
   | true =>
    rw [if_pos rfl, Bool.true_and]
    by_cases i0 : i = 0
    ·subst i0
     rw [if_neg (by omega), decide_eq_true rfl, Bool.true_or, Bool.true_and]; exact nx
    ·rw [if_pos (by omega), w64 (n := (i : Int) - 1) (by omega), if_pos (by omega), if_pos (by omega), show (i : Int) - 1 = ((i - 1 : Nat) : Int) by omega, rd_art, decide_eq_false i0, Bool.false_or]
     cases hl : Op.bytesLess (ar_at xs (i - 1)).f0.toList (ar_at xs i).f0.toList with
     | false => rfl
     | true => rw [if_pos rfl, Bool.true_and]; exact nx
 unfold spec_AreArticles.f
 exact loop xs.length k 0 (by omega) (by omega) hk
theorem impl_arts (B : Nat) (xs : List S62) (hx : xs.length ≤ 9223372036854775807) (hB : Small B xs) (k : Nat) (hk : xs.length + B + 1 < k) : impl_AreArticles.f k xs = some (areArts xs) := by
 have loop : ∀ d k i, xs.length - i = d → i ≤ xs.length → d + B + 1 < k → impl_AreArticles.l0 k xs xs (xs.length : Int) (i : Int) = some (allF (artAt xs) i d && true) := by
  intro d
  induction d with
  | zero =>
   intro k i hd hi hk; obtain ⟨k, rfl⟩ : ∃ m, k = m + 1 := ⟨k - 1, by omega⟩; simp only [impl_AreArticles.l0]; rw [if_neg (by omega)]
   rfl
  | succ d ih =>
   intro k i hd hi hk; obtain ⟨k, rfl⟩ : ∃ m, k = m + 1 := ⟨k - 1, by omega⟩; have hb := small_at hB i (by omega); have hB1 := hB.1; have nx := ih k (i + 1) (by omega) (by omega) (by omega); simp only [impl_AreArticles.l0]; rw [if_pos (by omega), if_pos (by omega), if_pos (by omega), rd_art, impl_art _ (by omega) k (by omega), w64 (n := (i : Int) + 1) (by omega)]; simp only [Option.bind_some]
   unfold allF artAt
   cases ha : art (ar_at xs i) with
   | false => rfl
   | true =>
    rw [if_pos rfl, Bool.true_and]
    by_cases i0 : i = 0
    ·subst i0
     rw [if_neg (by omega), decide_eq_true rfl, Bool.true_or, Bool.true_and]; exact nx
    ·rw [if_pos (by omega), w64 (n := (i : Int) - 1) (by omega), if_pos (by omega), if_pos (by omega), show (i : Int) - 1 = ((i - 1 : Nat) : Int) by omega, rd_art, decide_eq_false i0, Bool.false_or]
     cases hl : Op.bytesLess (ar_at xs (i - 1)).f0.toList (ar_at xs i).f0.toList with
     | false => rfl
     | true => rw [if_pos rfl, Bool.true_and]; exact nx
 unfold impl_AreArticles.f areArts
 by_cases c : (xs.length : Int) > 12
 ·rw [if_pos c, decide_eq_false (by omega), Bool.and_false]
 ·rw [if_neg c, decide_eq_true (by omega)]
  exact loop xs.length k 0 (by omega) (by omega) hk
def findF (xs : List S62) (s : ByteArray) : Nat → Nat → Int
 | _, 0 => -1
 | i, d + 1 => if (ar_at xs i).f0.toList = s.toList then (i : Int) else findF xs s (i + 1) d
def find (xs : List S62) (s : ByteArray) : Int := findF xs s 0 xs.length
theorem find_go (xs : List S62) (hx : xs.length ≤ 9223372036854775807) (s : ByteArray) : ∀ d k i, xs.length - i = d → i ≤ xs.length → d < k → spec_l03Find.l0 k xs s (i : Int) = some (findF xs s i d) ∧ impl_articleOf.l0 k s xs (xs.length : Int) (i : Int) = some (findF xs s i d) := by
 intro d
 induction d with
 | zero =>
  intro k i hd hi hk; obtain ⟨k, rfl⟩ : ∃ m, k = m + 1 := ⟨k - 1, by omega⟩; simp only [spec_l03Find.l0, impl_articleOf.l0]; rw [if_neg (by omega), if_neg (by omega)]; exact ⟨rfl, rfl⟩
 | succ d ih =>
  intro k i hd hi hk; obtain ⟨k, rfl⟩ : ∃ m, k = m + 1 := ⟨k - 1, by omega⟩; obtain ⟨a, b⟩ := ih k (i + 1) (by omega) (by omega) (by omega); have w : wrap64 ((i : Int) + 1) = ((i + 1 : Nat) : Int) := w64 (by omega)
  have g1 : (i : Int) < (xs.length : Int) := by clear w; omega
  have g2 : 0 ≤ (i : Int) := by clear w; omega
  simp only [spec_l03Find.l0, impl_articleOf.l0, if_pos g1, if_pos g2, rd_art, w]
  unfold findF
  by_cases c : (ar_at xs i).f0.toList = s.toList
  ·rw [if_pos c, if_pos c, if_pos c]; exact ⟨rfl, rfl⟩
  ·rw [if_neg c, if_neg c, if_neg c]; exact ⟨a, b⟩
theorem spec_find (xs : List S62) (hx : xs.length ≤ 9223372036854775807) (s : ByteArray) (k : Nat) (hk : xs.length < k) : spec_l03Find.f k xs s = some (find xs s) := (find_go xs hx s xs.length k 0 (by omega) (by omega) hk).1
theorem impl_find (xs : List S62) (hx : xs.length ≤ 9223372036854775807) (s : ByteArray) (k : Nat) (hk : xs.length < k) : impl_articleOf.f k xs s = some (find xs s) := (find_go xs hx s xs.length k 0 (by omega) (by omega) hk).2
theorem findF_range (xs : List S62) (s : ByteArray) : ∀ d i, findF xs s i d = -1 ∨ ((i : Int) ≤ findF xs s i d ∧ findF xs s i d < (i : Int) + d)
 | 0, _ => .inl rfl
 | d + 1, i => by
  unfold findF
  by_cases c : (ar_at xs i).f0.toList = s.toList
  ·rw [if_pos c]; exact .inr ⟨Int.le_refl _, by omega⟩
  ·rw [if_neg c]
   rcases findF_range xs s d (i + 1) with h | h
   ·exact .inl h
   ·exact .inr ⟨by omega, by omega⟩
theorem find_range (xs : List S62) (s : ByteArray) : find xs s = -1 ∨ (0 ≤ find xs s ∧ find xs s < (xs.length : Int)) := by
 have := findF_range xs s xs.length 0
 unfold find
 omega
theorem spec_time {xs : List S104} (h : isScore xs = true) (bar : Nat) (hb : bar < xs.length) (beat : Int) (h0 : 0 ≤ beat ∧ beat ≤ 16) (k : Nat) (hk : bar < k) : spec_l07Time.f k xs (bar : Int) beat = some (tm xs bar + beat * ln_at xs bar) := by
 have hs := isScore_true h; have hl := hs.2.2 bar hb
 have hb2 : 0 ≤ beat * ln_at xs bar ∧ beat * ln_at xs bar ≤ 80000 := by
  have h1 : 0 * ln_at xs bar ≤ beat * ln_at xs bar := Int.mul_le_mul_of_nonneg_right h0.1 (by omega); have h2 : beat * ln_at xs bar ≤ 16 * ln_at xs bar := Int.mul_le_mul_of_nonneg_right h0.2 (by omega)
  omega
 refine fold_loop (f := fun k i s => spec_l07Time.l0 k xs (bar : Int) beat s (i : Int)) (step := fun j s => s + bt_at xs j * ln_at xs j) (I := fun i s => s = tm xs i) (e := fun s => some (s + beat * ln_at xs bar)) bar (fun k i s hi hI => ?_) (fun i s hi hI => ?_) (fun k s hI => ?_) bar k 0 0 (by omega) (by omega) rfl hk
 ·have h1 := tm_le h i (by omega)
  have h2 := prod_le (hs.2.2 i (by omega)); show spec_l07Time.l0 (k + 1) xs (bar : Int) beat s (i : Int) = spec_l07Time.l0 k xs (bar : Int) beat (s + bt_at xs i * ln_at xs i) ((i + 1 : Nat) : Int); simp only [spec_l07Time.l0]; rw [if_pos (by omega), if_pos (by omega), if_pos (by omega), rd_bar]; show spec_l07Time.l0 k xs (bar : Int) beat (wrap64 (s + wrap64 (bt_at xs i * ln_at xs i))) (wrap64 ((i : Int) + 1)) = _; rw [w64 (n := bt_at xs i * ln_at xs i) (by omega), w64 (n := s + _) (by omega), w64 (by omega)]
  rfl
 ·show s + bt_at xs i * ln_at xs i = tm xs (i + 1)
  rw [tm_succ, hI]
 ·have h1 := tm_le h bar (by omega)
  show spec_l07Time.l0 (k + 1) xs (bar : Int) beat s (bar : Int) = some (s + beat * ln_at xs bar); simp only [spec_l07Time.l0]; rw [if_neg (by omega), if_pos (by omega), if_pos (by omega), rd_bar]; show some (wrap64 (s + wrap64 (beat * ln_at xs bar))) = _; rw [w64 (n := beat * ln_at xs bar) (by omega), w64 (by omega)]
theorem impl_time {xs : List S104} (h : isScore xs = true) (bar : Nat) (beat : Int) (hb : bar < xs.length ∨ (bar = xs.length ∧ beat = 0)) (h0 : 0 ≤ beat ∧ beat ≤ 16) (k : Nat) (hk : bar < k) : impl_beatTime.f k xs (bar : Int) beat = some (tm xs bar + beat * ln_at xs bar) := by
 have hs := isScore_true h
 have hlen : (xs.take bar).length = bar := by rw [List.length_take]; omega
 unfold impl_beatTime.f
 rw [if_pos (by omega), if_pos (by omega), Int.toNat_natCast]; simp only [Option.bind_some]; rw [hlen]; refine fold_loop (f := fun k i s => impl_beatTime.l0 k xs (bar : Int) beat s (xs.take bar) (bar : Int) (i : Int)) (step := fun j s => s + bt_at xs j * ln_at xs j) (I := fun i s => s = tm xs i) (e := fun s => some (s + beat * ln_at xs bar)) bar (fun k i s hi hI => ?_) (fun i s hi hI => ?_) (fun k s hI => ?_) bar k 0 0 (by omega) (by omega) rfl hk
 ·have h1 := tm_le h i (by omega)
  have h2 := prod_le (hs.2.2 i (by omega)); show impl_beatTime.l0 (k + 1) xs (bar : Int) beat s (xs.take bar) (bar : Int) (i : Int) = impl_beatTime.l0 k xs (bar : Int) beat (s + bt_at xs i * ln_at xs i) (xs.take bar) (bar : Int) ((i + 1 : Nat) : Int); simp only [impl_beatTime.l0]; rw [if_pos (by omega), if_pos (by omega), if_pos (by rw [hlen]; omega), rd_bar, getD_take _ _ _ _ hi]; show impl_beatTime.l0 k xs (bar : Int) beat (wrap64 (s + wrap64 (bt_at xs i * ln_at xs i))) (xs.take bar) (bar : Int) (wrap64 ((i : Int) + 1)) = _; rw [w64 (n := bt_at xs i * ln_at xs i) (by omega), w64 (n := s + _) (by omega), w64 (by omega)]
  rfl
 ·show s + bt_at xs i * ln_at xs i = tm xs (i + 1)
  rw [tm_succ, hI]
 ·have h1 := tm_le h bar (by omega)
  show impl_beatTime.l0 (k + 1) xs (bar : Int) beat s (xs.take bar) (bar : Int) (bar : Int) = some (s + beat * ln_at xs bar); simp only [impl_beatTime.l0]; rw [if_neg (by omega)]
  by_cases hp : beat > 0
  ·have hlt : bar < xs.length := by omega
   have hl := hs.2.2 bar hlt
   have hb2 : 0 ≤ beat * ln_at xs bar ∧ beat * ln_at xs bar ≤ 80000 := by
    have h1 : 0 * ln_at xs bar ≤ beat * ln_at xs bar := Int.mul_le_mul_of_nonneg_right h0.1 (by omega); have h2 : beat * ln_at xs bar ≤ 16 * ln_at xs bar := Int.mul_le_mul_of_nonneg_right h0.2 (by omega)
    omega
   rw [if_pos hp, if_pos (by omega), if_pos (by omega), rd_bar]; show some (wrap64 (s + wrap64 (beat * ln_at xs bar))) = _; rw [w64 (n := beat * ln_at xs bar) (by omega), w64 (by omega)]
  ·have e : beat = 0 := by omega
   rw [if_neg hp, e, Int.zero_mul, Int.add_zero]
theorem index_eq (a n : Int) : impl_isIndex.f a n = some (inB a 0 (wrap64 (n - 1))) := by
 unfold impl_isIndex.f
 simp only [Wi_eq, Option.bind_some]
def hasBeat (xs : List S104) (bar beat : Int) : Bool := inB bar 0 ((xs.length : Int) - 1) && inB beat 0 (bt_at xs bar.toNat - 1)
theorem hasBeat_true {xs : List S104} {bar beat : Int} (h : hasBeat xs bar beat = true) : ∃ b : Nat, bar = b ∧ b < xs.length ∧ 0 ≤ beat ∧ beat ≤ bt_at xs b - 1 := by
 unfold hasBeat at h
 rw [Bool.and_eq_true, inB_true, inB_true] at h; exact ⟨bar.toNat, by omega, by omega, h.2⟩
theorem spec_has {xs : List S104} (h : isScore xs = true) (bar beat : Int) : spec_l07Has.f xs bar beat = some (hasBeat xs bar beat) := by
 have hs := isScore_true h
 unfold spec_l07Has.f hasBeat
 rw [w64 (n := (xs.length : Int) - 1) (by omega), In_eq]; simp only [Option.bind_some]
 cases g : inB bar 0 ((xs.length : Int) - 1) with
 | false => rfl
 | true =>
  rw [inB_true] at g; obtain ⟨b, rfl⟩ : ∃ n : Nat, bar = n := ⟨bar.toNat, by omega⟩; have hb := hs.2.2 b (by omega); rw [if_pos rfl, if_pos (by omega), if_pos (by omega), rd_bar]; show ((spec_l01In.f beat 0 (wrap64 (bt_at xs b - 1))).bind fun t => some t) = _; rw [w64 (by omega), In_eq]; rfl
theorem impl_has {xs : List S104} (h : isScore xs = true) (bar beat : Int) : impl_isBeat.f xs bar beat = some (hasBeat xs bar beat) := by
 have hs := isScore_true h
 unfold impl_isBeat.f hasBeat
 rw [index_eq, w64 (n := (xs.length : Int) - 1) (by omega)]; simp only [Option.bind_some]
 cases g : inB bar 0 ((xs.length : Int) - 1) with
 | false => rfl
 | true =>
  rw [inB_true] at g; obtain ⟨b, rfl⟩ : ∃ n : Nat, bar = n := ⟨bar.toNat, by omega⟩; have hb := hs.2.2 b (by omega); rw [if_pos rfl, if_pos (by omega), if_pos (by omega), rd_bar]; show ((impl_within.f beat 0 (wrap64 (bt_at xs b - 1))).bind fun t => some t) = _; rw [w64 (by omega), Wi_eq]; rfl
def cu_at (C : List S39) (i : Nat) : S39 := C.getD i z39
theorem rd_cue (C : List S39) (i : Nat) : rd_T39 C (i : Int) = cu_at C i := by unfold rd_T39 cu_at; rw [Int.toNat_natCast]
def arOf (B : List S62) (c : S39) : S62 := ar_at B (find B c.f2).toNat
def ftime (A : List S104) (B : List S62) (c : S39) : Int := tm A c.f0.toNat + c.f1 * ln_at A c.f0.toNat - (arOf B c).f3
theorem areArts_true {xs : List S62} (h : areArts xs = true) : xs.length ≤ 12 ∧ ∀ i, i < xs.length → art (ar_at xs i) = true := by
 unfold areArts at h
 rw [Bool.and_eq_true, allF_true, decide_eq_true_iff] at h; refine ⟨by omega, fun i hi => ?_⟩; have := h.1 i (by omega) (by omega)
 unfold artAt at this
 rw [Bool.and_eq_true] at this; exact this.1
theorem art_true {a : S62} (h : art a = true) : (0 ≤ a.f1 ∧ a.f1 ≤ 3) ∧ (20 ≤ a.f2 ∧ a.f2 ≤ 300) ∧ (0 ≤ a.f3 ∧ a.f3 ≤ 10000) ∧ (0 ≤ a.f4 ∧ a.f4 ≤ a.f3) ∧ (1 ≤ a.f5 ∧ a.f5 ≤ 50) ∧ (0 ≤ a.f6 ∧ a.f6 ≤ 10000) ∧ (1 ≤ a.f7 ∧ a.f7 ≤ 100000) ∧ 0 ≤ a.f8 ∧ a.f8 ≤ 3 := by
 unfold art at h
 simp only [Bool.and_eq_true, inB_true] at h; exact h.2
theorem arOf_ok {B : List S62} (hB : areArts B = true) {c : S39} (hc : 0 ≤ find B c.f2) : art (arOf B c) = true ∧ find B c.f2 < (B.length : Int) := by
 rcases find_range B c.f2 with h | h
 ·omega
 ·exact ⟨(areArts_true hB).2 _ (by omega), h.2⟩
theorem time_range {A : List S104} (hA : isScore A = true) {b : Nat} (hb : b < A.length) {e : Int} (he : 0 ≤ e ∧ e ≤ bt_at A b - 1) : 0 ≤ tm A b + e * ln_at A b ∧ tm A b + e * ln_at A b ≤ 2000000 := by
 have hs := isScore_true hA; have hl := hs.2.2 b hb; have ht := tm_le hA b (by omega); have h1 : 0 ≤ e * ln_at A b := Int.mul_nonneg he.1 (by omega); have h2 : e * ln_at A b ≤ 16 * ln_at A b := Int.mul_le_mul_of_nonneg_right (by omega) (by omega)
 omega
theorem ftime_range {A : List S104} (hA : isScore A = true) {B : List S62} (hB : areArts B = true) {c : S39} (hc : 0 ≤ find B c.f2) (hb : hasBeat A c.f0 c.f1 = true) : -10000 ≤ ftime A B c ∧ ftime A B c ≤ 2000000 := by
 obtain ⟨b, e, h1, h2, h3⟩ := hasBeat_true hb; have ha := art_true (arOf_ok hB hc).1; have := time_range hA h1 ⟨h2, h3⟩
 unfold ftime
 rw [e, Int.toNat_natCast]
 omega
theorem spec_ftime {A : List S104} (hA : isScore A = true) {B : List S62} (hB : areArts B = true) (C : List S39) {c : S39} (hc : 0 ≤ find B c.f2) (hb : hasBeat A c.f0 c.f1 = true) (k : Nat) (hk : 100 ≤ k) : spec_l08Time.f k A B C c.f0 c.f1 c.f2 c.f3 = some (ftime A B c) := by
 obtain ⟨b, e, h1, h2, h3⟩ := hasBeat_true hb; have hs := isScore_true hA; have hl := hs.2.2 b h1; have hf := arOf_ok hB hc; have hr := time_range hA h1 ⟨h2, h3⟩; have ha := art_true hf.1; have hB12 := (areArts_true hB).1
 have ft : ftime A B c = tm A b + c.f1 * ln_at A b - (arOf B c).f3 := by unfold ftime; rw [e, Int.toNat_natCast]
 unfold spec_l08Time.f
 rw [e, spec_time hA b h1 c.f1 (by omega) k (by omega)]; simp only [Option.bind_some]; rw [spec_find B (by omega) c.f2 k (by omega)]; simp only [Option.bind_some]; rw [if_pos hc, if_pos hf.2, ft]
 have er : rd_T62 B (find B c.f2) = arOf B c := by
  have := rd_art B (find B c.f2).toNat; rw [show ((find B c.f2).toNat : Int) = find B c.f2 by omega] at this; exact this
 rw [er, w64 (by omega)]
theorem impl_ftime {A : List S104} (hA : isScore A = true) {B : List S62} (hB : areArts B = true) (C : List S39) (c : S39) (k : Nat) (hk : 100 ≤ k) : impl_firedAt.f k A B C c.f0 c.f1 c.f2 c.f3 = some (if 0 ≤ find B c.f2 ∧ hasBeat A c.f0 c.f1 = true then mx (-1) (ftime A B c) else -1) := by
 have hs := isScore_true hA; have hB12 := (areArts_true hB).1
 unfold impl_firedAt.f
 rw [impl_find B (by omega) c.f2 k (by omega)]; simp only [Option.bind_some]
 by_cases hc : 0 ≤ find B c.f2
 ·rw [if_neg (by omega), impl_has hA]
  simp only [Option.bind_some]
  by_cases hb : hasBeat A c.f0 c.f1 = true
  ·obtain ⟨b, e, h1, h2, h3⟩ := hasBeat_true hb
   have hl := hs.2.2 b h1; have hf := arOf_ok hB hc; have hr := time_range hA h1 ⟨h2, h3⟩; have ha := art_true hf.1
   have ft : ftime A B c = tm A b + c.f1 * ln_at A b - (arOf B c).f3 := by unfold ftime; rw [e, Int.toNat_natCast]
   have er : rd_T62 B (find B c.f2) = arOf B c := by
    have := rd_art B (find B c.f2).toNat; rw [show ((find B c.f2).toNat : Int) = find B c.f2 by omega] at this; exact this
   rw [if_pos hb, if_pos (show 0 ≤ find B c.f2 ∧ hasBeat A c.f0 c.f1 = true from ⟨hc, hb⟩), e, impl_time hA b c.f1 (.inl h1) (by omega) k (by omega)]; simp only [Option.bind_some]; rw [if_pos hc, if_pos hf.2, er, ft, w64 (by omega)]
  ·rw [if_neg hb, if_neg (show ¬ (0 ≤ find B c.f2 ∧ hasBeat A c.f0 c.f1 = true) from fun x => hb x.2)]
 ·rw [if_pos (by omega), if_neg (show ¬ (0 ≤ find B c.f2 ∧ hasBeat A c.f0 c.f1 = true) from fun x => hc x.1)]
def cueOk (A : List S104) (B : List S62) (c : S39) : Bool := hasBeat A c.f0 c.f1 && (decide (0 ≤ find B c.f2) && (inB c.f3 0 11 && decide (0 ≤ ftime A B c)))
def isShow (A : List S104) (B : List S62) (C : List S39) : Bool := isScore A && (areArts B && (decide ((C.length : Int) ≤ 20) && allF (fun i => cueOk A B (cu_at C i)) 0 C.length))
theorem cueOk_true {A : List S104} {B : List S62} {c : S39} (h : cueOk A B c = true) : hasBeat A c.f0 c.f1 = true ∧ 0 ≤ find B c.f2 ∧ (0 ≤ c.f3 ∧ c.f3 ≤ 11) ∧ 0 ≤ ftime A B c := by
 unfold cueOk at h
 simpa only [Bool.and_eq_true, inB_true, decide_eq_true_iff] using h
theorem isShow_true {A : List S104} {B : List S62} {C : List S39} (h : isShow A B C = true) : isScore A = true ∧ areArts B = true ∧ C.length ≤ 20 ∧ ∀ i, i < C.length → cueOk A B (cu_at C i) = true := by
 unfold isShow at h
 rw [Bool.and_eq_true, Bool.and_eq_true, Bool.and_eq_true, allF_true, decide_eq_true_iff] at h; exact ⟨h.1, h.2.1, by omega, fun i hi => h.2.2.2 i (by omega) (by omega)⟩
theorem spec_show (n : Nat) (A : List S104) (B : List S62) (C : List S39) (hA : A.length ≤ 9223372036854775807) (hB : B.length ≤ 9223372036854775807) (hC : C.length ≤ 9223372036854775807) (hS : Small n B) (k : Nat) (hk : A.length + B.length + C.length + n + 200 ≤ k) : spec_IsShow.f k A B C = some (isShow A B C) := by
 obtain ⟨k, rfl⟩ : ∃ m, k = m + 1 := ⟨k - 1, by omega⟩
 unfold spec_IsShow.f isShow
 rw [spec_score A (by omega) (k + 1) (by omega)]; simp only [Option.bind_some]
 cases a : isScore A with
 | false => rfl
 | true =>
  rw [if_pos rfl, spec_arts n B (by omega) hS (k + 1) (by omega)]; simp only [Option.bind_some]
  cases b : areArts B with
  | false => rfl
  | true =>
   rw [if_pos rfl]
   by_cases c : (C.length : Int) > 20
   ·rw [decide_eq_true c, decide_eq_false (by omega)]; rfl
   ·rw [decide_eq_false c, decide_eq_true (by omega)]
    simp only [spec_IsShow.j0, Bool.false_eq_true, if_false, Bool.true_and]; have hB12 := (areArts_true b).1
    have loop : ∀ d k i, C.length - i = d → i ≤ C.length → d + 110 ≤ k → spec_IsShow.l0 k (i : Int) A B C = some (allF (fun i => cueOk A B (cu_at C i)) i d) := by
     intro d
     induction d with
     | zero =>
      intro k i hd hi hk; obtain ⟨k, rfl⟩ : ∃ m, k = m + 1 := ⟨k - 1, by omega⟩; simp only [spec_IsShow.l0]; rw [if_neg (by omega)]
      rfl
     | succ d ih =>
      intro k i hd hi hk; obtain ⟨k, rfl⟩ : ∃ m, k = m + 1 := ⟨k - 1, by omega⟩; have nx := ih k (i + 1) (by omega) (by omega) (by omega); simp only [spec_IsShow.l0]; rw [if_pos (by omega), if_pos (by omega), rd_cue, spec_has a, spec_find B (by omega) _ k (by omega), In_eq, w64 (n := (i : Int) + 1) (by omega)]; simp only [Option.bind_some]
      unfold allF cueOk
      cases hb : hasBeat A (cu_at C i).f0 (cu_at C i).f1 with
      | false => rfl
      | true =>
       rw [if_pos rfl, Bool.true_and]
       by_cases hf : 0 ≤ find B (cu_at C i).f2
       ·rw [if_neg (by omega), decide_eq_true hf, Bool.true_and]
        cases hr : inB (cu_at C i).f3 0 11 with
        | false => rfl
        | true =>
         rw [if_pos rfl, Bool.true_and, spec_ftime a b C hf hb k (by omega)]; simp only [Option.bind_some]
         by_cases ht : ftime A B (cu_at C i) < 0
         ·rw [if_pos ht, decide_eq_false (by omega)]; rfl
         ·rw [if_neg ht, decide_eq_true (by omega), Bool.true_and]
          exact nx
       ·rw [if_pos (by omega), decide_eq_false hf]; rfl
    exact loop C.length k 0 (by omega) (by omega) (by omega)
theorem impl_show (n : Nat) (A : List S104) (B : List S62) (C : List S39) (hA : A.length ≤ 9223372036854775807) (hB : B.length ≤ 9223372036854775807) (hC : C.length ≤ 9223372036854775807) (hS : Small n B) (k : Nat) (hk : A.length + B.length + C.length + n + 200 ≤ k) : impl_IsShow.f k A B C = some (isShow A B C) := by
 obtain ⟨k, rfl⟩ : ∃ m, k = m + 1 := ⟨k - 1, by omega⟩
 unfold impl_IsShow.f isShow
 rw [impl_score A (by omega) (k + 1) (by omega)]; simp only [Option.bind_some]
 cases a : isScore A with
 | false => rfl
 | true =>
  rw [if_pos rfl, impl_arts n B (by omega) hS (k + 1) (by omega)]; simp only [Option.bind_some]
  cases b : areArts B with
  | false => rfl
  | true =>
   rw [if_pos rfl]
   by_cases c : (C.length : Int) > 20
   ·rw [decide_eq_true c, decide_eq_false (by omega)]; rfl
   ·rw [decide_eq_false c, decide_eq_true (by omega)]
    simp only [impl_IsShow.j0, Bool.false_eq_true, if_false, Bool.true_and]; have hB12 := (areArts_true b).1
    have loop : ∀ d k i, C.length - i = d → i ≤ C.length → d + 110 ≤ k → impl_IsShow.l0 k C (C.length : Int) (i : Int) A B C = some (allF (fun i => cueOk A B (cu_at C i)) i d) := by
     intro d
     induction d with
     | zero =>
      intro k i hd hi hk; obtain ⟨k, rfl⟩ : ∃ m, k = m + 1 := ⟨k - 1, by omega⟩; simp only [impl_IsShow.l0]; rw [if_neg (by omega)]
      rfl
     | succ d ih =>
      intro k i hd hi hk; obtain ⟨k, rfl⟩ : ∃ m, k = m + 1 := ⟨k - 1, by omega⟩; have nx := ih k (i + 1) (by omega) (by omega) (by omega); simp only [impl_IsShow.l0]; rw [if_pos (by omega), if_pos (by omega), if_pos (by omega), rd_cue, Wi_eq, impl_ftime a b C _ k (by omega), w64 (n := (i : Int) + 1) (by omega)]; simp only [Option.bind_some]
      unfold allF cueOk
      cases hr : inB (cu_at C i).f3 0 11 with
      | false =>
       rw [if_neg (by decide)]
       simp
      | true =>
       rw [if_pos rfl]
       cases hb : hasBeat A (cu_at C i).f0 (cu_at C i).f1 with
       | false =>
        rw [if_neg (show ¬ (0 ≤ find B (cu_at C i).f2 ∧ false = true) from fun x => absurd x.2 (by decide)), if_pos (by omega)]; rfl
       | true =>
        by_cases hf : 0 ≤ find B (cu_at C i).f2
        ·rw [if_pos (show 0 ≤ find B (cu_at C i).f2 ∧ true = true from ⟨hf, rfl⟩), decide_eq_true hf]
         by_cases ht : ftime A B (cu_at C i) < 0
         ·rw [if_pos (by unfold mx; split <;> omega), decide_eq_false (by omega)]; rfl
         ·rw [if_neg (by unfold mx; split <;> omega), decide_eq_true (by omega)]
          exact nx
        ·rw [if_neg (show ¬ (0 ≤ find B (cu_at C i).f2 ∧ true = true) from fun x => hf x.1), if_pos (by omega), decide_eq_false hf]; rfl
    exact loop C.length k 0 (by omega) (by omega) (by omega)
end Go.Proofs.Ythhijbdekboahaa.F
namespace Go.Proofs.Ythhijbdekboahaa.F
open Go.RowKit Go.Proofs.YthhijbdekboahaaW.PrintWords Go.Proofs.YthhijbdekboahaaW.PrintLast Go.Proofs.YthhijbdekboahaaW.PrintMore
attribute [local go_sem] max2_int min2_int max_two min_two max_three min_three max_four min_four
set_option linter.unusedVariables false
set_option linter.unusedSimpArgs false
end Go.Proofs.Ythhijbdekboahaa.F
namespace Go.Proofs.Ythhijbdekboahaa.F
open Go.RowKit Go.Proofs.YthhijbdekboahaaW.PrintWords Go.Proofs.YthhijbdekboahaaW.PrintLast Go.Proofs.YthhijbdekboahaaW.PrintMore
set_option linter.unusedVariables false
set_option linter.unusedSimpArgs false
def anyF (p : Nat → Bool) : Nat → Nat → Bool
 | _, 0 => false
 | i, d + 1 => p i || anyF p (i + 1) d
theorem anyF_succ (p : Nat → Bool) (i d : Nat) : anyF p i (d + 1) = (p i || anyF p (i + 1) d) := rfl
theorem anyF_true {p : Nat → Bool} : ∀ (d i : Nat), anyF p i d = true ↔ ∃ j, i ≤ j ∧ j < i + d ∧ p j = true
 | 0, i => by
  unfold anyF
  exact ⟨fun h => absurd h (by decide), fun ⟨j, h1, h2, _⟩ => absurd h2 (by omega)⟩
 | d + 1, i => by
  unfold anyF
  rw [Bool.or_eq_true, anyF_true d (i + 1)]; constructor
  ·rintro (h | ⟨j, h1, h2, h3⟩)
   ·exact ⟨i, Nat.le_refl _, by omega, h⟩
   ·exact ⟨j, by omega, by omega, h3⟩
  ·rintro ⟨j, h1, h2, h3⟩
   by_cases e : j = i
   ·subst e; exact .inl h3
   ·exact .inr ⟨j, by omega, by omega, h3⟩
theorem any_loop {β : Type} {f : Nat → Nat → Option β} {p : Nat → Bool} {y : Option β} {e : Nat → Option β} (n K : Nat) (hs : ∀ k i, K ≤ k → i < n → f (k + 1) i = if p i = true then y else f k (i + 1)) (he : ∀ k, f (k + 1) n = e k) :
  ∀ d k i, n - i = d → i ≤ n → K ≤ k → f (k + d + 1) i = if anyF p i d = true then y else e k := by
 intro d
 induction d with
 | zero =>
  intro k i hd hi hk
  have e0 : i = n := by omega
  subst e0; rw [show k + 0 + 1 = k + 1 by omega, he]
  unfold anyF
  rw [if_neg (by decide)]
 | succ d ih =>
  intro k i hd hi hk; rw [show k + (d + 1) + 1 = (k + d + 1) + 1 by omega, hs (k + d + 1) i (by omega) (by omega)]
  unfold anyF
  by_cases c : p i = true
  ·rw [if_pos c, c, Bool.true_or, if_pos rfl]
  ·rw [if_neg c, ih k (i + 1) (by omega) (by omega) hk, Bool.eq_false_iff.mpr c, Bool.false_or]
def Frame (n0 : Nat) (A : List S104) (B : List S62) (C : List S39) : Prop := A.length ≤ 9223372036854775807 ∧ B.length ≤ 9223372036854775807 ∧ C.length ≤ 9223372036854775807 ∧ Small n0 B
theorem ss_ok {n0 : Nat} {A : List S104} {B : List S62} {C : List S39} (h : Frame n0 A B C) (k : Nat) (hk : 36893488147419103428 ≤ k) : spec_IsShow.f k A B C = some (isShow A B C) := spec_show n0 A B C h.1 h.2.1 h.2.2.1 h.2.2.2 k (by have := h.1; have := h.2.1; have := h.2.2.1; have := h.2.2.2.1; omega)
theorem si_ok {n0 : Nat} {A : List S104} {B : List S62} {C : List S39} (h : Frame n0 A B C) (k : Nat) (hk : 36893488147419103428 ≤ k) : impl_IsShow.f k A B C = some (isShow A B C) := impl_show n0 A B C h.1 h.2.1 h.2.2.1 h.2.2.2 k (by have := h.1; have := h.2.1; have := h.2.2.1; have := h.2.2.2.1; omega)
theorem cu_ok {A : List S104} {B : List S62} {C : List S39} (h : isShow A B C = true) {i : Nat} (hi : i < C.length) : hasBeat A (cu_at C i).f0 (cu_at C i).f1 = true ∧ 0 ≤ find B (cu_at C i).f2 ∧ find B (cu_at C i).f2 < (B.length : Int) ∧ 0 ≤ ftime A B (cu_at C i) ∧ ftime A B (cu_at C i) ≤ 2000000 ∧ art (arOf B (cu_at C i)) = true := by
 obtain ⟨hA, hB, hC, hc⟩ := isShow_true h; obtain ⟨h1, h2, h3, h4⟩ := cueOk_true (hc i hi); have := ftime_range hA hB h2 h1; have := arOf_ok hB h2; exact ⟨h1, h2, this.2, h4, by omega, this.1⟩
theorem rd_arOf (B : List S62) (c : S39) (h : 0 ≤ find B c.f2) : rd_T62 B (find B c.f2) = arOf B c := by
 have := rd_art B (find B c.f2).toNat; rw [show ((find B c.f2).toNat : Int) = find B c.f2 by omega] at this; exact this
theorem cue_time {A : List S104} {B : List S62} {C : List S39} (h : isShow A B C = true) {i : Nat} (hi : i < C.length) (k : Nat) (hk : 100 ≤ k) : spec_l08Time.f k A B C (cu_at C i).f0 (cu_at C i).f1 (cu_at C i).f2 (cu_at C i).f3 = some (ftime A B (cu_at C i)) ∧ impl_firedAt.f k A B C (cu_at C i).f0 (cu_at C i).f1 (cu_at C i).f2 (cu_at C i).f3 = some (ftime A B (cu_at C i)) := by
 obtain ⟨hA, hB, hC, hc⟩ := isShow_true h; obtain ⟨h1, h2, h3, h4⟩ := cueOk_true (hc i hi); refine ⟨spec_ftime hA hB C h2 h1 k hk, ?_⟩; rw [impl_ftime hA hB C _ k hk, if_pos (show 0 ≤ find B (cu_at C i).f2 ∧ hasBeat A (cu_at C i).f0 (cu_at C i).f1 = true from ⟨h2, h1⟩)]
 unfold mx
 rw [if_pos (by omega)]
end Go.Proofs.Ythhijbdekboahaa.F
namespace Go.Proofs.Ythhijbdekboahaa.F
open Go.RowKit Go.Proofs.YthhijbdekboahaaW.PrintWords Go.Proofs.YthhijbdekboahaaW.PrintLast Go.Proofs.YthhijbdekboahaaW.PrintMore
attribute [local go_sem] max2_int min2_int max_two min_two max_three min_three max_four min_four
set_option linter.unusedVariables false
set_option linter.unusedSimpArgs false
def impl_copyShow.f (l0_0 : List (S104)) (l0_1 : List (S62)) (l0_2 : List (S39)) : Option ((List (S104)) × (List (S62)) × (List (S39))) := (some (([] : List (S104)) : List (S104))).bind fun y728 => (if y728.length + l0_0.length < 8796093022208 then ((some (([] : List (S62)) : List (S62))).bind fun y734 => (if y734.length + l0_1.length < 1759218604441 then ((some (([] : List (S39)) : List (S39))).bind fun y740 => (if y740.length + l0_2.length < 3518437208883 then (some ((y728 ++ l0_0), (y734 ++ l0_1), (y740 ++ l0_2))) else (none))) else (none))) else (none))
def impl_AddCue.f (k : Nat) (l0_0 : List (S104)) (l0_1 : List (S62)) (l0_2 : List (S39)) (a1_0 : Int) (a1_1 : Int) (a1_2 : ByteArray) (a1_3 : Int) : Option ((List (S104)) × (List (S62)) × (List (S39)) × Int) := (impl_IsShow.f k l0_0 l0_1 l0_2).bind fun t749 => (if t749 = true then (if (l0_2.length : Int) = 20 then (some (([] : List (S104)), ([] : List (S62)), ([] : List (S39)), 3)) else ((impl_copyShow.f l0_0 l0_1 l0_2).bind fun bt750 => (if bt750.2.2.length < 3518437208883 then ((some (bt750.2.2 ++ [(⟨a1_0, a1_1, a1_2, a1_3⟩ : S39)] : List (S39))).bind fun y760 => ((impl_IsShow.f k bt750.1 bt750.2.1 y760).bind fun t763 => (if t763 = true then (some (bt750.1, bt750.2.1, y760, 0)) else (some (([] : List (S104)), ([] : List (S62)), ([] : List (S39)), 5))))) else (none)))) else (some (([] : List (S104)), ([] : List (S62)), ([] : List (S39)), 1)))
end Go.Proofs.Ythhijbdekboahaa.F
namespace Go.Proofs.Ythhijbdekboahaa.F
open Go.RowKit Go.Proofs.YthhijbdekboahaaW.PrintWords Go.Proofs.YthhijbdekboahaaW.PrintLast Go.Proofs.YthhijbdekboahaaW.PrintMore
set_option linter.unusedVariables false
set_option linter.unusedSimpArgs false
theorem with_ok (A : List S104) (B : List S62) (C D : List S39) (hA : A.length ≤ 1000000) (hB : B.length ≤ 1000000) (hD : D.length ≤ 1000010) : spec_l08With.f A B C D = some (A, B, D) := by
 unfold spec_l08With.f
 simp only [Option.bind_some, List.nil_append, List.length_nil]; rw [if_pos (by omega), if_pos (by omega), if_pos (by omega)]
theorem copy_ok (A : List S104) (B : List S62) (C : List S39) (hA : A.length ≤ 1000000) (hB : B.length ≤ 1000000) (hC : C.length ≤ 1000000) : impl_copyShow.f A B C = some (A, B, C) := by
 unfold impl_copyShow.f
 simp only [Option.bind_some, List.nil_append, List.length_nil]; rw [if_pos (by omega), if_pos (by omega), if_pos (by omega)]
def addR (A : List S104) (B : List S62) (C : List S39) (c : S39) : List S104 × List S62 × List S39 × Int := if isShow A B C = true then (if (C.length : Int) = 20 then ([], [], [], 3) else (if isShow A B (C ++ [c]) = true then (A, B, C ++ [c], 0) else ([], [], [], 5))) else ([], [], [], 1)
theorem add_ok (n0 : Nat) {A : List S104} {B : List S62} {C : List S39} (hF : Frame n0 A B C) (hL : A.length ≤ 1000000 ∧ B.length ≤ 1000000 ∧ C.length ≤ 1000000) (x0 x1 : Int) (x2 : ByteArray) (x3 : Int) (k : Nat) (hk : 36893488147419103528 ≤ k) : spec_AddCue.f k A B C x0 x1 x2 x3 = some (addR A B C ⟨x0, x1, x2, x3⟩) ∧ impl_AddCue.f k A B C x0 x1 x2 x3 = some (addR A B C ⟨x0, x1, x2, x3⟩) := by
 unfold spec_AddCue.f impl_AddCue.f addR
 rw [ss_ok hF k (by omega), si_ok hF k (by omega)]; simp only [Option.bind_some]
 cases h : isShow A B C with
 | false => exact ⟨rfl, rfl⟩
 | true =>
  simp only [if_true]; have hC := (isShow_true h).2.2.1
  by_cases c : (C.length : Int) = 20
  ·rw [if_pos c, if_pos c, if_pos c]; exact ⟨rfl, rfl⟩
  ·have hl : (C ++ [(⟨x0, x1, x2, x3⟩ : S39)]).length = C.length + 1 := by rw [List.length_append, List.length_singleton]
   have hF2 : Frame n0 A B (C ++ [(⟨x0, x1, x2, x3⟩ : S39)]) := ⟨hF.1, hF.2.1, by omega, hF.2.2.2⟩; rw [if_neg c, if_neg c, if_neg c, copy_ok A B C hL.1 hL.2.1 hL.2.2]; simp only [Option.bind_some, List.nil_append, List.length_nil, List.length_singleton]; constructor
   ·rw [if_pos (show 0 + C.length < 3518437208883 by omega), if_pos (show C.length + 1 < 3518437208883 by omega), with_ok A B C _ hL.1 hL.2.1 (by rw [hl]; omega)]
    simp only [Option.bind_some]; rw [ss_ok hF2 k (by omega)]; simp only [Option.bind_some]
    cases isShow A B (C ++ [(⟨x0, x1, x2, x3⟩ : S39)]) <;> rfl
   ·rw [if_pos (show C.length < 3518437208883 by omega), si_ok hF2 k (by omega)]
    simp only [Option.bind_some]
    cases isShow A B (C ++ [(⟨x0, x1, x2, x3⟩ : S39)]) <;> rfl
theorem mem_rd {α : Type} {xs : List α} {z : α} {i : Int} (h0 : 0 ≤ i) (h1 : i < (xs.length : Int)) : xs.getD i.toNat z ∈ xs := by
 rw [List.getD_eq_getElem?_getD, List.getElem?_eq_getElem (show i.toNat < xs.length by omega)]; exact List.getElem_mem _
def SmallArts (B : List S62) : Prop := ∀ x ∈ B, x.f0.size ≤ 100
theorem good_l1 {c : List Int} (hc : Code c) {A : List S104} (hA : GoodBars A) (hA1 : 1 ≤ A.length) (hA6 : A.length ≤ 6) {B : List S62} (hB : B.length ≤ 20) (hS : SmallArts B) :
  ∀ m (C : List S39), C.length + m ≤ 20 → ∀ {a s : Int}, St c a s → ∃ C' a' s', (∀ k, 36893488147419103600 + 2 * m ≤ k → spec_l08Good.l1 k (m : Int) c a s A B C = some (A, B, C', a', s')) ∧ St c a' s' ∧ C'.length ≤ 20 := by
 intro m
 induction m with
 | zero =>
  intro C hC a s h; refine ⟨C, a, s, fun k hk => ?_, h, by omega⟩; obtain ⟨k, rfl⟩ : ∃ m, k = m + 2 := ⟨k - 2, by omega⟩; simp only [spec_l08Good.l1]; rw [if_neg (by omega)]; simp only [spec_l08Good.j2]; rw [if_neg (by decide)]
 | succ m ih =>
  intro C hC a s h
  by_cases hb : (B.length : Int) > 0
  ·obtain ⟨r1, a1, s1, e1, h1, p1, q1⟩ := next_ok hc h (A.length : Int) (by omega)
   have hm := hA _ (mem_rd (z := z104) p1 (show r1 < (A.length : Int) by omega)); obtain ⟨r2, a2, s2, e2, h2, _⟩ := next_ok hc h1 (rd_T104 A r1).f0 (by unfold rd_T104; omega); obtain ⟨r3, a3, s3, e3, h3, p3, q3⟩ := next_ok hc h2 (B.length : Int) (by omega); obtain ⟨r4, a4, s4, e4, h4, _⟩ := next_ok hc h3 12 (by decide); have ha := fun k hk => (add_ok 100 (A := A) (B := B) (C := C) ⟨by omega, by omega, by omega, by decide, hS⟩ ⟨by omega, by omega, by omega⟩ r1 r2 (rd_T62 B r3).f0 r4 k hk).1
   have hw : wrap64 (((m + 1 : Nat) : Int) - 1) = (m : Int) := by rw [w64 (by omega)]; omega
   have run : ∀ k, 36893488147419103600 + 2 * (m + 1) ≤ k + 2 → spec_l08Good.l1 (k + 2) ((m + 1 : Nat) : Int) c a s A B C = if (addR A B C ⟨r1, r2, (rd_T62 B r3).f0, r4⟩).2.2.2 = 0 then spec_l08Good.l1 k (m : Int) c a4 s4 (addR A B C ⟨r1, r2, (rd_T62 B r3).f0, r4⟩).1 (addR A B C ⟨r1, r2, (rd_T62 B r3).f0, r4⟩).2.1 (addR A B C ⟨r1, r2, (rd_T62 B r3).f0, r4⟩).2.2.1 else spec_l08Good.l1 k (m : Int) c a4 s4 A B C := by
    intro k hk; simp only [spec_l08Good.l1]; rw [if_pos (by omega)]; simp only [spec_l08Good.j2]; rw [if_pos (by rw [decide_eq_true_iff]; exact hb), e1, Option.bind_some]; dsimp only; rw [if_pos p1, if_pos (by omega), e2, Option.bind_some]; dsimp only; rw [e3, Option.bind_some]; dsimp only; rw [if_pos p3, if_pos (by omega), e4, Option.bind_some]; dsimp only; rw [ha k (by omega), Option.bind_some, hw]
   by_cases g : isShow A B C = true ∧ ¬ (C.length : Int) = 20 ∧ isShow A B (C ++ [⟨r1, r2, (rd_T62 B r3).f0, r4⟩]) = true
   ·have hR : addR A B C ⟨r1, r2, (rd_T62 B r3).f0, r4⟩ = (A, B, C ++ [⟨r1, r2, (rd_T62 B r3).f0, r4⟩], 0) := by
     unfold addR; rw [if_pos g.1, if_neg g.2.1, if_pos g.2.2]
    obtain ⟨C', a', s', e, hs, hl⟩ := ih (C ++ [⟨r1, r2, (rd_T62 B r3).f0, r4⟩]) Zdd h4; refine ⟨C', a', s', fun k hk => ?_, hs, hl⟩; obtain ⟨k, rfl⟩ : ∃ m, k = m + 2 := ⟨k - 2, by omega⟩; rw [run k hk, hR, if_pos rfl]; exact e k (by omega)
   ·have hR : (addR A B C ⟨r1, r2, (rd_T62 B r3).f0, r4⟩).2.2.2 ≠ 0 := by
     unfold addR
     by_cases g1 : isShow A B C = true
     ·rw [if_pos g1]
      by_cases g2 : (C.length : Int) = 20
      ·rw [if_pos g2]; decide
      ·rw [if_neg g2, if_neg (fun g3 => g ⟨g1, g2, g3⟩)]; decide
     ·rw [if_neg g1]; decide
    obtain ⟨C', a', s', e, hs, hl⟩ := ih C (by omega) h4; refine ⟨C', a', s', fun k hk => ?_, hs, hl⟩; obtain ⟨k, rfl⟩ : ∃ m, k = m + 2 := ⟨k - 2, by omega⟩; rw [run k hk, if_neg hR]; exact e k (by omega)
  ·refine ⟨C, a, s, fun k hk => ?_, h, by omega⟩
   obtain ⟨k, rfl⟩ : ∃ m, k = m + 2 := ⟨k - 2, by omega⟩; simp only [spec_l08Good.l1]; rw [if_pos (by omega)]; simp only [spec_l08Good.j2]; rw [if_neg (by rw [decide_eq_true_iff]; exact hb)]
theorem good_l0 {c : List Int} (hc : Code c) {A : List S104} (hA : GoodBars A) (hA1 : 1 ≤ A.length) (hA6 : A.length ≤ 6) {nm : List ByteArray} (hn : ∀ x ∈ nm, x.size ≤ 100) (hn6 : nm.length ≤ 6) :
  ∀ d i (B : List S62), nm.length - i = d → i ≤ nm.length → B.length + d ≤ 20 → SmallArts B → ∀ {a s : Int}, St c a s → ∃ B' C' a' s', (∀ k, 36893488147419104000 + d ≤ k → spec_l08Good.l0 k nm (i : Int) c a s A B [] = some (A, B', C', a', s')) ∧ St c a' s' ∧ B'.length ≤ 20 ∧ SmallArts B' ∧ C'.length ≤ 20 := by
 intro d
 induction d with
 | zero =>
  intro i B hd hi hB hS a s h; obtain ⟨r, a1, s1, e1, h1, p1, q1⟩ := next_ok hc h 9 (by decide); obtain ⟨C', a', s', e, hs, hl⟩ := good_l1 hc hA hA1 hA6 (B := B) (by omega) hS r.toNat [] (by simp only [List.length_nil]; omega) h1; refine ⟨B, C', a', s', fun k hk => ?_, hs, by omega, hS, hl⟩; obtain ⟨k, rfl⟩ : ∃ m, k = m + 1 := ⟨k - 1, by omega⟩; simp only [spec_l08Good.l0]; rw [if_neg (by omega), e1, Option.bind_some]; dsimp only; have := e k (by omega); rw [show ((r.toNat : Nat) : Int) = r by omega] at this; exact this
 | succ d ih =>
  intro i B hd hi hB hS a s h; obtain ⟨r, a1, s1, e1, h1, p1, q1⟩ := next_ok hc h 3 (by decide)
  have hw : wrap64 ((i : Int) + 1) = ((i + 1 : Nat) : Int) := by rw [w64 (by omega)]; omega
  by_cases g : r > 0
  ·obtain ⟨q2, q3, q4, q5, q6, q7, q8, q9, a2, s2, e2, h2⟩ := good_art hc h1 (rdOf ByteArray.empty nm (i : Int))
   have hz : (rdOf ByteArray.empty nm (i : Int)).size ≤ 100 := hn _ (by unfold rdOf; exact mem_rd (by omega) (by omega))
   obtain ⟨B', C', a', s', e, hs, hb, hS', hl⟩ := ih (i + 1) (B ++ [⟨rdOf ByteArray.empty nm (i : Int), q2, q3, Int.tmod q4 3000, mn q5 (Int.tmod q4 3000), q6, q7, q8, q9⟩]) (by omega) (by omega) Zdd (fun x hx => by
    rcases List.mem_append.mp hx with y | y
    ·exact hS x y
    ·rw [List.mem_singleton] at y; subst y; exact hz) h2
   refine ⟨B', C', a', s', fun k hk => ?_, hs, hb, hS', hl⟩; obtain ⟨k, rfl⟩ : ∃ m, k = m + 1 := ⟨k - 1, by omega⟩; simp only [spec_l08Good.l0]; rw [if_pos (by omega), e1, Option.bind_some]; dsimp only; rw [if_pos g, if_pos (by omega), e2, Option.bind_some]; dsimp only; rw [if_pos (by omega), hw]; exact e k (by omega)
  ·obtain ⟨B', C', a', s', e, hs, hb, hS', hl⟩ := ih (i + 1) B (by omega) (by omega) (by omega) hS h1
   refine ⟨B', C', a', s', fun k hk => ?_, hs, hb, hS', hl⟩; obtain ⟨k, rfl⟩ : ∃ m, k = m + 1 := ⟨k - 1, by omega⟩; simp only [spec_l08Good.l0]; rw [if_pos (by omega), e1, Option.bind_some]; dsimp only; rw [if_neg g, hw]; exact e k (by omega)
theorem good_show {c : List Int} (hc : Code c) {a s : Int} (h : St c a s) : ∃ A B C a' s', (∀ k, 36893488147419104010 ≤ k → spec_l08Good.f k c a s = some (A, B, C, a', s')) ∧ St c a' s' ∧ 1 ≤ A.length ∧ A.length ≤ 6 ∧ B.length ≤ 20 ∧ SmallArts B ∧ C.length ≤ 20 := by
 obtain ⟨A, a1, s1, e1, h1, hA1, hA6, hA⟩ := score_good hc h; obtain ⟨nm, en, hn, hn6⟩ : ∃ nm, spec_l03Names.f = some nm ∧ (∀ x ∈ nm, x.size ≤ 100) ∧ nm.length ≤ 6 := ⟨_, rfl, by decide, by decide⟩; obtain ⟨B, C, a', s', e, hs, hb, hS, hl⟩ := good_l0 hc hA hA1 hA6 hn hn6 nm.length 0 [] (by omega) (by omega) (by simp only [List.length_nil]; omega) (fun x hx => by simp at hx) h1; refine ⟨A, B, C, a', s', fun k hk => ?_, hs, hA1, hA6, hb, hS, hl⟩
 unfold spec_l08Good.f
 rw [e1 k (by omega), Option.bind_some]; dsimp only; rw [en, Option.bind_some]; exact e k (by omega)
theorem draw_art {c : List Int} (hc : Code c) {a s : Int} (h : St c a s) (nm : ByteArray) (hn : nm.size ≤ 100) (hW : ∀ {a s : Int}, St c a s → ∃ w a' s', spec_l01DrawWord.f c a s = some (w, a', s') ∧ St c a' s' ∧ w.size ≤ 100) : ∃ q1 q2 q3 q4 q5 q6 q7 q8 q9 a' s', spec_l03Draw.f c a s nm = some (q1, q2, q3, q4, q5, q6, q7, q8, q9, a', s') ∧ St c a' s' ∧ q1.size ≤ 100 := by
 obtain ⟨q2, q3, q4, q5, q6, q7, q8, q9, a1, s1, e1, h1⟩ := good_art hc h nm; obtain ⟨r, a2, s2, e2, h2, _⟩ := next_ok hc h1 60 (by decide)
 unfold spec_l03Draw.f
 rw [e1, Option.bind_some]; dsimp only; rw [e2, Option.bind_some]; dsimp only
 by_cases g0 : r = 0
 ·obtain ⟨p, a3, s3, e3, h3, _⟩ := pick_ok hc h2 [19, 20, 300, 301] (by simp) (by simp)
  rw [if_pos g0, e3, Option.bind_some]; exact ⟨_, _, _, _, _, _, _, _, _, _, _, rfl, h3, hn⟩
 rw [if_neg g0]
 by_cases g1 : r = 1
 ·obtain ⟨p, a3, s3, e3, h3, _⟩ := pick_ok hc h2 [q4, wrap64 (q4 + 1), (-1)] (by simp) (by simp)
  rw [if_pos g1, e3, Option.bind_some]; exact ⟨_, _, _, _, _, _, _, _, _, _, _, rfl, h3, hn⟩
 rw [if_neg g1]
 by_cases g2 : r = 2
 ·obtain ⟨p, a3, s3, e3, h3, _⟩ := pick_ok hc h2 [0, 50, 51] (by simp) (by simp)
  rw [if_pos g2, e3, Option.bind_some]; exact ⟨_, _, _, _, _, _, _, _, _, _, _, rfl, h3, hn⟩
 rw [if_neg g2]
 by_cases g3 : r = 3
 ·obtain ⟨w, a3, s3, e3, h3, hw⟩ := hW h2
  rw [if_pos g3, e3, Option.bind_some]; exact ⟨_, _, _, _, _, _, _, _, _, _, _, rfl, h3, hw⟩
 rw [if_neg g3]
 by_cases g4 : r = 4
 ·obtain ⟨p, a3, s3, e3, h3, _⟩ := pick_ok hc h2 [0, 100000, 100001] (by simp) (by simp)
  rw [if_pos g4, e3, Option.bind_some]; exact ⟨_, _, _, _, _, _, _, _, _, _, _, rfl, h3, hn⟩
 rw [if_neg g4]; exact ⟨_, _, _, _, _, _, _, _, _, _, _, rfl, h2, hn⟩
theorem word_key {c : List Int} (hc : Code c) {a s : Int} (h : St c a s) (n : Int) (hn : n ≤ 100) (L : List ByteArray) (hL : ∀ x ∈ L, x.size ≤ 100) (hl : (L.length : Int) = n) (h1 : 1 ≤ n) :
  ∃ w a' s', ((some L).bind fun y => (spec_l01Next.f c a s n).bind fun bt => (if 0 ≤ bt.1 then (if bt.1 < (y.length : Int) then (some (rdOf ByteArray.empty y bt.1, bt.2.1, bt.2.2)) else (none)) else (none))) = some (w, a', s') ∧ St c a' s' ∧ w.size ≤ 100 := by
 obtain ⟨r, a1, s1, e1, h2, p1, q1⟩ := next_ok hc h n (by omega); rw [Option.bind_some, e1, Option.bind_some]; dsimp only; rw [if_pos p1, if_pos (by omega)]; exact ⟨_, _, _, rfl, h2, hL _ (by unfold rdOf; exact mem_rd p1 (by omega))⟩
theorem word_draw {c : List Int} (hc : Code c) {a s : Int} (h : St c a s) : ∃ w a' s', spec_l01DrawWord.f c a s = some (w, a', s') ∧ St c a' s' ∧ w.size ≤ 100 := by
 obtain ⟨r, a1, s1, e1, h1, _⟩ := next_ok hc h 24 (by decide)
 unfold spec_l01DrawWord.f
 rw [e1, Option.bind_some]; dsimp only
 by_cases g : r = 0
 ·rw [if_pos g]
  exact word_key hc h1 6 (by decide) _ (by decide) rfl (by decide)
 ·rw [if_neg g]
  obtain ⟨w, a2, s2, e2, h2, hw⟩ : ∃ w a' s', spec_l01Good.f c a1 s1 = some (w, a', s') ∧ St c a' s' ∧ w.size ≤ 100 := by
   unfold spec_l01Good.f
   exact word_key hc h1 12 (by decide) _ (by decide) rfl (by decide)
  rw [e2, Option.bind_some]; exact ⟨w, a2, s2, rfl, h2, hw⟩
theorem draw_loop {c : List Int} (hc : Code c) (A : List S104) (B : List S62) (q : S39) : ∀ d (C : List S39), 30 - C.length = d → C.length ≤ 30 → ∀ {a s : Int}, St c a s → ∃ C' a' s', (∀ k, d + 2 ≤ k → spec_l08Draw.l0 k c a s A B C q.f0 q.f1 q.f2 q.f3 = some (A, B, C', a', s')) ∧ St c a' s' ∧ C'.length ≤ 30 := by
 intro d
 induction d with
 | zero =>
  intro C hd hC a s h; obtain ⟨r, a1, s1, e1, h1, p1, q1⟩ := next_ok hc h 2 (by decide); refine ⟨C, a1, s1, fun k hk => ?_, h1, hC⟩; obtain ⟨k, rfl⟩ : ∃ m, k = m + 1 := ⟨k - 1, by omega⟩; simp only [spec_l08Draw.l0]; rw [e1, Option.bind_some]; dsimp only; rw [w64 (by omega), if_neg (by omega)]
 | succ d ih =>
  intro C hd hC a s h; obtain ⟨r, a1, s1, e1, h1, p1, q1⟩ := next_ok hc h 2 (by decide)
  by_cases g : (C.length : Int) < 20 + r
  ·obtain ⟨C', a', s', e, hs, hl⟩ := ih (C ++ [⟨q.f0, q.f1, q.f2, q.f3⟩]) Zdd Zdd h1
   refine ⟨C', a', s', fun k hk => ?_, hs, hl⟩; obtain ⟨k, rfl⟩ : ∃ m, k = m + 1 := ⟨k - 1, by omega⟩; simp only [spec_l08Draw.l0]; rw [e1, Option.bind_some]; dsimp only; rw [w64 (by omega), if_pos g, if_pos (by omega)]; exact e k (by omega)
  ·refine ⟨C, a1, s1, fun k hk => ?_, h1, hC⟩
   obtain ⟨k, rfl⟩ : ∃ m, k = m + 1 := ⟨k - 1, by omega⟩; simp only [spec_l08Draw.l0]; rw [e1, Option.bind_some]; dsimp only; rw [w64 (by omega), if_neg g]
theorem small_snoc {B : List S62} (hB : SmallArts B) {x : S62} (hx : x.f0.size ≤ 100) : SmallArts (B ++ [x]) := fun y hy => by
 rcases List.mem_append.mp hy with z | z
 ·exact hB y z
 ·rw [List.mem_singleton] at z; subst z; exact hx
theorem list_l1 {c : List Int} (hc : Code c) : ∀ d (i : Nat) (B : List S62), 14 - i = d → i ≤ 14 → B.length + d ≤ 60 → SmallArts B → ∀ {a s : Int}, St c a s → ∃ B' a' s', (∀ k, d + 2 ≤ k → spec_l03List.l1 k B (i : Int) c a s = some (B', a', s')) ∧ St c a' s' ∧ B'.length ≤ 60 ∧ SmallArts B' := by
 intro d
 induction d with
 | zero =>
  intro i B hd hi hB hS a s h; obtain ⟨r, a1, s1, e1, h1, p1, q1⟩ := next_ok hc h 2 (by decide); refine ⟨B, a1, s1, fun k hk => ?_, h1, by omega, hS⟩; obtain ⟨k, rfl⟩ : ∃ m, k = m + 1 := ⟨k - 1, by omega⟩; simp only [spec_l03List.l1]; rw [e1, Option.bind_some]; dsimp only
  by_cases g : (B.length : Int) < wrap64 (12 + r)
  ·rw [if_pos g, if_neg (by omega)]
  ·rw [if_neg g]
 | succ d ih =>
  intro i B hd hi hB hS a s h; obtain ⟨r, a1, s1, e1, h1, p1, q1⟩ := next_ok hc h 2 (by decide)
  by_cases g : (B.length : Int) < wrap64 (12 + r)
  ·have hw : wrap64 ((i : Int) + 1) = ((i + 1 : Nat) : Int) := by rw [w64 (by omega)]; omega
   have hz : ((⟨#[97, 98, 99, 100, 101, 102, 103, 104, 105, 106, 107, 108, 109, 110]⟩ : ByteArray).extract (i : Int).toNat ((i + 1 : Nat) : Int).toNat).size ≤ 14 := by
    rw [ByteArray.size_extract]; have : (⟨#[97, 98, 99, 100, 101, 102, 103, 104, 105, 106, 107, 108, 109, 110]⟩ : ByteArray).size = 14 := rfl
    omega
   obtain ⟨q2, q3, q4, q5, q6, q7, q8, q9, a2, s2, e2, h2⟩ := good_art hc h1 ((⟨#[120]⟩ : ByteArray) ++ ((⟨#[97, 98, 99, 100, 101, 102, 103, 104, 105, 106, 107, 108, 109, 110]⟩ : ByteArray).extract (i : Int).toNat ((i + 1 : Nat) : Int).toNat))
   have hx : ((⟨#[120]⟩ : ByteArray) ++ ((⟨#[97, 98, 99, 100, 101, 102, 103, 104, 105, 106, 107, 108, 109, 110]⟩ : ByteArray).extract (i : Int).toNat ((i + 1 : Nat) : Int).toNat)).size ≤ 100 := by
    rw [ByteArray.size_append]; have : (⟨#[120]⟩ : ByteArray).size = 1 := rfl
    omega
   obtain ⟨B', a', s', e, hs, hl, hS'⟩ := ih (i + 1) (B ++ [⟨_, q2, q3, q4, q5, q6, q7, q8, q9⟩]) (by omega) (by omega) Zdd (small_snoc hS hx) h2; refine ⟨B', a', s', fun k hk => ?_, hs, hl, hS'⟩; obtain ⟨k, rfl⟩ : ∃ m, k = m + 1 := ⟨k - 1, by omega⟩; simp only [spec_l03List.l1]; rw [e1, Option.bind_some]; dsimp only; rw [if_pos g, hw, if_pos (by omega), if_pos (by omega), if_pos (by omega), if_pos (by omega), if_pos (by omega), e2, Option.bind_some]; dsimp only; rw [if_pos (by omega)]; exact e k (by omega)
  ·refine ⟨B, a1, s1, fun k hk => ?_, h1, by omega, hS⟩
   obtain ⟨k, rfl⟩ : ∃ m, k = m + 1 := ⟨k - 1, by omega⟩; simp only [spec_l03List.l1]; rw [e1, Option.bind_some]; dsimp only; rw [if_neg g]
theorem list_l0 {c : List Int} (hc : Code c) {nm : List ByteArray} (hn : ∀ x ∈ nm, x.size ≤ 100) (hn6 : nm.length ≤ 6) : ∀ d (i : Nat) (B : List S62), nm.length - i = d → i ≤ nm.length → B.length + d ≤ 40 → SmallArts B → ∀ {a s : Int}, St c a s → ∃ B' a' s', (∀ k, d + 30 ≤ k → spec_l03List.l0 k B nm (i : Int) c a s = some (B', a', s')) ∧ St c a' s' ∧ B'.length ≤ 60 ∧ SmallArts B' := by
 intro d
 induction d with
 | zero =>
  intro i B hd hi hB hS a s h; obtain ⟨r, a1, s1, e1, h1, p1, q1⟩ := next_ok hc h 30 (by decide)
  by_cases g0 : r = 0
  ·obtain ⟨q2, q3, q4, q5, q6, q7, q8, q9, a2, s2, e2, h2⟩ := good_art hc h1 (⟨#[97, 115, 116, 101, 114]⟩ : ByteArray)
   refine ⟨B ++ [⟨_, q2, q3, q4, q5, q6, q7, q8, q9⟩], a2, s2, fun k hk => ?_, h2, Zdd, small_snoc hS (show (⟨#[97, 115, 116, 101, 114]⟩ : ByteArray).size ≤ 100 by decide)⟩; obtain ⟨k, rfl⟩ : ∃ m, k = m + 1 := ⟨k - 1, by omega⟩; simp only [spec_l03List.l0]; rw [if_neg (by omega), e1, Option.bind_some]; dsimp only; rw [if_pos g0, e2, Option.bind_some]; dsimp only; rw [if_pos (by omega)]
  ·by_cases g1 : r = 1
   ·obtain ⟨B', a', s', e, hs, hl, hS'⟩ := list_l1 hc 14 0 B (by omega) (by omega) (by omega) hS h1
    refine ⟨B', a', s', fun k hk => ?_, hs, hl, hS'⟩; obtain ⟨k, rfl⟩ : ∃ m, k = m + 1 := ⟨k - 1, by omega⟩; simp only [spec_l03List.l0]; rw [if_neg (by omega), e1, Option.bind_some]; dsimp only; rw [if_neg g0, if_pos g1]; exact e k (by omega)
   ·refine ⟨B, a1, s1, fun k hk => ?_, h1, by omega, hS⟩
    obtain ⟨k, rfl⟩ : ∃ m, k = m + 1 := ⟨k - 1, by omega⟩; simp only [spec_l03List.l0]; rw [if_neg (by omega), e1, Option.bind_some]; dsimp only; rw [if_neg g0, if_neg g1]
 | succ d ih =>
  intro i B hd hi hB hS a s h; obtain ⟨r, a1, s1, e1, h1, p1, q1⟩ := next_ok hc h 3 (by decide)
  have hw : wrap64 ((i : Int) + 1) = ((i + 1 : Nat) : Int) := by rw [w64 (by omega)]; omega
  by_cases g : r > 0
  ·have hz : (rdOf ByteArray.empty nm (i : Int)).size ≤ 100 := hn _ (by unfold rdOf; exact mem_rd (by omega) (by omega))
   obtain ⟨q1_, q2, q3, q4, q5, q6, q7, q8, q9, a2, s2, e2, h2, hx⟩ := draw_art hc h1 (rdOf ByteArray.empty nm (i : Int)) hz (fun h => word_draw hc h); obtain ⟨B', a', s', e, hs, hb, hS'⟩ := ih (i + 1) (B ++ [⟨q1_, q2, q3, q4, q5, q6, q7, q8, q9⟩]) (by omega) (by omega) Zdd (small_snoc hS hx) h2; refine ⟨B', a', s', fun k hk => ?_, hs, hb, hS'⟩; obtain ⟨k, rfl⟩ : ∃ m, k = m + 1 := ⟨k - 1, by omega⟩; simp only [spec_l03List.l0]; rw [if_pos (by omega), e1, Option.bind_some]; dsimp only; rw [if_pos g, if_pos (by omega), e2, Option.bind_some]; dsimp only; rw [if_pos (by omega), hw]; exact e k (by omega)
  ·obtain ⟨B', a', s', e, hs, hb, hS'⟩ := ih (i + 1) B (by omega) (by omega) (by omega) hS h1
   refine ⟨B', a', s', fun k hk => ?_, hs, hb, hS'⟩; obtain ⟨k, rfl⟩ : ∃ m, k = m + 1 := ⟨k - 1, by omega⟩; simp only [spec_l03List.l0]; rw [if_pos (by omega), e1, Option.bind_some]; dsimp only; rw [if_neg g, hw]; exact e k (by omega)
theorem list_draw {c : List Int} (hc : Code c) {a s : Int} (h : St c a s) : ∃ B a' s', (∀ k, 40 ≤ k → spec_l03List.f k c a s = some (B, a', s')) ∧ St c a' s' ∧ B.length ≤ 60 ∧ SmallArts B := by
 obtain ⟨nm, en, hn, hn6⟩ : ∃ nm, spec_l03Names.f = some nm ∧ (∀ x ∈ nm, x.size ≤ 100) ∧ nm.length ≤ 6 := ⟨_, rfl, by decide, by decide⟩; obtain ⟨B, a', s', e, hs, hb, hS⟩ := list_l0 hc hn hn6 nm.length 0 [] (by omega) (by omega) (by simp only [List.length_nil]; omega) (fun x hx => by simp at hx) h; refine ⟨B, a', s', fun k hk => ?_, hs, hb, hS⟩
 unfold spec_l03List.f
 rw [en, Option.bind_some]; exact e k (by omega)
theorem show_draw {c : List Int} (hc : Code c) {a s : Int} (h : St c a s) : ∃ A B C a' s', (∀ k, 36893488147419104010 ≤ k → spec_l08Draw.f k c a s = some (A, B, C, a', s')) ∧ St c a' s' ∧ A.length ≤ 60 ∧ B.length ≤ 60 ∧ SmallArts B ∧ C.length ≤ 60 := by
 obtain ⟨A, B, C, a1, s1, e1, h1, hA1, hA6, hB, hS, hC⟩ := good_show hc h; obtain ⟨r, a2, s2, e2, h2, _⟩ := next_ok hc h1 40 (by decide)
 by_cases g0 : r = 0
 ·obtain ⟨A', a3, s3, e3, h3, hl⟩ := score_draw hc h2
  refine ⟨A', B, C, a3, s3, fun k hk => ?_, h3, by omega, by omega, hS, by omega⟩
  unfold spec_l08Draw.f
  rw [e1 k hk, Option.bind_some]; dsimp only; rw [e2, Option.bind_some]; dsimp only; rw [if_pos g0, e3 k (by omega), Option.bind_some]
 by_cases g1 : r = 1
 ·obtain ⟨B', a3, s3, e3, h3, hl, hS'⟩ := list_draw hc h2
  refine ⟨A, B', C, a3, s3, fun k hk => ?_, h3, by omega, by omega, hS', by omega⟩
  unfold spec_l08Draw.f
  rw [e1 k hk, Option.bind_some]; dsimp only; rw [e2, Option.bind_some]; dsimp only; rw [if_neg g0, if_pos g1, e3 k (by omega), Option.bind_some]
 by_cases g2 : r = 2
 ·obtain ⟨r3, a3, s3, e3, h3, _⟩ := next_ok hc h2 8 (by decide)
  obtain ⟨r4, a4, s4, e4, h4, _⟩ := next_ok hc h3 5 (by decide); obtain ⟨r5, a5, s5, e5, h5, _⟩ := next_ok hc h4 14 (by decide); refine ⟨A, B, C ++ [⟨wrap64 (r3 - 1), r4, (⟨#[112, 101, 111, 110, 121]⟩ : ByteArray), wrap64 (r5 - 1)⟩], a5, s5, fun k hk => ?_, h5, by omega, by omega, hS, Zdd⟩
  unfold spec_l08Draw.f
  rw [e1 k hk, Option.bind_some]; dsimp only; rw [e2, Option.bind_some]; dsimp only; rw [if_neg g0, if_neg g1, if_pos g2, e3, Option.bind_some]; dsimp only; rw [e4, Option.bind_some]; dsimp only; rw [e5, Option.bind_some]; dsimp only; rw [if_pos (by omega)]
 by_cases g3 : r = 3
 ·by_cases g4 : (C.length : Int) > 0
  ·obtain ⟨C', a3, s3, e3, h3, hl⟩ := draw_loop hc A B (rd_T39 C 0) (30 - C.length) C rfl (by omega) h2
   refine ⟨A, B, C', a3, s3, fun k hk => ?_, h3, by omega, by omega, hS, by omega⟩
   unfold spec_l08Draw.f
   rw [e1 k hk, Option.bind_some]; dsimp only; rw [e2, Option.bind_some]; dsimp only; rw [if_neg g0, if_neg g1, if_neg g2, if_pos g3, if_pos g4, if_pos (by omega)]; exact e3 k (by omega)
  ·refine ⟨A, B, C, a2, s2, fun k hk => ?_, h2, by omega, by omega, hS, by omega⟩
   unfold spec_l08Draw.f
   rw [e1 k hk, Option.bind_some]; dsimp only; rw [e2, Option.bind_some]; dsimp only; rw [if_neg g0, if_neg g1, if_neg g2, if_pos g3, if_neg g4]
 ·refine ⟨A, B, C, a2, s2, fun k hk => ?_, h2, by omega, by omega, hS, by omega⟩
  unfold spec_l08Draw.f
  rw [e1 k hk, Option.bind_some]; dsimp only; rw [e2, Option.bind_some]; dsimp only; rw [if_neg g0, if_neg g1, if_neg g2, if_neg g3]
end Go.Proofs.Ythhijbdekboahaa.F
namespace Go.Proofs.Ythhijbdekboahaa.F
open Go.RowKit Go.Proofs.YthhijbdekboahaaW.PrintWords Go.Proofs.YthhijbdekboahaaW.PrintLast Go.Proofs.YthhijbdekboahaaW.PrintMore
attribute [local go_sem] max2_int min2_int max_two min_two max_three min_three max_four min_four
set_option linter.unusedVariables false
set_option linter.unusedSimpArgs false
end Go.Proofs.Ythhijbdekboahaa.F
namespace Go.Proofs.Ythhijbdekboahaa.F
open Go.RowKit Go.Proofs.YthhijbdekboahaaW.PrintWords Go.Proofs.YthhijbdekboahaaW.PrintLast Go.Proofs.YthhijbdekboahaaW.PrintMore
set_option linter.unusedVariables false
set_option linter.unusedSimpArgs false
theorem like_ints_s (X : List Int) (hX : X.length ≤ 4000000) (k : Nat) (hk : X.length < k) : laws_likeInts.f k X X = some true := by
 have loop : ∀ d i k, X.length - i = d → i ≤ X.length → d < k → laws_likeInts.l0 k X X (i : Int) = some true := by
  intro d
  induction d with
  | zero =>
   intro i k hd hi hk; obtain ⟨k, rfl⟩ : ∃ m, k = m + 1 := ⟨k - 1, by omega⟩; simp only [laws_likeInts.l0]; rw [if_neg (by omega)]
  | succ d ih =>
   intro i k hd hi hk; obtain ⟨k, rfl⟩ : ∃ m, k = m + 1 := ⟨k - 1, by omega⟩; simp only [laws_likeInts.l0]; rw [if_pos (by omega), if_pos (by omega), if_pos (by omega), if_pos trivial, w64 (by omega)]; exact ih (i + 1) k (by omega) (by omega) (by omega)
 unfold laws_likeInts.f
 rw [if_pos rfl]; exact loop X.length 0 k (by omega) (by omega) hk
end Go.Proofs.Ythhijbdekboahaa.F
namespace Go.Proofs.Ythhijbdekboahaa.F
open Go.RowKit Go.Proofs.YthhijbdekboahaaW.PrintWords Go.Proofs.YthhijbdekboahaaW.PrintLast Go.Proofs.YthhijbdekboahaaW.PrintMore
attribute [local go_sem] max2_int min2_int max_two min_two max_three min_three max_four min_four
set_option linter.unusedVariables false
set_option linter.unusedSimpArgs false
end Go.Proofs.Ythhijbdekboahaa.F
namespace Go.Proofs.Ythhijbdekboahaa.F
open Go.RowKit Go.Proofs.YthhijbdekboahaaW.PrintWords Go.Proofs.YthhijbdekboahaaW.PrintLast Go.Proofs.YthhijbdekboahaaW.PrintMore
set_option linter.unusedVariables false
set_option linter.unusedSimpArgs false
theorem artFor_ok {A : List S104} {B : List S62} {C : List S39} (h : isShow A B C = true) {i : Nat} (hi : i < C.length) (k : Nat) (hk : 100 ≤ k) : impl_articleFor.f k A B C (cu_at C i).f0 (cu_at C i).f1 (cu_at C i).f2 (cu_at C i).f3 = some ((arOf B (cu_at C i)).f0, (arOf B (cu_at C i)).f1, (arOf B (cu_at C i)).f2, (arOf B (cu_at C i)).f3, (arOf B (cu_at C i)).f4, (arOf B (cu_at C i)).f5, (arOf B (cu_at C i)).f6, (arOf B (cu_at C i)).f7, (arOf B (cu_at C i)).f8) := by
 obtain ⟨h1, h2, h3, _⟩ := cu_ok h hi; have hB := (areArts_true (isShow_true h).2.1).1
 unfold impl_articleFor.f
 rw [impl_find B (by omega) _ k (by omega)]; simp only [Option.bind_some]; rw [if_pos h2, if_pos h3, rd_arOf B _ h2]
theorem shot_range {a : S62} (h : art a = true) {j : Int} (h0 : 0 ≤ j) (h1 : j < a.f5) : 0 ≤ j * a.f6 ∧ j * a.f6 ≤ 490000 := by
 have ha := art_true h; have h2 : 0 ≤ j * a.f6 := Int.mul_nonneg h0 (by omega); have h3 : j * a.f6 ≤ 49 * a.f6 := Int.mul_le_mul_of_nonneg_right (by omega) (by omega)
 omega
def wlo (A : List S104) (B : List S62) (c : S39) (j : Nat) : Int := ftime A B c + (arOf B c).f3 + (j : Int) * (arOf B c).f6 - (arOf B c).f4
def whi (A : List S104) (B : List S62) (c : S39) (j : Nat) : Int := ftime A B c + (arOf B c).f3 + (j : Int) * (arOf B c).f6 + (arOf B c).f4
def wn (B : List S62) (c : S39) : Nat := (arOf B c).f5.toNat
def cueW2 (A : List S104) (B : List S62) (c : S39) : List (List Int) := (List.range (wn B c)).map (fun j => [wlo A B c j, whi A B c j])
def cueW3 (A : List S104) (B : List S62) (c : S39) (x : Int) : List (List Int) := (List.range (wn B c)).map (fun j => [wlo A B c j, whi A B c j, x])
theorem cueW2_len (A : List S104) (B : List S62) (c : S39) : (cueW2 A B c).length = wn B c := by unfold cueW2; rw [List.length_map, List.length_range]
theorem cueW3_len (A : List S104) (B : List S62) (c : S39) (x : Int) : (cueW3 A B c x).length = wn B c := by unfold cueW3; rw [List.length_map, List.length_range]
theorem rdL_map (f : Nat → List Int) (n j : Nat) (h : j < n) : rd_L6 ((List.range n).map f) (j : Int) = f j := by
 unfold rd_L6
 rw [Int.toNat_natCast, List.getD_eq_getElem?_getD, List.getElem?_map, List.getElem?_range h]; rfl
theorem rdL_cue2 (A : List S104) (B : List S62) (c : S39) {j : Nat} (h : j < wn B c) : rd_L6 (cueW2 A B c) (j : Int) = [wlo A B c j, whi A B c j] := rdL_map _ _ _ h
theorem rdL_cue3 (A : List S104) (B : List S62) (c : S39) (x : Int) {j : Nat} (h : j < wn B c) : rd_L6 (cueW3 A B c x) (j : Int) = [wlo A B c j, whi A B c j, x] := rdL_map _ _ _ h
theorem rd_0 (a : Int) (l : List Int) : rd (a :: l) 0 = a := rfl
theorem rd_1 (a b : Int) (l : List Int) : rd (a :: b :: l) 1 = b := rfl
theorem wn_range {A : List S104} {B : List S62} {C : List S39} (h : isShow A B C = true) {i : Nat} (hi : i < C.length) : 1 ≤ wn B (cu_at C i) ∧ wn B (cu_at C i) ≤ 50 ∧ ((wn B (cu_at C i) : Nat) : Int) = (arOf B (cu_at C i)).f5 := by
 obtain ⟨h1, h2, h3, h4, h5, h6⟩ := cu_ok h hi; have ha := art_true h6
 unfold wn
 omega
theorem w_range {A : List S104} {B : List S62} {C : List S39} (h : isShow A B C = true) {i : Nat} (hi : i < C.length) {j : Nat} (hj : j < wn B (cu_at C i)) : 0 ≤ wlo A B (cu_at C i) j ∧ wlo A B (cu_at C i) j ≤ whi A B (cu_at C i) j ∧ whi A B (cu_at C i) j ≤ 3000000 ∧ 0 ≤ (j : Int) * (arOf B (cu_at C i)).f6 ∧ (j : Int) * (arOf B (cu_at C i)).f6 ≤ 490000 := by
 obtain ⟨h1, h2, h3, h4, h5, h6⟩ := cu_ok h hi; have ha := art_true h6; have hn := wn_range h hi; have hs := shot_range h6 (j := (j : Int)) (by omega) (by omega)
 unfold wlo whi
 omega
theorem spec_cue {A : List S104} {B : List S62} {C : List S39} (h : isShow A B C = true) {i : Nat} (hi : i < C.length) (k : Nat) (hk : 300 ≤ k) : spec_l09Cue.f k A B C (i : Int) = some (cueW3 A B (cu_at C i) (i : Int)) := by
 obtain ⟨h1, h2, h3, h4, h5, h6⟩ := cu_ok h hi; have hn := wn_range h hi; have ha := art_true h6; have hB := (areArts_true (isShow_true h).2.1).1; have hC := (isShow_true h).2.2.1
 unfold spec_l09Cue.f
 rw [if_pos (by omega), if_pos (by omega), rd_cue, spec_find B (by omega) _ k (by omega)]; simp only [Option.bind_some]; rw [if_pos h2, if_pos h3, rd_arOf B _ h2]
 have st : ∀ d k j, wn B (cu_at C i) - j = d → j ≤ wn B (cu_at C i) → d + 110 ≤ k → spec_l09Cue.l0 k (i : Int) ((List.range j).map (fun j => [wlo A B (cu_at C i) j, whi A B (cu_at C i) j, (i : Int)])) (j : Int) A B C (cu_at C i).f0 (cu_at C i).f1 (cu_at C i).f2 (cu_at C i).f3 (arOf B (cu_at C i)).f0 (arOf B (cu_at C i)).f1 (arOf B (cu_at C i)).f2 (arOf B (cu_at C i)).f3 (arOf B (cu_at C i)).f4 (arOf B (cu_at C i)).f5 (arOf B (cu_at C i)).f6 (arOf B (cu_at C i)).f7 (arOf B (cu_at C i)).f8 = some (cueW3 A B (cu_at C i) (i : Int)) := by
  intro d
  induction d with
  | zero =>
   intro k j hd hj hk; obtain ⟨k, rfl⟩ : ∃ m, k = m + 1 := ⟨k - 1, by omega⟩; simp only [spec_l09Cue.l0]; rw [if_neg (by omega)]
   have e : j = wn B (cu_at C i) := by omega
   subst e
   rfl
  | succ d ih =>
   intro k j hd hj hk; obtain ⟨k, rfl⟩ : ∃ m, k = m + 1 := ⟨k - 1, by omega⟩; have r := w_range h hi (show j < wn B (cu_at C i) by omega); have nx := ih k (j + 1) (by omega) (by omega) (by omega); rw [List.range_succ, List.map_append, List.map_singleton] at nx; simp only [spec_l09Cue.l0]; rw [if_pos (by omega), (cue_time h hi k (by omega)).1, w64 (n := (j : Int) + 1) (by omega)]; simp only [Option.bind_some, spec_l03Window.f]; have el : wlo A B (cu_at C i) j = ftime A B (cu_at C i) + (arOf B (cu_at C i)).f3 + (j : Int) * (arOf B (cu_at C i)).f6 - (arOf B (cu_at C i)).f4 := rfl; have eh : whi A B (cu_at C i) j = ftime A B (cu_at C i) + (arOf B (cu_at C i)).f3 + (j : Int) * (arOf B (cu_at C i)).f6 + (arOf B (cu_at C i)).f4 := rfl; rw [w64 (n := ftime A B (cu_at C i) + (arOf B (cu_at C i)).f3) (by omega), w64 (n := (j : Int) * (arOf B (cu_at C i)).f6) (by omega), w64 (n := ftime A B (cu_at C i) + (arOf B (cu_at C i)).f3 + (j : Int) * (arOf B (cu_at C i)).f6) (by omega), ← el, ← eh, w64 (n := wlo A B (cu_at C i) j) (by omega), w64 (n := whi A B (cu_at C i) j) (by omega), rd_0, rd_1]; rw [if_pos (by show (0 : Int) < ((2 : Nat) : Int); decide), if_pos (by show (1 : Int) < ((2 : Nat) : Int); decide), if_pos (by rw [List.length_map, List.length_range]; omega)]; exact nx
 exact st (wn B (cu_at C i)) k 0 (by omega) (by omega) (by omega)
theorem impl_cue {A : List S104} {B : List S62} {C : List S39} (h : isShow A B C = true) {i : Nat} (hi : i < C.length) (k : Nat) (hk : 300 ≤ k) : impl_windowsOfCue.f k A B C (cu_at C i).f0 (cu_at C i).f1 (cu_at C i).f2 (cu_at C i).f3 = some (cueW2 A B (cu_at C i)) := by
 obtain ⟨h1, h2, h3, h4, h5, h6⟩ := cu_ok h hi; have hn := wn_range h hi; have ha := art_true h6
 unfold impl_windowsOfCue.f impl_shotWindows.f
 rw [artFor_ok h hi k (by omega)]; simp only [Option.bind_some]; rw [(cue_time h hi k (by omega)).2]; simp only [Option.bind_some]
 have st : ∀ d k j, wn B (cu_at C i) - j = d → j ≤ wn B (cu_at C i) → d + 110 ≤ k → impl_shotWindows.l0 k (ftime A B (cu_at C i)) ((List.range j).map (fun j => [wlo A B (cu_at C i) j, whi A B (cu_at C i) j])) (j : Int) (arOf B (cu_at C i)).f0 (arOf B (cu_at C i)).f1 (arOf B (cu_at C i)).f2 (arOf B (cu_at C i)).f3 (arOf B (cu_at C i)).f4 (arOf B (cu_at C i)).f5 (arOf B (cu_at C i)).f6 (arOf B (cu_at C i)).f7 (arOf B (cu_at C i)).f8 = some (cueW2 A B (cu_at C i)) := by
  intro d
  induction d with
  | zero =>
   intro k j hd hj hk; obtain ⟨k, rfl⟩ : ∃ m, k = m + 1 := ⟨k - 1, by omega⟩; simp only [impl_shotWindows.l0]; rw [if_neg (by omega)]
   have e : j = wn B (cu_at C i) := by omega
   subst e
   rfl
  | succ d ih =>
   intro k j hd hj hk; obtain ⟨k, rfl⟩ : ∃ m, k = m + 1 := ⟨k - 1, by omega⟩; have r := w_range h hi (show j < wn B (cu_at C i) by omega); have nx := ih k (j + 1) (by omega) (by omega) (by omega); rw [List.range_succ, List.map_append, List.map_singleton] at nx; simp only [impl_shotWindows.l0]; have el : wlo A B (cu_at C i) j = ftime A B (cu_at C i) + (arOf B (cu_at C i)).f3 + (j : Int) * (arOf B (cu_at C i)).f6 - (arOf B (cu_at C i)).f4 := rfl; have eh : whi A B (cu_at C i) j = ftime A B (cu_at C i) + (arOf B (cu_at C i)).f3 + (j : Int) * (arOf B (cu_at C i)).f6 + (arOf B (cu_at C i)).f4 := rfl; rw [if_pos (by omega), if_pos (by rw [List.length_map, List.length_range]; omega), w64 (n := (j : Int) + 1) (by omega), w64 (n := ftime A B (cu_at C i) + (arOf B (cu_at C i)).f3) (by omega), w64 (n := (j : Int) * (arOf B (cu_at C i)).f6) (by omega), w64 (n := ftime A B (cu_at C i) + (arOf B (cu_at C i)).f3 + (j : Int) * (arOf B (cu_at C i)).f6) (by omega), ← el, ← eh, w64 (n := wlo A B (cu_at C i) j) (by omega), w64 (n := whi A B (cu_at C i) j) (by omega)]; exact nx
 rw [show impl_shotWindows.l0 k (ftime A B (cu_at C i)) ([] : List (List Int)) 0 (arOf B (cu_at C i)).f0 (arOf B (cu_at C i)).f1 (arOf B (cu_at C i)).f2 (arOf B (cu_at C i)).f3 (arOf B (cu_at C i)).f4 (arOf B (cu_at C i)).f5 (arOf B (cu_at C i)).f6 (arOf B (cu_at C i)).f7 (arOf B (cu_at C i)).f8 = some (cueW2 A B (cu_at C i)) from st (wn B (cu_at C i)) k 0 (by omega) (by omega) (by omega)]
 rfl
theorem rdL_mem {X : List (List Int)} {i : Nat} (h : i < X.length) : rd_L6 X (i : Int) ∈ X := by
 unfold rd_L6
 rw [Int.toNat_natCast, List.getD_eq_getElem?_getD, List.getElem?_eq_getElem h]; exact List.getElem_mem _
theorem like_rows_s (X : List (List Int)) (hX : X.length ≤ 4000000) (hr : ∀ x ∈ X, x.length ≤ 1000) (k : Nat) (hk : X.length + 1100 ≤ k) : laws_likeRows.f k X X = some true := by
 have loop : ∀ d i k, X.length - i = d → i ≤ X.length → d + 1001 < k → laws_likeRows.l0 k X X (i : Int) = some true := by
  intro d
  induction d with
  | zero =>
   intro i k hd hi hk; obtain ⟨k, rfl⟩ : ∃ m, k = m + 1 := ⟨k - 1, by omega⟩; simp only [laws_likeRows.l0]; rw [if_neg (by omega)]
  | succ d ih =>
   intro i k hd hi hk; obtain ⟨k, rfl⟩ : ∃ m, k = m + 1 := ⟨k - 1, by omega⟩; have hl := hr _ (rdL_mem (X := X) (i := i) (by omega)); simp only [laws_likeRows.l0]; rw [if_pos (by omega), if_pos (by omega), if_pos (by omega), like_ints_s _ (by omega) k (by omega), Option.bind_some, if_pos rfl, w64 (by omega)]; exact ih (i + 1) k (by omega) (by omega) (by omega)
 unfold laws_likeRows.f
 rw [if_pos rfl]; exact loop X.length 0 k (by omega) (by omega) (by omega)
theorem row2_eq (x : List Int) (a b : Int) : x = [a, b] ↔ (x.length : Int) = 2 ∧ rd x 0 = a ∧ rd x 1 = b := by
 constructor
 ·rintro rfl; exact ⟨rfl, rfl, rfl⟩
 ·rintro ⟨h1, h2, h3⟩
  match x, h1 with
  | [u, v], _ => rw [← h2, ← h3]; rfl
theorem has_row_s (X : List (List Int)) (hX : X.length ≤ 4000000) (a b : Int) (k : Nat) (hk : X.length < k) : laws_hasRow.f k X a b = some (decide ([a, b] ∈ X)) := by
 have loop : ∀ d i k, X.length - i = d → i ≤ X.length → d < k → laws_hasRow.l0 k X a b (i : Int) = some (decide ([a, b] ∈ X.drop i)) := by
  intro d
  induction d with
  | zero =>
   intro i k hd hi hk; obtain ⟨k, rfl⟩ : ∃ m, k = m + 1 := ⟨k - 1, by omega⟩; simp only [laws_hasRow.l0]; rw [if_neg (by omega), List.drop_eq_nil_of_le (by omega)]
   rfl
  | succ d ih =>
   intro i k hd hi hk; obtain ⟨k, rfl⟩ : ∃ m, k = m + 1 := ⟨k - 1, by omega⟩
   have hlt : i < X.length := by omega
   have e : X.drop i = rd_L6 X (i : Int) :: X.drop (i + 1) := by
    rw [List.drop_eq_getElem_cons hlt]
    unfold rd_L6
    rw [Int.toNat_natCast, List.getD_eq_getElem?_getD, List.getElem?_eq_getElem hlt]
    rfl
   have hw : wrap64 ((i : Int) + 1) = ((i + 1 : Nat) : Int) := by rw [w64 (by omega)]; omega
   have no : ¬ rd_L6 X (i : Int) = [a, b] → laws_hasRow.l0 k X a b (wrap64 ((i : Int) + 1)) = some (decide ([a, b] ∈ rd_L6 X (i : Int) :: X.drop (i + 1))) := by
    intro c; rw [hw]; refine (ih (i + 1) k (by omega) (by omega) (by omega)).trans ?_
    congr 1
    rw [Bool.eq_iff_iff, decide_eq_true_iff, decide_eq_true_iff, List.mem_cons]; exact ⟨fun x => .inr x, fun x => x.elim (fun y => absurd y.symm c) id⟩
   simp only [laws_hasRow.l0]; rw [if_pos (by omega), if_pos (by omega), e]
   by_cases c1 : ((rd_L6 X (i : Int)).length : Int) = 2
   ·rw [if_pos c1, if_pos (by omega)]
    by_cases c2 : rd (rd_L6 X (i : Int)) 0 = a
    ·rw [if_pos c2, if_pos (by omega)]
     by_cases c3 : rd (rd_L6 X (i : Int)) 1 = b
     ·rw [if_pos c3, decide_eq_true (List.mem_cons.2 (.inl ((row2_eq _ _ _).2 ⟨c1, c2, c3⟩).symm))]
     ·rw [if_neg c3]
      exact no (fun h => c3 ((row2_eq _ _ _).1 h).2.2)
    ·rw [if_neg c2]
     exact no (fun h => c2 ((row2_eq _ _ _).1 h).2.1)
   ·rw [if_neg c1]
    exact no (fun h => c1 ((row2_eq _ _ _).1 h).1)
 unfold laws_hasRow.f
 exact loop X.length 0 k (by omega) (by omega) hk
def befB (A : List S104) (B : List S62) (c d : S39) : Bool := decide (whi A B c (wn B c - 1) < wlo A B d 0)
theorem bef_ok {A : List S104} {B : List S62} {C : List S39} (h : isShow A B C = true) {a b : Nat} (ha : a < C.length) (hb : b < C.length) (k : Nat) (hk : 300 ≤ k) : spec_l09Before.f k A B C (a : Int) (b : Int) = some (befB A B (cu_at C a) (cu_at C b)) ∧ impl_surelyBefore.f k A B C (a : Int) (b : Int) = some (befB A B (cu_at C a) (cu_at C b)) := by
 have na := wn_range h ha; have nb := wn_range h hb; constructor
 ·unfold spec_l09Before.f
  rw [spec_cue h ha k hk, spec_cue h hb k hk]; simp only [Option.bind_some]; rw [cueW3_len, cueW3_len, w64 (n := ((wn B (cu_at C a) : Nat) : Int) - 1) (by omega), if_pos (by omega), if_pos (by omega), show ((wn B (cu_at C a) : Nat) : Int) - 1 = ((wn B (cu_at C a) - 1 : Nat) : Int) by omega, rdL_cue3 _ _ _ _ (by omega), rd_1, show (0 : Int) = ((0 : Nat) : Int) from rfl, rdL_cue3 _ _ _ _ (by omega)]; rw [if_pos (by show (1 : Int) < ((3 : Nat) : Int); decide), if_pos (by omega), if_pos (by show (0 : Int) < ((3 : Nat) : Int); decide)]
  rfl
 ·unfold impl_surelyBefore.f
  rw [if_pos (by omega), if_pos (by omega), rd_cue, rd_cue, impl_cue h ha k hk, impl_cue h hb k hk]; simp only [Option.bind_some]; rw [if_pos (by omega), if_pos (by omega), cueW2_len, cueW2_len, w64 (n := ((wn B (cu_at C a) : Nat) : Int) - 1) (by omega), if_pos (by omega), if_pos (by omega), show ((wn B (cu_at C a) : Nat) : Int) - 1 = ((wn B (cu_at C a) - 1 : Nat) : Int) by omega, rdL_cue2 _ _ _ (by omega), rd_1, show (0 : Int) = ((0 : Nat) : Int) from rfl, rdL_cue2 _ _ _ (by omega)]; rw [if_pos (by show (1 : Int) < ((2 : Nat) : Int); decide), if_pos (by omega), if_pos (by show (0 : Int) < ((2 : Nat) : Int); decide)]
  rfl
def twoR (A : List S104) (B : List S62) (C : List S39) (a b : Int) : Int := if isShow A B C = true then (if inB a 0 ((C.length : Int) - 1) = true then (if inB b 0 ((C.length : Int) - 1) = true then 0 else 2) else 2) else 1
theorem two_ok (n0 : Nat) {A : List S104} {B : List S62} {C : List S39} (hF : Frame n0 A B C) (a b : Int) (k : Nat) (hk : 36893488147419103528 ≤ k) : spec_l09Code.f k A B C a b = some (twoR A B C a b) ∧ impl_twoCues.f k A B C a b = some (twoR A B C a b) := by
 have hC := hF.2.2.1
 unfold spec_l09Code.f impl_twoCues.f twoR
 rw [ss_ok hF k (by omega), si_ok hF k (by omega), index_eq, index_eq, w64 (n := (C.length : Int) - 1) (by omega)]; simp only [Option.bind_some, In_eq]
 cases h : isShow A B C with
 | false => exact ⟨rfl, rfl⟩
 | true =>
  simp only [if_true]
  cases g : inB a 0 ((C.length : Int) - 1) with
  | false => exact ⟨rfl, rfl⟩
  | true =>
   simp only [if_true]
   cases inB b 0 ((C.length : Int) - 1) <;> exact ⟨rfl, rfl⟩
theorem two_zero {A : List S104} {B : List S62} {C : List S39} {a b : Int} (h : twoR A B C a b = 0) : isShow A B C = true ∧ ∃ p q : Nat, a = p ∧ b = q ∧ p < C.length ∧ q < C.length := by
 unfold twoR at h
 by_cases h1 : isShow A B C = true
 ·rw [if_pos h1] at h
  by_cases h2 : inB a 0 ((C.length : Int) - 1) = true
  ·rw [if_pos h2] at h
   by_cases h3 : inB b 0 ((C.length : Int) - 1) = true
   ·have g2 := inB_true.1 h2
    have g3 := inB_true.1 h3; exact ⟨h1, a.toNat, b.toNat, by omega, by omega, by omega, by omega⟩
   ·rw [if_neg h3] at h; exact absurd h (by decide)
  ·rw [if_neg h2] at h; exact absurd h (by decide)
 ·rw [if_neg h1] at h; exact absurd h (by decide)
theorem two_of {A : List S104} {B : List S62} {C : List S39} (h : isShow A B C = true) {p q : Nat} (hp : p < C.length) (hq : q < C.length) : twoR A B C (p : Int) (q : Int) = 0 := by
 unfold twoR
 rw [if_pos h, if_pos (inB_true.2 (by omega)), if_pos (inB_true.2 (by omega))]
def surR (A : List S104) (B : List S62) (C : List S39) (a b : Int) : Bool × Int := if twoR A B C a b = 0 then (befB A B (cu_at C a.toNat) (cu_at C b.toNat), 0) else (false, twoR A B C a b)
theorem sur_ok (n0 : Nat) {A : List S104} {B : List S62} {C : List S39} (hF : Frame n0 A B C) (a b : Int) (k : Nat) (hk : 36893488147419103528 ≤ k) : spec_SurelyBefore.f k A B C a b = some (surR A B C a b) ∧ impl_SurelyBefore.f k A B C a b = some (surR A B C a b) := by
 unfold spec_SurelyBefore.f impl_SurelyBefore.f surR
 rw [(two_ok n0 hF a b k hk).1, (two_ok n0 hF a b k hk).2]; simp only [Option.bind_some]
 by_cases c : twoR A B C a b = 0
 ·obtain ⟨h, p, q, rfl, rfl, hp, hq⟩ := two_zero c
  rw [if_pos c, if_pos c, if_pos c, (bef_ok h hp hq k (by omega)).1, (bef_ok h hp hq k (by omega)).2]; exact ⟨rfl, rfl⟩
 ·rw [if_neg c, if_neg c, if_neg c]
  exact ⟨rfl, rfl⟩
def unP (A : List S104) (B : List S62) (C : List S39) (a b : Nat) : Bool := !befB A B (cu_at C a) (cu_at C b) && !befB A B (cu_at C b) (cu_at C a)
def pairsF (p : Nat → Nat → Bool) (a : Nat) : Nat → Nat → List (List Int)
 | _, 0 => []
 | b, d + 1 => (if p a b = true then [[(a : Int), (b : Int)]] else []) ++ pairsF p a (b + 1) d
theorem pairsF_mem (p : Nat → Nat → Bool) (a : Nat) : ∀ d b x, x ∈ pairsF p a b d ↔ ∃ j : Nat, b ≤ j ∧ j < b + d ∧ p a j = true ∧ x = [(a : Int), (j : Int)]
 | 0, b, x => by
  unfold pairsF
  exact ⟨fun h => absurd h List.not_mem_nil, fun ⟨j, h1, h2, _⟩ => absurd h2 (by omega)⟩
 | d + 1, b, x => by
  unfold pairsF
  rw [List.mem_append, pairsF_mem p a d (b + 1) x]; constructor
  ·rintro (h | ⟨j, h1, h2, h3⟩)
   ·by_cases c : p a b = true
    ·rw [if_pos c, List.mem_singleton] at h
     exact ⟨b, Nat.le_refl _, by omega, c, h⟩
    ·rw [if_neg c] at h
     exact absurd h List.not_mem_nil
   ·exact ⟨j, by omega, by omega, h3⟩
  ·rintro ⟨j, h1, h2, h3, h4⟩
   by_cases e : j = b
   ·subst e
    left
    rw [if_pos h3, h4]; exact List.mem_singleton.2 rfl
   ·exact .inr ⟨j, by omega, by omega, h3, h4⟩
theorem pairsF_len (p : Nat → Nat → Bool) (a : Nat) : ∀ d b, (pairsF p a b d).length ≤ d
 | 0, _ => Nat.le_refl _
 | d + 1, b => by
  have := pairsF_len p a d (b + 1)
  unfold pairsF
  rw [List.length_append]
  split
  ·rw [List.length_singleton]; omega
  ·rw [List.length_nil]; omega
def unsF (p : Nat → Nat → Bool) (n : Nat) : Nat → List (List Int)
 | 0 => []
 | i + 1 => unsF p n i ++ pairsF p i (i + 1) (n - (i + 1))
theorem unsF_mem (p : Nat → Nat → Bool) (n : Nat) : ∀ i x, x ∈ unsF p n i ↔ ∃ a b : Nat, a < i ∧ a < b ∧ b < n ∧ p a b = true ∧ x = [(a : Int), (b : Int)]
 | 0, x => by
  unfold unsF
  exact ⟨fun h => absurd h List.not_mem_nil, fun ⟨a, _, h, _⟩ => absurd h (by omega)⟩
 | i + 1, x => by
  unfold unsF
  rw [List.mem_append, unsF_mem p n i x, pairsF_mem]; constructor
  ·rintro (⟨a, b, h1, h2, h3, h4⟩ | ⟨j, h1, h2, h3, h4⟩)
   ·exact ⟨a, b, by omega, h2, h3, h4⟩
   ·exact ⟨i, j, by omega, by omega, by omega, h3, h4⟩
  ·rintro ⟨a, b, h1, h2, h3, h4, h5⟩
   by_cases c : a = i
   ·subst c
    exact .inr ⟨b, by omega, by omega, h4, h5⟩
   ·exact .inl ⟨a, b, by omega, h2, h3, h4, h5⟩
theorem unsF_len (p : Nat → Nat → Bool) (n : Nat) : ∀ i, (unsF p n i).length ≤ i * n
 | 0 => by unfold unsF; simp
 | i + 1 => by
  have := unsF_len p n i; have := pairsF_len p i (n - (i + 1)) (i + 1)
  unfold unsF
  rw [List.length_append, Nat.succ_mul]; omega
theorem spec_uns {A : List S104} {B : List S62} {C : List S39} (h : isShow A B C = true) : ∀ d i, C.length - i = d → i ≤ C.length → Evt (fun k => spec_UnsurePairs.l0 k (unsF (unP A B C) C.length i) (C.length : Int) (i : Int) A B C = some (unsF (unP A B C) C.length C.length, 0)) := by
 have hC := (isShow_true h).2.2.1
 have inner : ∀ i, i < C.length → ∀ d b X, C.length - b = d → b ≤ C.length → X.length ≤ 1000 + b → ∀ k, 400 ≤ k → spec_UnsurePairs.l1 (k + (d + 1)) X (C.length : Int) (i : Int) (b : Int) A B C = spec_UnsurePairs.l0 k (X ++ pairsF (unP A B C) i b d) (C.length : Int) ((i + 1 : Nat) : Int) A B C := by
  intro i hi d
  induction d with
  | zero =>
   intro b X hd hb hX k hk; simp only [spec_UnsurePairs.l1]; rw [if_neg (by omega), w64 (n := (i : Int) + 1) (by omega)]
   unfold pairsF
   rw [List.append_nil]
   rfl
  | succ d ih =>
   intro b X hd hb hX k hk; rw [show k + (d + 1 + 1) = (k + (d + 1)) + 1 by omega]; simp only [spec_UnsurePairs.l1]; rw [if_pos (by omega), (bef_ok h hi (show b < C.length by omega) _ (by omega)).1, (bef_ok h (show b < C.length by omega) hi _ (by omega)).1, w64 (n := (b : Int) + 1) (by omega)]; simp only [Option.bind_some]
   unfold pairsF unP
   cases befB A B (cu_at C i) (cu_at C b) with
   | true =>
    have nx := ih (b + 1) X (by omega) (by omega) (by omega) k hk; rw [if_pos rfl]; exact nx
   | false =>
    rw [if_neg (by decide)]
    cases befB A B (cu_at C b) (cu_at C i) with
    | true =>
     have nx := ih (b + 1) X (by omega) (by omega) (by omega) k hk; rw [if_pos rfl]; exact nx
    | false =>
     have nx := ih (b + 1) (X ++ [[(i : Int), (b : Int)]]) (by omega) (by omega) Zdd k hk; rw [if_neg (by decide), if_pos (by omega)]; rw [List.append_assoc] at nx; exact nx
 intro d
 induction d with
 | zero =>
  intro i hd hi; refine Evt.succ (Evt.of fun k => ?_); show spec_UnsurePairs.l0 (k + 1) _ _ (i : Int) _ _ _ = _; simp only [spec_UnsurePairs.l0]; rw [if_neg (by omega), show i = C.length by omega]
 | succ d ih =>
  intro i hd hi; obtain ⟨K, hK⟩ := ih (i + 1) (by omega) (by omega); refine ⟨K + 500, fun k hk => ?_⟩; obtain ⟨k, rfl⟩ : ∃ m, k = (m + (C.length - (i + 1) + 1)) + 1 := ⟨k - (C.length - (i + 1) + 1) - 1, by omega⟩; have hl := unsF_len (unP A B C) C.length i; have hl2 : i * C.length ≤ 20 * C.length := Nat.mul_le_mul_right _ (by omega); show spec_UnsurePairs.l0 (k + (C.length - (i + 1) + 1) + 1) _ _ (i : Int) _ _ _ = _; simp only [spec_UnsurePairs.l0]; rw [if_pos (by omega), w64 (n := (i : Int) + 1) (by omega)]; have z := inner i (by omega) (C.length - (i + 1)) (i + 1) (unsF (unP A B C) C.length i) (by omega) (by omega) (by omega) k (by omega); exact z.trans (hK k (by omega))
theorem impl_uns {A : List S104} {B : List S62} {C : List S39} (h : isShow A B C = true) : ∀ d i, C.length - i = d → i ≤ C.length → Evt (fun k => impl_UnsurePairs.l0 k (unsF (unP A B C) C.length i) (i : Int) A B C = some (unsF (unP A B C) C.length C.length, 0)) := by
 have hC := (isShow_true h).2.2.1
 have inner : ∀ i, i < C.length → ∀ d b X, C.length - b = d → b ≤ C.length → X.length ≤ 1000 + b → ∀ k, 400 ≤ k → impl_UnsurePairs.l1 (k + (d + 1)) X (i : Int) (b : Int) A B C = impl_UnsurePairs.l0 k (X ++ pairsF (unP A B C) i b d) ((i + 1 : Nat) : Int) A B C := by
  intro i hi d
  induction d with
  | zero =>
   intro b X hd hb hX k hk; simp only [impl_UnsurePairs.l1]; rw [if_neg (by omega), w64 (n := (i : Int) + 1) (by omega)]
   unfold pairsF
   rw [List.append_nil]
   rfl
  | succ d ih =>
   intro b X hd hb hX k hk; rw [show k + (d + 1 + 1) = (k + (d + 1)) + 1 by omega]; simp only [impl_UnsurePairs.l1]; rw [if_pos (by omega), (bef_ok h hi (show b < C.length by omega) _ (by omega)).2, (bef_ok h (show b < C.length by omega) hi _ (by omega)).2, w64 (n := (b : Int) + 1) (by omega)]; simp only [Option.bind_some]
   unfold pairsF unP
   cases befB A B (cu_at C i) (cu_at C b) with
   | true =>
    have nx := ih (b + 1) X (by omega) (by omega) (by omega) k hk; rw [if_pos rfl]; exact nx
   | false =>
    rw [if_neg (by decide)]
    cases befB A B (cu_at C b) (cu_at C i) with
    | true =>
     have nx := ih (b + 1) X (by omega) (by omega) (by omega) k hk; rw [if_pos rfl]; exact nx
    | false =>
     have nx := ih (b + 1) (X ++ [[(i : Int), (b : Int)]]) (by omega) (by omega) Zdd k hk; rw [if_neg (by decide), if_pos (by omega)]; rw [List.append_assoc] at nx; exact nx
 intro d
 induction d with
 | zero =>
  intro i hd hi; refine Evt.succ (Evt.of fun k => ?_); show impl_UnsurePairs.l0 (k + 1) _ (i : Int) _ _ _ = _; simp only [impl_UnsurePairs.l0]; rw [if_neg (by omega), show i = C.length by omega]
 | succ d ih =>
  intro i hd hi; obtain ⟨K, hK⟩ := ih (i + 1) (by omega) (by omega); refine ⟨K + 500, fun k hk => ?_⟩; obtain ⟨k, rfl⟩ : ∃ m, k = (m + (C.length - (i + 1) + 1)) + 1 := ⟨k - (C.length - (i + 1) + 1) - 1, by omega⟩; have hl := unsF_len (unP A B C) C.length i; have hl2 : i * C.length ≤ 20 * C.length := Nat.mul_le_mul_right _ (by omega); show impl_UnsurePairs.l0 (k + (C.length - (i + 1) + 1) + 1) _ (i : Int) _ _ _ = _; simp only [impl_UnsurePairs.l0]; rw [if_pos (by omega), w64 (n := (i : Int) + 1) (by omega)]; have z := inner i (by omega) (C.length - (i + 1)) (i + 1) (unsF (unP A B C) C.length i) (by omega) (by omega) (by omega) k (by omega); exact z.trans (hK k (by omega))
def unsR (A : List S104) (B : List S62) (C : List S39) : List (List Int) × Int := if isShow A B C = true then (unsF (unP A B C) C.length C.length, 0) else ([], 1)
theorem uns_ok (n0 : Nat) {A : List S104} {B : List S62} {C : List S39} (hF : Frame n0 A B C) : Evt (fun k => spec_UnsurePairs.f k A B C = some (unsR A B C)) ∧ Evt (fun k => impl_UnsurePairs.f k A B C = some (unsR A B C)) := by
 cases h : isShow A B C with
 | false =>
  refine ⟨⟨36893488147419103528, fun k hk => ?_⟩, ⟨36893488147419103528, fun k hk => ?_⟩⟩
  ·show spec_UnsurePairs.f k A B C = _
   unfold spec_UnsurePairs.f unsR
   rw [ss_ok hF k (by omega), h]; rfl
  ·show impl_UnsurePairs.f k A B C = _
   unfold impl_UnsurePairs.f unsR
   rw [si_ok hF k (by omega), h]; rfl
 | true =>
  obtain ⟨K1, h1⟩ := spec_uns h C.length 0 (by omega) (by omega); obtain ⟨K2, h2⟩ := impl_uns h C.length 0 (by omega) (by omega); refine ⟨⟨36893488147419103528 + K1, fun k hk => ?_⟩, ⟨36893488147419103528 + K2, fun k hk => ?_⟩⟩
  ·show spec_UnsurePairs.f k A B C = _
   unfold spec_UnsurePairs.f unsR
   rw [ss_ok hF k (by omega), h]; simp only [Option.bind_some, if_true]; exact h1 k (by omega)
  ·show impl_UnsurePairs.f k A B C = _
   unfold impl_UnsurePairs.f unsR
   rw [si_ok hF k (by omega), h]; simp only [Option.bind_some, if_true]; exact h2 k (by omega)
theorem unsR_len {A : List S104} {B : List S62} {C : List S39} : (unsR A B C).1.length ≤ 1000 ∧ ∀ x ∈ (unsR A B C).1, x.length ≤ 3 := by
 unfold unsR
 by_cases h : isShow A B C = true
 ·rw [if_pos h]
  have hC := (isShow_true h).2.2.1; refine ⟨?_, fun x hx => ?_⟩
  ·have := unsF_len (unP A B C) C.length C.length
   have : C.length * C.length ≤ 20 * C.length := Nat.mul_le_mul_right _ hC; show (unsF (unP A B C) C.length C.length).length ≤ 1000
   omega
  ·obtain ⟨a, b, _, _, _, _, e⟩ := (unsF_mem _ _ _ _).1 hx
   rw [e]; show 2 ≤ 3; omega
 ·rw [if_neg h]
  exact ⟨by show 0 ≤ 1000; omega, fun x hx => absurd hx List.not_mem_nil⟩
def meetP (A : List S104) (B : List S62) (c d : S39) (i j : Nat) : Bool := decide (wlo A B c i ≤ whi A B d j ∧ wlo A B d j ≤ whi A B c i)
def meetB (A : List S104) (B : List S62) (c d : S39) : Bool := anyF (fun i => anyF (meetP A B c d i) 0 (wn B d)) 0 (wn B c)
theorem meetB_true {A : List S104} {B : List S62} {c d : S39} : meetB A B c d = true ↔ ∃ i j, i < wn B c ∧ j < wn B d ∧ wlo A B c i ≤ whi A B d j ∧ wlo A B d j ≤ whi A B c i := by
 unfold meetB
 rw [anyF_true]; constructor
 ·rintro ⟨i, _, h1, h2⟩
  rw [anyF_true] at h2; obtain ⟨j, _, h3, h4⟩ := h2
  unfold meetP at h4
  rw [decide_eq_true_iff] at h4; exact ⟨i, j, by omega, by omega, h4⟩
 ·rintro ⟨i, j, h1, h2, h3⟩
  refine ⟨i, by omega, by omega, ?_⟩; rw [anyF_true]; refine ⟨j, by omega, by omega, ?_⟩
  unfold meetP
  rw [decide_eq_true_iff]; exact h3
theorem spec_meet {A : List S104} {B : List S62} {C : List S39} (h : isShow A B C = true) {a b : Nat} (ha : a < C.length) (hb : b < C.length) : ∀ d i, wn B (cu_at C a) - i = d → i ≤ wn B (cu_at C a) → Evt (fun k => spec_MayMeet.l0 k (cueW3 A B (cu_at C a) (a : Int)) (cueW3 A B (cu_at C b) (b : Int)) (i : Int) = some (anyF (fun i => anyF (meetP A B (cu_at C a) (cu_at C b) i) 0 (wn B (cu_at C b))) i d, 0)) := by
 have na2 := (wn_range h ha).2.1; have nb2 := (wn_range h hb).2.1; generalize hnA : wn B (cu_at C a) = nA at na2 ⊢; generalize hnB : wn B (cu_at C b) = nB at nb2 ⊢; intro d
 induction d with
 | zero =>
  intro i hd hi; refine Evt.succ (Evt.of fun k => ?_); show spec_MayMeet.l0 (k + 1) _ _ (i : Int) = _; simp only [spec_MayMeet.l0, cueW3_len, hnA, hnB]; rw [if_neg (by omega)]
  rfl
 | succ d ih =>
  intro i hd hi
  have hi' : i + 1 ≤ nA := by omega
  have hd' : nA - (i + 1) = d := by omega
  obtain ⟨K, hK⟩ := ih (i + 1) hd' hi'; refine ⟨K + nB + 400, fun k hk => ?_⟩; obtain ⟨k, rfl⟩ : ∃ m, k = (m + nB + 1) + 1 := ⟨k - nB - 2, by omega⟩
  have hk' : K ≤ k := by omega
  show spec_MayMeet.l0 (k + nB + 1 + 1) _ _ (i : Int) = _; simp only [spec_MayMeet.l0, cueW3_len, hnA, hnB]; rw [if_pos (by omega)]
  have z := any_loop (f := fun k j => spec_MayMeet.l1 k (cueW3 A B (cu_at C a) (a : Int)) (cueW3 A B (cu_at C b) (b : Int)) (i : Int) (j : Int)) (p := meetP A B (cu_at C a) (cu_at C b) i) (y := some (true, 0)) (e := fun k => spec_MayMeet.l0 k (cueW3 A B (cu_at C a) (a : Int)) (cueW3 A B (cu_at C b) (b : Int)) ((i + 1 : Nat) : Int)) (nB) 0 (fun k j _ hj => by
    show spec_MayMeet.l1 (k + 1) _ _ (i : Int) (j : Int) = _; simp only [spec_MayMeet.l1, cueW3_len, hnA, hnB]; rw [if_pos (by omega), if_pos (by omega), if_pos (by omega), rdL_cue3 _ _ _ _ (show i < wn B (cu_at C a) by rw [hnA]; omega), rdL_cue3 _ _ _ _ (show j < wn B (cu_at C b) by rw [hnB]; exact hj), w64 (n := (j : Int) + 1) (by omega), rd_0, rd_0, rd_1, rd_1]; rw [if_pos (by show (0 : Int) < ((3 : Nat) : Int); decide), if_pos (by omega), if_pos (by show (1 : Int) < ((3 : Nat) : Int); decide)]
    unfold meetP
    by_cases c1 : wlo A B (cu_at C a) i ≤ whi A B (cu_at C b) j
    ·rw [if_pos c1, if_pos (by show (0 : Int) < ((3 : Nat) : Int); decide), if_pos (by show (1 : Int) < ((3 : Nat) : Int); decide)]
     by_cases c2 : wlo A B (cu_at C b) j ≤ whi A B (cu_at C a) i
     ·rw [if_pos c2, if_pos (decide_eq_true ⟨c1, c2⟩)]
     ·rw [if_neg c2, if_neg (by rw [decide_eq_true_iff]; exact fun x => c2 x.2)]; rfl
    ·rw [if_neg c1, if_neg (by rw [decide_eq_true_iff]; exact fun x => c1 x.1)]; rfl) (fun k => by
    show spec_MayMeet.l1 (k + 1) _ _ (i : Int) ((nB : Nat) : Int) = _; simp only [spec_MayMeet.l1, cueW3_len, hnA, hnB]; rw [if_neg (by omega), w64 (n := (i : Int) + 1) (by omega)]
    rfl) (nB) k 0 (by omega) (by omega) (by omega)
  refine Eq.trans z ?_; show _ = some (anyF (fun i => anyF (meetP A B (cu_at C a) (cu_at C b) i) 0 (nB)) i (d + 1), 0); rw [anyF_succ (fun i => anyF (meetP A B (cu_at C a) (cu_at C b) i) 0 (nB)) i d]
  by_cases c : anyF (meetP A B (cu_at C a) (cu_at C b) i) 0 (nB) = true
  ·rw [if_pos c, c, Bool.true_or]
  ·rw [if_neg c, Bool.eq_false_iff.mpr c, Bool.false_or]
   exact hK k hk'
theorem impl_meet {A : List S104} {B : List S62} {C : List S39} (h : isShow A B C = true) {a b : Nat} (ha : a < C.length) (hb : b < C.length) : ∀ d i, wn B (cu_at C a) - i = d → i ≤ wn B (cu_at C a) → Evt (fun k => impl_MayMeet.l0 k (b : Int) (cueW2 A B (cu_at C a)) ((wn B (cu_at C a) : Nat) : Int) (i : Int) A B C = some (anyF (fun i => anyF (meetP A B (cu_at C a) (cu_at C b) i) 0 (wn B (cu_at C b))) i d, 0)) := by
 have na2 := (wn_range h ha).2.1; have nb2 := (wn_range h hb).2.1; generalize hnA : wn B (cu_at C a) = nA at na2 ⊢; generalize hnB : wn B (cu_at C b) = nB at nb2 ⊢; intro d
 induction d with
 | zero =>
  intro i hd hi; refine Evt.succ (Evt.of fun k => ?_); show impl_MayMeet.l0 (k + 1) _ _ _ (i : Int) _ _ _ = _; simp only [impl_MayMeet.l0, cueW2_len, hnA, hnB]; rw [if_neg (by omega)]
  rfl
 | succ d ih =>
  intro i hd hi
  have hi' : i + 1 ≤ nA := by omega
  have hd' : nA - (i + 1) = d := by omega
  obtain ⟨K, hK⟩ := ih (i + 1) hd' hi'; refine ⟨K + nB + 400, fun k hk => ?_⟩; obtain ⟨k, rfl⟩ : ∃ m, k = (m + nB + 1) + 1 := ⟨k - nB - 2, by omega⟩
  have hk' : K ≤ k := by omega
  show impl_MayMeet.l0 (k + nB + 1 + 1) _ _ _ (i : Int) _ _ _ = _; simp only [impl_MayMeet.l0, cueW2_len, hnA, hnB]; rw [if_pos (by omega), if_pos (by omega), if_pos (by omega), if_pos (by omega), if_pos (by omega), rd_cue, impl_cue h hb _ (by omega)]; simp only [Option.bind_some]; rw [cueW2_len, hnB, rdL_cue2 _ _ _ (show i < wn B (cu_at C a) by rw [hnA]; omega)]
  have z := any_loop (f := fun k j => impl_MayMeet.l1 k (b : Int) [wlo A B (cu_at C a) i, whi A B (cu_at C a) i] (cueW2 A B (cu_at C a)) ((nA : Nat) : Int) (i : Int) (cueW2 A B (cu_at C b)) ((nB : Nat) : Int) (j : Int) A B C) (p := meetP A B (cu_at C a) (cu_at C b) i) (y := some (true, 0)) (e := fun k => impl_MayMeet.l0 k (b : Int) (cueW2 A B (cu_at C a)) ((nA : Nat) : Int) ((i + 1 : Nat) : Int) A B C) (nB) 0 (fun k j _ hj => by
    show impl_MayMeet.l1 (k + 1) _ _ _ _ (i : Int) _ _ (j : Int) _ _ _ = _; simp only [impl_MayMeet.l1, cueW2_len, hnA, hnB]; rw [if_pos (by omega), if_pos (by omega), if_pos (by omega), rdL_cue2 _ _ _ (show j < wn B (cu_at C b) by rw [hnB]; exact hj), w64 (n := (j : Int) + 1) (by omega), rd_0, rd_0, rd_1, rd_1]; rw [if_pos (by show (0 : Int) < ((2 : Nat) : Int); decide), if_pos (by show (1 : Int) < ((2 : Nat) : Int); decide)]
    unfold meetP
    by_cases c1 : wlo A B (cu_at C a) i ≤ whi A B (cu_at C b) j
    ·rw [if_pos c1, if_pos (by show (0 : Int) < ((2 : Nat) : Int); decide), if_pos (by show (1 : Int) < ((2 : Nat) : Int); decide)]
     by_cases c2 : wlo A B (cu_at C b) j ≤ whi A B (cu_at C a) i
     ·rw [if_pos c2, if_pos (decide_eq_true ⟨c1, c2⟩)]
     ·rw [if_neg c2, if_neg (by rw [decide_eq_true_iff]; exact fun x => c2 x.2)]; rfl
    ·rw [if_neg c1, if_neg (by rw [decide_eq_true_iff]; exact fun x => c1 x.1)]; rfl) (fun k => by
    show impl_MayMeet.l1 (k + 1) _ _ _ _ (i : Int) _ _ ((nB : Nat) : Int) _ _ _ = _; simp only [impl_MayMeet.l1, cueW2_len, hnA, hnB]; rw [if_neg (by omega), w64 (n := (i : Int) + 1) (by omega)]
    rfl) (nB) k 0 (by omega) (by omega) (by omega)
  refine Eq.trans z ?_; show _ = some (anyF (fun i => anyF (meetP A B (cu_at C a) (cu_at C b) i) 0 (nB)) i (d + 1), 0); rw [anyF_succ (fun i => anyF (meetP A B (cu_at C a) (cu_at C b) i) 0 (nB)) i d]
  by_cases c : anyF (meetP A B (cu_at C a) (cu_at C b) i) 0 (nB) = true
  ·rw [if_pos c, c, Bool.true_or]
  ·rw [if_neg c, Bool.eq_false_iff.mpr c, Bool.false_or]
   exact hK k hk'
def meetR (A : List S104) (B : List S62) (C : List S39) (a b : Int) : Bool × Int := if twoR A B C a b = 0 then (meetB A B (cu_at C a.toNat) (cu_at C b.toNat), 0) else (false, twoR A B C a b)
theorem meet_ok (n0 : Nat) {A : List S104} {B : List S62} {C : List S39} (hF : Frame n0 A B C) (a b : Int) : Evt (fun k => spec_MayMeet.f k A B C a b = some (meetR A B C a b)) ∧ Evt (fun k => impl_MayMeet.f k A B C a b = some (meetR A B C a b)) := by
 by_cases c : twoR A B C a b = 0
 ·obtain ⟨h, p, q, rfl, rfl, hp, hq⟩ := two_zero c
  have np := wn_range h hp; obtain ⟨K1, e1⟩ := spec_meet h hp hq (wn B (cu_at C p)) 0 (by omega) (by omega); obtain ⟨K2, e2⟩ := impl_meet h hp hq (wn B (cu_at C p)) 0 (by omega) (by omega); refine ⟨⟨36893488147419114000 + K1, fun k hk => ?_⟩, ⟨36893488147419114000 + K2, fun k hk => ?_⟩⟩
  ·show spec_MayMeet.f k A B C _ _ = _
   unfold spec_MayMeet.f meetR
   rw [(two_ok n0 hF _ _ k (by omega)).1]; simp only [Option.bind_some]; rw [if_pos c, if_pos c, spec_cue h hp k (by omega), spec_cue h hq k (by omega)]; exact e1 k (by omega)
  ·show impl_MayMeet.f k A B C _ _ = _
   unfold impl_MayMeet.f meetR
   rw [(two_ok n0 hF _ _ k (by omega)).2]; simp only [Option.bind_some]; rw [if_pos c, if_pos c, if_pos (by omega), if_pos (by omega), rd_cue, impl_cue h hp k (by omega)]; simp only [Option.bind_some]; rw [cueW2_len]; exact e2 k (by omega)
 ·refine ⟨⟨36893488147419114000, fun k hk => ?_⟩, ⟨36893488147419114000, fun k hk => ?_⟩⟩
  ·show spec_MayMeet.f k A B C _ _ = _
   unfold spec_MayMeet.f meetR
   rw [(two_ok n0 hF _ _ k (by omega)).1]; simp only [Option.bind_some]; rw [if_neg c, if_neg c]
  ·show impl_MayMeet.f k A B C _ _ = _
   unfold impl_MayMeet.f meetR
   rw [(two_ok n0 hF _ _ k (by omega)).2]; simp only [Option.bind_some]; rw [if_neg c, if_neg c]
theorem w_mono {A : List S104} {B : List S62} {C : List S39} (h : isShow A B C = true) {i : Nat} (hi : i < C.length) {j l : Nat} (hj : j ≤ l) : wlo A B (cu_at C i) j ≤ wlo A B (cu_at C i) l ∧ whi A B (cu_at C i) j ≤ whi A B (cu_at C i) l := by
 obtain ⟨h1, h2, h3, h4, h5, h6⟩ := cu_ok h hi; have ha := art_true h6; have := Int.mul_le_mul_of_nonneg_right (show (j : Int) ≤ (l : Int) by omega) (show 0 ≤ (arOf B (cu_at C i)).f6 by omega)
 unfold wlo whi
 omega
theorem bef_not {A : List S104} {B : List S62} {C : List S39} (h : isShow A B C = true) {a b : Nat} (ha : a < C.length) (hb : b < C.length) (hs : befB A B (cu_at C a) (cu_at C b) = true) : befB A B (cu_at C b) (cu_at C a) = false ∧ meetB A B (cu_at C a) (cu_at C b) = false := by
 have na := wn_range h ha; have nb := wn_range h hb
 unfold befB at hs
 rw [decide_eq_true_iff] at hs; have a0 := w_range h ha (j := 0) (by omega); have a1 := w_mono h ha (j := 0) (l := wn B (cu_at C a) - 1) (by omega); have b0 := w_range h hb (j := 0) (by omega); have b1 := w_mono h hb (j := 0) (l := wn B (cu_at C b) - 1) (by omega); refine ⟨?_, ?_⟩
 ·unfold befB
  exact decide_eq_false (by omega)
 ·rw [Bool.eq_false_iff]
  intro hm; obtain ⟨i, j, hi, hj, h1, h2⟩ := meetB_true.1 hm; have a2 := w_mono h ha (j := i) (l := wn B (cu_at C a) - 1) (by omega); have b2 := w_mono h hb (j := 0) (l := j) (by omega)
  omega
theorem meetB_sym {A : List S104} {B : List S62} (c d : S39) : meetB A B c d = meetB A B d c := by
 rw [Bool.eq_iff_iff, meetB_true, meetB_true]; exact ⟨fun ⟨i, j, hi, hj, h1, h2⟩ => ⟨j, i, hj, hi, h2, h1⟩, fun ⟨i, j, hi, hj, h1, h2⟩ => ⟨j, i, hj, hi, h2, h1⟩⟩
theorem unP_sym {A : List S104} {B : List S62} {C : List S39} (a b : Nat) : unP A B C a b = unP A B C b a := by
 unfold unP
 rw [Bool.and_comm]
theorem uns_has {A : List S104} {B : List S62} {C : List S39} {a b : Nat} (ha : a < C.length) (hb : b < C.length) (hne : a ≠ b) : decide ([mn (a : Int) (b : Int), mx (a : Int) (b : Int)] ∈ unsF (unP A B C) C.length C.length) = unP A B C a b := by
 rw [Bool.eq_iff_iff, decide_eq_true_iff, unsF_mem]
 rcases Nat.lt_or_gt_of_ne hne with g | g
 ·rw [show mn (a : Int) (b : Int) = (a : Int) by unfold mn; omega, show mx (a : Int) (b : Int) = (b : Int) by unfold mx; omega]
  constructor
  ·rintro ⟨p, q, h1, h2, h3, h4, h5⟩
   injection h5 with e1 e2; injection e2 with e2 _; rw [show a = p by omega, show b = q by omega]; exact h4
  ·exact fun h => ⟨a, b, ha, g, hb, h, rfl⟩
 ·rw [show mn (a : Int) (b : Int) = (b : Int) by unfold mn; omega, show mx (a : Int) (b : Int) = (a : Int) by unfold mx; omega]
  constructor
  ·rintro ⟨p, q, h1, h2, h3, h4, h5⟩
   injection h5 with e1 e2; injection e2 with e2 _; rw [show b = p by omega, show a = q by omega, unP_sym] ; exact h4
  ·exact fun h => ⟨b, a, hb, g, ha, by rw [unP_sym]; exact h, rfl⟩
theorem surely_draw {c : List Int} (hc : Code c) : ∃ A B C a b, (∀ k, 36893488147419104010 ≤ k → spec_DrawSurelyBefore.f k c = some (A, B, C, a, b)) ∧ A.length ≤ 60 ∧ B.length ≤ 60 ∧ SmallArts B ∧ C.length ≤ 60 := by
 obtain ⟨z, e0, h0⟩ := from_ok hc; obtain ⟨A, B, C, a1, s1, e1, h1, hA, hB, hS, hC⟩ := show_draw hc h0; obtain ⟨r2, a2, s2, e2, h2, h20, h21⟩ := next_ok hc h1 12 (by decide)
 have ht : ∀ _ : Unit, 0 ≤ Int.tdiv r2 11 ∧ Int.tdiv r2 11 ≤ 12 := fun _ => by
  rw [Int.tdiv_eq_ediv_of_nonneg h20]; omega
 obtain ⟨v, hv, hv2⟩ : ∃ v, wrap64 ((C.length : Int) + (wrap64 (Int.tdiv r2 11))) = v ∧ v ≤ 4611686018427387904 := ⟨_, rfl, by
  have := ht (); rw [w64 (n := Int.tdiv r2 11) (by omega), w64 (by omega)]; omega⟩
 obtain ⟨r3, a3, s3, e3, h3, _⟩ := next_ok hc h2 v hv2; obtain ⟨r4, a4, s4, e4, h4, _⟩ := next_ok hc h3 v hv2; refine ⟨A, B, C, r3, r4, fun k hk => ?_, hA, hB, hS, hC⟩
 unfold spec_DrawSurelyBefore.f
 rw [e0 k (by omega), Option.bind_some]; dsimp only; rw [e1 k (by omega), Option.bind_some]; dsimp only; rw [e2, Option.bind_some]; dsimp only; rw [hv, e3, Option.bind_some]; dsimp only; rw [e4, Option.bind_some]
theorem pure_FnCueOrders : laws_FnCueOrders.Pure := by
 intro c _ _ hb
 by_cases big : (c.length : Int) > 4096
 ·refine ⟨0, ?_⟩
  unfold laws_FnCueOrders.f laws_big.f
  simp only [Option.bind_some, decide_eq_true big, if_true]
 have hc : Code c := code_of big hb; obtain ⟨A, B, C, a, b, d1, hA, hB, hS, hC⟩ := surely_draw hc; have hF : Frame 100 A B C := ⟨by omega, by omega, by omega, by decide, hS⟩; obtain ⟨⟨k1, f1⟩, ⟨k2, f2⟩⟩ := meet_ok 100 hF a b; obtain ⟨⟨k3, f3⟩, ⟨k4, f4⟩⟩ := uns_ok 100 hF; obtain ⟨⟨k5, f5⟩, ⟨k6, f6⟩⟩ := meet_ok 100 hF b a; obtain ⟨K, hK⟩ : ∃ K, K = k1 + k2 + k3 + k4 + k6 + 36893488147419104010 + 1000000 := ⟨_, rfl⟩; refine ⟨K + 1, ?_⟩; have hu := unsR_len (A := A) (B := B) (C := C)
 unfold laws_FnCueOrders.f laws_big.f
 rw [Option.bind_some, decide_eq_false big, if_neg (by decide), d1 _ (by omega), Option.bind_some]; dsimp only; rw [(sur_ok 100 hF a b (K + 1) (by omega)).2, Option.bind_some, (sur_ok 100 hF a b (K + 1) (by omega)).1, Option.bind_some, f2 _ (by omega), Option.bind_some, f1 _ (by omega), Option.bind_some, f4 _ (by omega), Option.bind_some, f3 _ (by omega), Option.bind_some, if_pos rfl, if_neg (by simp), if_pos rfl, if_neg (by simp), if_pos rfl, like_rows_s _ (by omega) (fun x hx => Nat.le_trans (hu.2 x hx) (by decide)) (K + 1) (by omega), Option.bind_some, if_pos rfl]; clear f1 f3 f5 d1; simp only [laws_FnCueOrders.j0]
 have hone : ((meetR A B C a b).2 != (surR A B C a b).2) = false := by
  unfold meetR surR; split <;> simp
 rw [hone, if_neg (by decide)]
 by_cases g : (surR A B C a b).2 = 0
 ·rw [if_pos g]
  have g0 : twoR A B C a b = 0 := by
   unfold surR at g
   by_cases x : twoR A B C a b = 0
   ·exact x
   ·rw [if_neg x] at g; exact g
  obtain ⟨h, p, q, rfl, rfl, hp, hq⟩ := two_zero g0; have g1 := two_of h hq hp
  have s1 : surR A B C (p : Int) (q : Int) = (befB A B (cu_at C p) (cu_at C q), 0) := by unfold surR; rw [if_pos g0, Int.toNat_natCast, Int.toNat_natCast]
  have s2 : surR A B C (q : Int) (p : Int) = (befB A B (cu_at C q) (cu_at C p), 0) := by unfold surR; rw [if_pos g1, Int.toNat_natCast, Int.toNat_natCast]
  have m1 : meetR A B C (p : Int) (q : Int) = (meetB A B (cu_at C p) (cu_at C q), 0) := by unfold meetR; rw [if_pos g0, Int.toNat_natCast, Int.toNat_natCast]
  have m2 : meetR A B C (q : Int) (p : Int) = (meetB A B (cu_at C p) (cu_at C q), 0) := by unfold meetR; rw [if_pos g1, Int.toNat_natCast, Int.toNat_natCast, meetB_sym]
  have u1 : (unsR A B C).1 = unsF (unP A B C) C.length C.length := by unfold unsR; rw [if_pos h]
  rw [(sur_ok 100 hF (q : Int) (p : Int) K (by omega)).2, Option.bind_some, f6 _ (by omega), Option.bind_some, s1, s2, m1, m2]
  dsimp only
  rw [if_pos rfl]
  have hmm : (meetB A B (cu_at C p) (cu_at C q) != meetB A B (cu_at C p) (cu_at C q)) = false := by simp
  have hrow : ∀ (hne : ¬ (p : Int) = (q : Int)), laws_hasRow.f K (unsR A B C).1 (mn (p : Int) (q : Int)) (mx (p : Int) (q : Int)) = some (unP A B C p q) := fun hne => by
   rw [has_row_s _ (by omega) _ _ K (by omega), u1, uns_has hp hq (by omega)]
  cases hs : befB A B (cu_at C p) (cu_at C q) with
  | true =>
   have hn := bef_not h hp hq hs; rw [if_pos rfl, hn.1, if_neg (by decide), if_pos rfl, hmm, if_neg (by decide), hn.2, if_neg (by decide)]
   by_cases hne : (p : Int) = (q : Int)
   ·rw [if_pos hne]
   ·rw [if_neg hne, hrow hne, Option.bind_some]
    unfold unP
    rw [hs]; rfl
  | false =>
   rw [if_neg (by decide), if_pos rfl, hmm, if_neg (by decide)]
   by_cases hne : (p : Int) = (q : Int)
   ·rw [if_pos hne]
   ·rw [if_neg hne, hrow hne, Option.bind_some]
    unfold unP
    rw [hs]
    cases befB A B (cu_at C q) (cu_at C p) <;> rfl
 ·rw [if_neg g]
end Go.Proofs.Ythhijbdekboahaa.F
namespace Go.Proofs.Ythhijbdekboahaa.Pure
theorem FnCueOrders : Go.Proofs.Ythhijbdekboahaa.F.laws_FnCueOrders.Pure := Go.Proofs.Ythhijbdekboahaa.F.pure_FnCueOrders
end Go.Proofs.Ythhijbdekboahaa.Pure
namespace Go.Proofs.Ythhijbdekboahaa.F
end Go.Proofs.Ythhijbdekboahaa.F
