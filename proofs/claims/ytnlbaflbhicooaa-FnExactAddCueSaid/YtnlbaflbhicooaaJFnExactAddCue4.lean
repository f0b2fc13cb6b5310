import Derived.Test.YtnlbaflbhicooaaJFnExactAddCue3
import Derived.Below
import Derived.Deep.Draws
import Derived.Deep.AppendLies
import Derived.Maps.AppendAt
import Derived.OwnWalk
import Derived.Laws.BytesArg
import Derived.Laws.MakeOwn
import Derived.Laws.OwnMore
import Derived.Tactics
import Derived.Lib.ConvBytes
import Derived.Laws.Slices
import Derived.WalkKit
import Derived.KernelRfl
import Derived.RowKit3
import Derived.Deep.LoopGhost
import Derived.Deep.QuietTactic
import Derived.BigQuiet
import Derived.WideLaws
import Derived.Deep.DeepCutAuto
import Derived.Deep.CutBlock
import Derived.Deep.RegionHeld3
import Derived.Lib.AppendStr
import Derived.ArgAppend
import Derived.Laws.IdiomCopy
import Derived.RowKit
import Derived.OrdersHeld
import Derived.Laws.BitsLemmas
import Derived.Laws.StructEq
import Derived.Test.YtnlbaflbhicooaaProg
import Derived.ChangeSlices
import Derived.OpenShut
import Derived.Laws.Cover1
namespace Go.Proofs.Ytnlbaflbhicooaa.F
open Go.RowKit Go.Proofs.YtnlbaflbhicooaaW.PrintWords Go.Proofs.YtnlbaflbhicooaaW.PrintLast Go.Proofs.YtnlbaflbhicooaaW.PrintMore
set_option linter.unusedVariables false
set_option linter.unusedSimpArgs false
attribute [local go_sem] max2_int min2_int max_two min_two max_three min_three max_four min_four
mutual
def full_toCueS.j0 : Nat → List (S40) → Bool → Option ((List (S43)))
 | 0, _, _ => none
 | k + 1, x0, x13 => if x13 = true then (some ([] : List (S43))) else ((laws_roomBehind.f (x0.length : Int)).bind fun t256 => (if 0 ≤ (wrap64 ((x0.length : Int) + t256)) then (if (wrap64 ((x0.length : Int) + t256) : Int).toNat ≤ 7036874417766 then (full_toCueS.l0 k x0 (List.replicate (wrap64 ((x0.length : Int) + t256) : Int).toNat z43) 0) else (none)) else (none)))
def full_toCueS.l0 : Nat → List (S40) → List (S43) → Int → Option ((List (S43)))
 | 0, _, _, _ => none
 | k + 1, x0, x5, x6 => if x6 < (x0.length : Int) then (if 0 ≤ x6 then ((laws_toCue.f ((rd_T40 x0 x6).f0) ((rd_T40 x0 x6).f1) ((rd_T40 x0 x6).f2) ((rd_T40 x0 x6).f3)).bind fun bt261 => (if x6 < (x5.length : Int) then (full_toCueS.l0 k x0 (x5.set (x6 : Int).toNat (⟨bt261.1, bt261.2.1, bt261.2.2.1, bt261.2.2.2⟩ : S43)) (wrap64 (x6 + 1))) else (none))) else (none)) else (full_toCueS.l1 k x0 x5 (x0.length : Int))
def full_toCueS.l1 : Nat → List (S40) → List (S43) → Int → Option ((List (S43)))
 | 0, _, _, _ => none
 | k + 1, x0, x5, x7 => if x7 < (x5.length : Int) then ((laws_fillerCue.f).bind fun bt266 => (if 0 ≤ x7 then (full_toCueS.l1 k x0 (x5.set (x7 : Int).toNat (⟨bt266.1, bt266.2.1, bt266.2.2.1, bt266.2.2.2⟩ : S43)) (wrap64 (x7 + 1))) else (none))) else (if 0 ≤ (x0.length : Int) then (if (x0.length : Int) ≤ (x5.length : Int) then (some x5) else (none)) else (none))
end
def full_toCueS.f (k : Nat) (l0 : List (S40)) (a1 : Bool) : Option ((List (S43))) := if a1 = true then (full_toCueS.j0 k l0 ((l0.length : Int) == 0)) else (full_toCueS.j0 k l0 false)
set_option maxHeartbeats 8000000 in
set_option maxRecDepth 100000 in
theorem full_toCueS.calls (k : Nat) (A0 : Option Addr) (c0 : Nat) (l0 : List (S40)) (a1 : Bool) (r : List (S43)) (w : World) (hr0 : Kd.C k40 w A0 l0.length l0) (hc0 : l0.length ≤ c0) (h : full_toCueS.f k l0 a1 = some r) :
  Calls Try.prog 72 #[.slice A0 l0.length c0, .bool a1] w fun e w' => ∃ v0_ : Value, e = .returned (v0_) ∧ Full k43 43 w' w.heap.size l0.length v0_ r ∧ Below w.heap.size w w' := by
 have hu40 := Try.underlying40; have hu43 := Try.underlying43; have HR0 := am_ hr0; have HC0 := am_ hc0; clear hr0 hc0; have HB := am_ (Below.refl w.heap.size w); have H : (if a1 = true then (full_toCueS.j0 k l0 ((l0.length : Int) == 0)) else (full_toCueS.j0 k l0 false)) = some r := h; clear h; have HC3 := am_ H; clear H
 go_enter Try.func72, Try.ntmps72
 go_upto_region 1 with (fail)
 go_cut [13] (fun v13 wc => ∃ (kq : Nat) (x13_2 : Bool), v13 = .bool x13_2 ∧ Aside0 (full_toCueS.j0 kq l0 x13_2 = some r) ∧ Aside0 (kq ≤ k) ∧ Aside0 (Below w.heap.size w wc))
 case first =>
  have H := HC3.out; clear HC3
  by_cases c4 : a1 = true
  ·subst c4
   have H1 : (full_toCueS.j0 k l0 ((l0.length : Int) == 0)) = some r := by rw [if_pos rfl] at H; exact H
   clear H; have H := H1; clear H1; have H' := am_ H; clear H
   go_wp2
   go_meet
   case rel => exact ⟨_, (((l0.length : Int) == 0)), Za, H', ⟨Zm⟩, ⟨Zd⟩⟩
  ·replace c4 := Bool.eq_false_iff.mpr c4
   subst c4
   have H1 : (full_toCueS.j0 k l0 false) = some r := by rw [if_neg (show ¬ (false = true) by decide)] at H; exact H
   clear H; have H := H1; clear H1; have H' := am_ H; clear H
   go_wp2
   go_meet
   case rel => exact ⟨_, (false), Za, H', ⟨Zm⟩, ⟨Zd⟩⟩
 case rest =>
  clear HC3
  try clear p2
  try clear c4
  obtain ⟨kq, x13_2, rfl, HA, HJ2, HB⟩ := hcut
  cases kq with
  | zero => exact absurd HA.out (by simp [full_toCueS.j0])
  | succ kj2 =>
   have H := HA.out; clear HA; simp only [full_toCueS.j0] at H
   by_cases c5 : x13_2 = true
   ·subst c5
    have H1 : (some ([] : List (S43))) = some r := by rw [if_pos rfl] at H; exact H
    clear H; have H := H1; clear H1; obtain rfl := Option.some.inj H
    go_wp2
    go_ret
    exact ⟨_, Zk, fun h_ => absurd rfl h_, Zd⟩
   ·replace c5 := Bool.eq_false_iff.mpr c5
    subst c5
    have H1 : ((laws_roomBehind.f (l0.length : Int)).bind fun t256 => (if 0 ≤ (wrap64 ((l0.length : Int) + t256)) then (if (wrap64 ((l0.length : Int) + t256) : Int).toNat ≤ 7036874417766 then (full_toCueS.l0 kj2 l0 (List.replicate (wrap64 ((l0.length : Int) + t256) : Int).toNat z43) 0) else (none)) else (none))) = some r := by rw [if_neg (show ¬ (false = true) by decide)] at H; exact H
    clear H; have H := H1; clear H1; replace H := Option.bind_eq_some_iff.mp H; obtain ⟨t256, A60, H⟩ := H; have A6 := am_ A60; clear A60; obtain ⟨ji7, hji7⟩ : ∃ j_ : Int, (wrap64 ((l0.length : Int) + t256)) = j_ := ⟨_, rfl⟩
    replace H : (if 0 ≤ (ji7) then (if (ji7 : Int).toNat ≤ 7036874417766 then (full_toCueS.l0 kj2 l0 (List.replicate (ji7 : Int).toNat z43) 0) else (none)) else (none)) = some r := by first | (rw [hji7] at H; exact H) | (simp only [hji7] at H ⊢; exact H)
    (try rw [hji7] at A6)
    have hji7w : (IntKind.i64.wrap ((l0.length : Int) + t256)) = ji7 := (i64_w _).trans hji7
    by_cases c8 : 0 ≤ (ji7)
    ·rw [if_pos c8] at H
     have c8b0 := eq_true c8; have c8b1 := decide_eq_true c8; clear c8
     by_cases c9 : (ji7 : Int).toNat ≤ 7036874417766
     ·rw [if_pos c9] at H
      have c9b0 := eq_true c9; have c9b1 := decide_eq_true c9; clear c9; obtain ⟨y257, hy257⟩ : ∃ y_ : List (S43), y_ = (List.replicate (ji7 : Int).toNat z43) := ⟨_, rfl⟩
      (first | (rw [← hy257] at H; with_reducible replace H := bindZ H) | rw [← hy257] at H)
      have Ny257 := am_ hy257; clear hy257; have H' := am_ H; clear H
      go_wp2_with (first | ((with_reducible refine gate_callee (f := 117) rfl ?_); refine goesL_ (some 18) rfl rfl Try.func117 Zj rfl #[.int .i64 (l0.length : Int)] rfl Zo ?_; (with_reducible refine (laws_roomBehind.calls (l0.length : Int) t256 _ A6.out).mono ?_); rintro e w' ⟨rfl, ⟨nd, rfl⟩⟩; refine ⟨_, rfl, ?_⟩) | ((with_reducible refine gate_dst (N := 20) rfl ?_); (try (refine gate_guard (by rfl) ?_; dsimp only)); refine Kd.R_make k43 _ 43 rfl (N := 20) rfl 30 _ _ rfl ji7 rfl rfl Try.underlying30 (.agg #[(.int .i64 0), (.int .i64 0), (.string ⟨#[]⟩), (.int .i64 0)]) 40 info43 rfl (by decide) (by omega) z43 (ok := fun _ => True) (okp := fun _ => True) (k43_mkM _ _ _ z43 ) (fun _ hk => hk) trivial (of_decide_eq_true Zp) (Nat.le_trans (Nat.mul_le_mul_right _ (of_decide_eq_true Zp : ji7.toNat ≤ 7036874417766)) (by omega)) (Below.refl _ _) (Nat.le_refl _) ?_; intro v258 w10 ho11 hb hg_ hnew_; clear hg_ hnew_; (first | rw [← Ny257.out] at ho11 | (simp only [Int.reduceToNat] at ho11; rw [← Ny257.out] at ho11)); replace HO259 := am_ (Kd.R_lower ho11 (below_size Zd)); replace HB := (bsZ Zd hb); clear hb ho11))
      go_loopg [6] kj2 (fun kq v6 w' => ∃ (x5_2 : List (S43)) (x6_2 : Int), v6 = .int .i64 x6_2 ∧ Aside0 (full_toCueS.l0 kq l0 x5_2 x6_2 = some r) ∧ Aside0 (kq ≤ kj2) ∧ Aside0 (Kd.R k43 43 w' w.heap.size (fun _ => True) v258 x5_2) ∧ Aside0 (Below w.heap.size w w'))
      case atStart => exact ⟨(y257), (0), Za, H', ⟨Nat.le_refl _⟩, ⟨(have z0_ := HO259; Zq)⟩, ⟨Zd⟩⟩
      case round =>
       clear H'
       try clear c1
       try clear p2
       try clear c4
       try clear c5
       try clear p6
       try clear c7
       try clear c8
       try clear c8b0
       try clear c8b1
       try clear c9
       try clear c9b0
       try clear c9b1
       try clear c11
       try clear p2
       obtain ⟨x5_2, x6_2, rfl, HA, HK2, HO_5, HB⟩ := hrel
       cases gk with
       | zero => exact absurd HA.out (by simp [full_toCueS.l0])
       | succ k2 =>
        have H := HA.out; clear HA; simp only [full_toCueS.l0] at H
        by_cases c12 : x6_2 < (l0.length : Int)
        ·rw [if_pos c12] at H
         have c12b0 := decide_eq_true c12; clear c12
         by_cases c13 : 0 ≤ x6_2
         ·rw [if_pos c13] at H
          have c13b0 := decide_eq_true c13; clear c13; replace H := Option.bind_eq_some_iff.mp H; obtain ⟨⟨t261, t262, t263, t264⟩, A140, H⟩ := H; replace H : (if x6_2 < (x5_2.length : Int) then (full_toCueS.l0 k2 l0 (x5_2.set (x6_2 : Int).toNat (⟨t261, t262, t263, t264⟩ : S43)) (wrap64 (x6_2 + 1))) else (none)) = some r := H; have A14 := am_ A140; clear A140
          by_cases c15 : x6_2 < (x5_2.length : Int)
          ·rw [if_pos c15] at H
           have c15b0 := decide_eq_true c15; clear c15; obtain ⟨y265, hy265⟩ : ∃ y_ : List (S43), y_ = (x5_2.set (x6_2 : Int).toNat (⟨t261, t262, t263, t264⟩ : S43)) := ⟨_, rfl⟩
           (first | (rw [← hy265] at H; with_reducible replace H := bindZ H) | rw [← hy265] at H)
           have Ny265 := am_ hy265; clear hy265; have H' := am_ H; clear H; have p260 : 0 ≤ (x6_2 : Int) := of_decide_eq_true Zp; have q260 : x6_2 < (l0.length : Int) := of_decide_eq_true Zp; obtain ⟨ad260, e260, hx260_0, hx260_1, hx260_2, hx260_3⟩ := at_T40 HR0.out x6_2 p260 q260
           cases e260
           replace hx260_0 := cbH HB hx260_0; replace hx260_1 := cbH HB hx260_1; replace hx260_2 := cbH HB hx260_2; replace hx260_3 := cbH HB hx260_3; replace p260 := eq_true p260; replace q260 := eq_true q260
           go_wp2_with (first | ((with_reducible refine gate_callee (f := 29) rfl ?_); refine goesL_ (some 33) rfl rfl Try.func29 Zj rfl #[.agg #[.int .i64 ((rd_T40 l0 x6_2).f0), .int .i64 ((rd_T40 l0 x6_2).f1), .string ((rd_T40 l0 x6_2).f2), .int .i64 ((rd_T40 l0 x6_2).f3)]] rfl Zo ?_; (with_reducible refine (laws_toCue.calls ((rd_T40 l0 x6_2).f0) ((rd_T40 l0 x6_2).f1) ((rd_T40 l0 x6_2).f2) ((rd_T40 l0 x6_2).f3) t261 t262 t263 t264 _ A14.out).mono ?_); rintro e w17 ⟨rfl, hb⟩; refine ⟨_, rfl, ?_⟩; replace HO_5 := am_ (Kd.R_below (have z0_ := HO_5; Zq) hb); replace HB := (bsZ Zd hb); (try clear hb); (try clear hb2); (try clear hk); (try clear hi); have p16 : 0 ≤ (x6_2 : Int) := of_decide_eq_true Zp; have q16 : (x6_2 : Int) < ((x5_2.length : Int) : Int) := of_decide_eq_true Zp; obtain ⟨go16, co16, eo16, gb16, gl16, cl16, HG16⟩ := Kd.R_form HO_5.out (by omega); (first | cases eo16 | (injection eo16 with ea_ en_ ec_; (first | subst ea_ | (injection ea_ with ea_; subst ea_)); subst ec_; clear en_)); have GB16 := am_ gb16; have GG16 := am_ HG16; clear gb16 gl16 HG16; obtain ⟨ce16, hcl16, hM16, hcc16, hfr16⟩ := Kd.R_elem HO_5.out z43 (x6_2 : Int) p16 q16; obtain rfl := k43_openM hM16; have hx16_0 : w17.cell? ⟨go16, (x6_2 : Int).toNat * 4, none⟩ = some (.int .i64 ((rd_T43 x5_2 x6_2).f0)) := hcc16 0 _ rfl; have hx16_1 : w17.cell? ⟨go16, (x6_2 : Int).toNat * 4 + 1, none⟩ = some (.int .i64 ((rd_T43 x5_2 x6_2).f1)) := hcc16 1 _ rfl; have hx16_2 : w17.cell? ⟨go16, (x6_2 : Int).toNat * 4 + 2, none⟩ = some (.string ((rd_T43 x5_2 x6_2).f2)) := hcc16 2 _ rfl; have hx16_3 : w17.cell? ⟨go16, (x6_2 : Int).toNat * 4 + 3, none⟩ = some (.int .i64 ((rd_T43 x5_2 x6_2).f3)) := hcc16 3 _ rfl; have hf16_0 : w17.frozen? ⟨go16, (x6_2 : Int).toNat * 4, none⟩ = false := hfr16 0; have hf16_1 := hfr16 1; have hf16_2 := hfr16 2; have hf16_3 := hfr16 3; clear hcl16 hcc16 hfr16 hM16; replace p16 := eq_true p16; replace q16 := eq_true q16; have HX18 := am_ (show Kd.R k43 43 w17 w.heap.size (fun _ => True) (.slice (some ⟨go16, 0, none⟩) x5_2.length co16) x5_2 from (have z0_ := HO_5; Zq)); obtain ⟨ce18, hcl18, hM18, hcc18, hfr18⟩ := Kd.R_elem HX18.out z43 (x6_2 : Int) (of_decide_eq_true Zp) (by have h_ : (x6_2 : Int) < ((x5_2.length : Int) : Int) := of_decide_eq_true Zp; first | exact h_ | (have e_ := (Kd.R_reads' HO_5.out).1; omega) | simpa using h_); obtain rfl := k43_openM hM18; have HP18 := Kd.R_seg HX18.out (x6_2 : Int) (of_decide_eq_true Zp) (by have h_ : (x6_2 : Int) < ((x5_2.length : Int) : Int) := of_decide_eq_true Zp; first | exact h_ | (have e_ := (Kd.R_reads' HO_5.out).1; omega) | simpa using h_) (seg := [.int .i64 t261, .int .i64 t262, .string t263, .int .i64 t264]) (j := 0) hcl18 hcc18 (show 4 ≤ 4 from by decide) (x' := (⟨t261, t262, t263, t264⟩ : S43)) (k43_mkM _ _ _ (⟨t261, t262, t263, t264⟩ : S43) ) (fun _ hk => hk); have hx18_0 := hcc18 0 _ rfl; (try simp only [show (k43).sz = 4 from rfl, Nat.mul_one, Nat.add_zero] at hx18_0); have hf18_0 := hfr18 0; (try simp only [show (k43).sz = 4 from rfl, Nat.mul_one, Nat.add_zero] at hf18_0); have hx18_1 := hcc18 1 _ rfl; (try simp only [show (k43).sz = 4 from rfl, Nat.mul_one, Nat.add_zero] at hx18_1); have hf18_1 := hfr18 1; (try simp only [show (k43).sz = 4 from rfl, Nat.mul_one, Nat.add_zero] at hf18_1); have hx18_2 := hcc18 2 _ rfl; (try simp only [show (k43).sz = 4 from rfl, Nat.mul_one, Nat.add_zero] at hx18_2); have hf18_2 := hfr18 2; (try simp only [show (k43).sz = 4 from rfl, Nat.mul_one, Nat.add_zero] at hf18_2); have hx18_3 := hcc18 3 _ rfl; (try simp only [show (k43).sz = 4 from rfl, Nat.mul_one, Nat.add_zero] at hx18_3); have hf18_3 := hfr18 3; (try simp only [show (k43).sz = 4 from rfl, Nat.mul_one, Nat.add_zero] at hf18_3); clear hcl18 hcc18 hfr18 hM18) | ((with_reducible refine gate_store (t := 43) (p := 34) rfl ?_); refine store_event (t := 43) (p := 34) (v := ?vo_w19) (w1 := ((((w17.setCell ⟨go16, (x6_2 : Int).toNat * 4, none⟩ (.int .i64 t261)).setCell ⟨go16, (x6_2 : Int).toNat * 4 + 1, none⟩ (.int .i64 t262)).setCell ⟨go16, (x6_2 : Int).toNat * 4 + 2, none⟩ (.string t263)).setCell ⟨go16, (x6_2 : Int).toNat * 4 + 3, none⟩ (.int .i64 t264))) ?hg ?ho ?hn ?hr ?_; (case ho => rfl); (case hg => rfl); (case hn => rfl); (case hr => first | (go_simp; done) | (go_simp; rfl)); intro w19 hw; have hg : w17.grownBy w19 (some go16) := (by rw [hw]; exact HP18.2); have hp_ : Kd.R k43 43 w19 w.heap.size (fun _ => True) (.slice (some ⟨go16, 0, none⟩) x5_2.length co16) y265 := (by rw [hw, Ny265.out]; exact HP18.1); clear HP18; replace HO_5 := am_ (hp_); replace HB := am_ (((have z0_ := GB16; Zad) : Below w.heap.size w w19)); clear hg hw hp_))
           go_roundg k2
           case measure => have := HJ2.out; have := HK2.out; omega
           case rel => exact ⟨(y265), (wrap64 (x6_2 + 1)), Za, H', ⟨by have := HJ2.out; have := HK2.out; omega⟩, ⟨(have z0_ := HO_5; Zq)⟩, ⟨Zd⟩⟩
          ·rw [if_neg c15] at H
           exact absurd H (by simp)
         ·rw [if_neg c13] at H
          exact absurd H (by simp)
        ·rw [if_neg c12] at H
         have c12b0 := decide_eq_false c12; clear c12; have H' := am_ H; clear H
         go_wp2
         go_loopg [7] k2 (fun kq v7 w' => ∃ (x5_3 : List (S43)) (x7_3 : Int), v7 = .int .i64 x7_3 ∧ Aside0 (full_toCueS.l1 kq l0 x5_3 x7_3 = some r) ∧ Aside0 (kq ≤ k2) ∧ Aside0 (Kd.R k43 43 w' w.heap.size (fun _ => True) v258 x5_3) ∧ Aside0 (Below w.heap.size w w'))
         case atStart => exact ⟨(x5_2), ((l0.length : Int)), Za, H', ⟨Nat.le_refl _⟩, ⟨(have z0_ := HO_5; Zq)⟩, ⟨Zd⟩⟩
         case round =>
          clear H'
          try clear c1
          try clear p1
          try clear q1
          try clear hx1
          try clear c2
          try clear p2
          try clear q2
          try clear hx2
          try clear c4
          try clear c5
          try clear p6
          try clear c7
          try clear c8
          try clear c8b0
          try clear c8b1
          try clear c9
          try clear c9b0
          try clear c9b1
          try clear c11
          try clear c12
          try clear c12b0
          try clear c13
          try clear c13b0
          try clear c15
          try clear c15b0
          try clear c16
          try clear p16
          try clear q16
          try clear hx16
          try clear hf16
          try clear c18
          try clear hx18
          try clear hf18
          try clear hx16_0
          try clear hx16_1
          try clear hx16_2
          try clear hx16_3
          try clear hx18_0
          try clear hx18_1
          try clear hx18_2
          try clear hx18_3
          try clear hx260_0
          try clear hx260_1
          try clear hx260_2
          try clear hx260_3
          try clear p16
          try clear p2
          try clear p260
          try clear p6
          try clear q16
          try clear q260
          obtain ⟨x5_3, x7_3, rfl, HA, HK3, HO_5, HB⟩ := hrel
          cases gk with
          | zero => exact absurd HA.out (by simp [full_toCueS.l1])
          | succ k3 =>
           have H := HA.out; clear HA; simp only [full_toCueS.l1] at H
           by_cases c20 : x7_3 < (x5_3.length : Int)
           ·rw [if_pos c20] at H
            have c20b0 := decide_eq_true c20; clear c20; replace H := Option.bind_eq_some_iff.mp H; obtain ⟨⟨t266, t267, t268, t269⟩, A210, H⟩ := H; replace H : (if 0 ≤ x7_3 then (full_toCueS.l1 k3 l0 (x5_3.set (x7_3 : Int).toNat (⟨t266, t267, t268, t269⟩ : S43)) (wrap64 (x7_3 + 1))) else (none)) = some r := H; have A21 := am_ A210; clear A210
            by_cases c22 : 0 ≤ x7_3
            ·rw [if_pos c22] at H
             have c22b0 := decide_eq_true c22; clear c22; obtain ⟨y270, hy270⟩ : ∃ y_ : List (S43), y_ = (x5_3.set (x7_3 : Int).toNat (⟨t266, t267, t268, t269⟩ : S43)) := ⟨_, rfl⟩
             (first | (rw [← hy270] at H; with_reducible replace H := bindZ H) | rw [← hy270] at H)
             have Ny270 := am_ hy270; clear hy270; have H' := am_ H; clear H; obtain ⟨Ao24, co24, eo24⟩ := Kd.R_slice HO_5.out; subst eo24
             go_wp2_with (first | ((with_reducible refine gate_callee (f := 122) rfl ?_); refine goesL_ (some 45) rfl rfl Try.func122 Zj rfl #[] rfl Zo ?_; (with_reducible refine (laws_fillerCue.calls  t266 t267 t268 t269 _ A21.out).mono ?_); rintro e w25 ⟨rfl, hb⟩; refine ⟨_, rfl, ?_⟩; replace HO_5 := am_ (Kd.R_below (have z0_ := HO_5; Zq) hb); replace HB := (bsZ Zd hb); (try clear hb); (try clear hb2); (try clear hk); (try clear hi); have p23 : 0 ≤ (x7_3 : Int) := of_decide_eq_true Zp; have q23 : (x7_3 : Int) < ((x5_3.length : Int) : Int) := of_decide_eq_true Zp; obtain ⟨go23, co23, eo23, gb23, gl23, cl23, HG23⟩ := Kd.R_form HO_5.out (by omega); (first | cases eo23 | (injection eo23 with ea_ en_ ec_; (first | subst ea_ | (injection ea_ with ea_; subst ea_)); subst ec_; clear en_)); have GB23 := am_ gb23; have GG23 := am_ HG23; clear gb23 gl23 HG23; obtain ⟨ce23, hcl23, hM23, hcc23, hfr23⟩ := Kd.R_elem HO_5.out z43 (x7_3 : Int) p23 q23; obtain rfl := k43_openM hM23; have hx23_0 : w25.cell? ⟨go23, (x7_3 : Int).toNat * 4, none⟩ = some (.int .i64 ((rd_T43 x5_3 x7_3).f0)) := hcc23 0 _ rfl; have hx23_1 : w25.cell? ⟨go23, (x7_3 : Int).toNat * 4 + 1, none⟩ = some (.int .i64 ((rd_T43 x5_3 x7_3).f1)) := hcc23 1 _ rfl; have hx23_2 : w25.cell? ⟨go23, (x7_3 : Int).toNat * 4 + 2, none⟩ = some (.string ((rd_T43 x5_3 x7_3).f2)) := hcc23 2 _ rfl; have hx23_3 : w25.cell? ⟨go23, (x7_3 : Int).toNat * 4 + 3, none⟩ = some (.int .i64 ((rd_T43 x5_3 x7_3).f3)) := hcc23 3 _ rfl; have hf23_0 : w25.frozen? ⟨go23, (x7_3 : Int).toNat * 4, none⟩ = false := hfr23 0; have hf23_1 := hfr23 1; have hf23_2 := hfr23 2; have hf23_3 := hfr23 3; clear hcl23 hcc23 hfr23 hM23; replace p23 := eq_true p23; replace q23 := eq_true q23; have HX26 := am_ (show Kd.R k43 43 w25 w.heap.size (fun _ => True) (.slice (some ⟨go23, 0, none⟩) x5_3.length co24) x5_3 from (have z0_ := HO_5; Zq)); obtain ⟨ce26, hcl26, hM26, hcc26, hfr26⟩ := Kd.R_elem HX26.out z43 (x7_3 : Int) (of_decide_eq_true Zp) (by have h_ : (x7_3 : Int) < ((x5_3.length : Int) : Int) := of_decide_eq_true Zp; first | exact h_ | (have e_ := (Kd.R_reads' HO_5.out).1; omega) | simpa using h_); obtain rfl := k43_openM hM26; have HP26 := Kd.R_seg HX26.out (x7_3 : Int) (of_decide_eq_true Zp) (by have h_ : (x7_3 : Int) < ((x5_3.length : Int) : Int) := of_decide_eq_true Zp; first | exact h_ | (have e_ := (Kd.R_reads' HO_5.out).1; omega) | simpa using h_) (seg := [.int .i64 t266, .int .i64 t267, .string t268, .int .i64 t269]) (j := 0) hcl26 hcc26 (show 4 ≤ 4 from by decide) (x' := (⟨t266, t267, t268, t269⟩ : S43)) (k43_mkM _ _ _ (⟨t266, t267, t268, t269⟩ : S43) ) (fun _ hk => hk); have hx26_0 := hcc26 0 _ rfl; (try simp only [show (k43).sz = 4 from rfl, Nat.mul_one, Nat.add_zero] at hx26_0); have hf26_0 := hfr26 0; (try simp only [show (k43).sz = 4 from rfl, Nat.mul_one, Nat.add_zero] at hf26_0); have hx26_1 := hcc26 1 _ rfl; (try simp only [show (k43).sz = 4 from rfl, Nat.mul_one, Nat.add_zero] at hx26_1); have hf26_1 := hfr26 1; (try simp only [show (k43).sz = 4 from rfl, Nat.mul_one, Nat.add_zero] at hf26_1); have hx26_2 := hcc26 2 _ rfl; (try simp only [show (k43).sz = 4 from rfl, Nat.mul_one, Nat.add_zero] at hx26_2); have hf26_2 := hfr26 2; (try simp only [show (k43).sz = 4 from rfl, Nat.mul_one, Nat.add_zero] at hf26_2); have hx26_3 := hcc26 3 _ rfl; (try simp only [show (k43).sz = 4 from rfl, Nat.mul_one, Nat.add_zero] at hx26_3); have hf26_3 := hfr26 3; (try simp only [show (k43).sz = 4 from rfl, Nat.mul_one, Nat.add_zero] at hf26_3); clear hcl26 hcc26 hfr26 hM26) | ((with_reducible refine gate_store (t := 43) (p := 46) rfl ?_); refine store_event (t := 43) (p := 46) (v := ?vo_w27) (w1 := ((((w25.setCell ⟨go23, (x7_3 : Int).toNat * 4, none⟩ (.int .i64 t266)).setCell ⟨go23, (x7_3 : Int).toNat * 4 + 1, none⟩ (.int .i64 t267)).setCell ⟨go23, (x7_3 : Int).toNat * 4 + 2, none⟩ (.string t268)).setCell ⟨go23, (x7_3 : Int).toNat * 4 + 3, none⟩ (.int .i64 t269))) ?hg ?ho ?hn ?hr ?_; (case ho => rfl); (case hg => rfl); (case hn => rfl); (case hr => first | (go_simp; done) | (go_simp; rfl)); intro w27 hw; have hg : w25.grownBy w27 (some go23) := (by rw [hw]; exact HP26.2); have hp_ : Kd.R k43 43 w27 w.heap.size (fun _ => True) (.slice (some ⟨go23, 0, none⟩) x5_3.length co24) y270 := (by rw [hw, Ny270.out]; exact HP26.1); clear HP26; replace HO_5 := am_ (hp_); replace HB := am_ (((have z0_ := GB23; Zad) : Below w.heap.size w w27)); clear hg hw hp_))
             go_roundg k3
             case measure => have := HJ2.out; have := HK2.out; have := HK3.out; omega
             case rel => exact ⟨(y270), (wrap64 (x7_3 + 1)), Za, H', ⟨Zr⟩, ⟨(have z0_ := HO_5; Zq)⟩, ⟨Zd⟩⟩
            ·rw [if_neg c22] at H
             exact absurd H (by simp)
           ·rw [if_neg c20] at H
            have c20b0 := decide_eq_false c20; clear c20
            by_cases c28 : 0 ≤ (l0.length : Int)
            ·rw [if_pos c28] at H
             have c28b0 := eq_true c28; have c28b1 := decide_eq_true c28; clear c28
             by_cases c29 : (l0.length : Int) ≤ (x5_3.length : Int)
             ·rw [if_pos c29] at H
              have c29b0 := eq_true c29; have c29b1 := decide_eq_true c29; clear c29; have HE_ := am_ (Option.some.inj H); clear H; obtain ⟨Ao30, co30, eo30⟩ := Kd.R_slice HO_5.out; subst eo30; have q31 : ((l0.length : Int) : Int) ≤ ((x5_3.length : Int) : Int) := of_decide_eq_true Zp; obtain ⟨i031, hi031, _, hsz31, _⟩ := info_parts info43; have hcut31 := cut_to (P := Try.prog) 30 43 .i64 Try.underlying30 hi031 Ao30 x5_3.length co30 (l0.length : Int) (of_decide_eq_true Zp) q31 (Kd.R_reads' HO_5.out).2.1; have hz_ : ((l0.length : Int) : Int).toNat = l0.length := Int.toNat_natCast _; rw [hz_] at hcut31; clear hi031 hsz31 hz_; have HL_ := am_ (show l0.length ≤ x5_3.length by omega); replace q31 := eq_true q31
              go_wp2
              go_ret
              exact ⟨_, rfl, (fun _ => ⟨_, _, rfl, (by rw [← HE_.out]; exact HL_.out), (by rw [← HE_.out]; (with_reducible repeat (first | apply Kd.R_alloc | apply Kd.R_drewN | apply Kd.R_drew)); exact HO_5.out)⟩), Zd⟩
             ·rw [if_neg c29] at H
              exact absurd H (by simp)
            ·rw [if_neg c28] at H
             exact absurd H (by simp)
     ·rw [if_neg c9] at H
      exact absurd H (by simp)
    ·rw [if_neg c8] at H
     exact absurd H (by simp)
def T_intactCueS : Bool × List (List Nat × List Nat) := (true, [([], []), ([0], [0]), ([], []), ([2], [2]), ([1, 3], [1, 3]), ([4], [4]), ([5], [5]), ([5], [5]), ([6, 7, 5], [5, 6, 7]), ([5], [5]), ([5], [5]), ([9, 10, 5], [5, 9, 10]), ([8, 11, 5, 5], [5, 8, 11]), ([5, 12], [5, 12]), ([13, 12, 0, 1, 2, 3, 4, 5, 6, 7, 8, 9, 10, 11, 12, 13], [13])])
def B_intactCueS : List Nat := [0, 1, 0, 4, 15, 31, 63, 63, 255, 63, 63, 1599, 4095, 8191, 16383]
theorem tab_intactCueS : rtab .any (opsOf Try.f80 2) = T_intactCueS := by kernel_rfl
theorem bits_intactCueS : waitsOk T_intactCueS.2 B_intactCueS = true := by kernel_rfl
set_option maxHeartbeats 8000000 in
set_option maxRecDepth 100000 in
theorem same_intactCueS (k n : Nat) (A0 : Option Addr) (c0 : Nat) (A1 : Option Addr) (c1 : Nat) (L : List S43) (t : Int) (w : World) (hr0 : Kd.C k43 w A0 L.length L) (hc0 : L.length ≤ c0) (hr1 : Kd.C k43 w A1 L.length L) (hc1 : L.length ≤ c1)
    (ht : laws_roomBehind.f (n : Int) = some t) (hj : wrap64 ((n : Int) + t) = (L.length : Int)) (he : laws_eqCueS.f k L L = some true) :
    Calls Try.prog 80 #[.slice A0 n c0, .slice A1 n c1] w fun e w' => e = .returned (.bool true) ∧ Below w.heap.size w w' := by
  have HR0 := am_ hr0; have HC0 := am_ hc0; clear hr0 hc0; have HR1 := am_ hr1; have HC1 := am_ hc1; clear hr1 hc1; have HB := am_ (Below.refl w.heap.size w); have A3 := am_ ht; have A10 := am_ he; clear ht he; obtain ⟨ji5, hji⟩ : ∃ j_ : Int, (L.length : Int) = j_ := ⟨_, rfl⟩; rw [hji] at hj; have hji5w : (IntKind.i64.wrap ((n : Int) + t)) = ji5 := (i64_w _).trans hj; have hji5 := hj; clear hj; obtain ⟨i012, hi012, _, hsz12, _⟩ := info_parts info43; have hcut12 := cut_cap (P := Try.prog) 30 43 .i64 Try.underlying30 hi012 A0 n c0 ji5 (by omega) (by have := HC0.out; omega); have hcut13 := cut_cap (P := Try.prog) 30 43 .i64 Try.underlying30 hi012 A1 n c1 ji5 (by omega) (by have := HC1.out; omega)
  have hL : ji5.toNat = L.length := by omega
  rw [hL] at hcut12 hcut13; clear hL hi012 hsz12 hji
  go_enter Try.func80, Try.ntmps80
  go_wp2_with (first | ((with_reducible refine gate_callee (f := 117) rfl ?_); refine goesL_ (some 10) rfl rfl Try.func117 Zj rfl #[.int .i64 (n : Int)] rfl Zo ?_; (with_reducible refine (laws_roomBehind.calls (n : Int) t _ A3.out).mono ?_); rintro e w' ⟨rfl, ⟨nd, rfl⟩⟩; refine ⟨_, rfl, ?_⟩))
  replace HB := am_ (below_drew1 (pw_below_drewN HB.out nd)); refine start_ (n := 15) (S := fun w' => True) (ds := []) (bT 15 0) Zj rfl rfl trivial (fun hHeld => ?_); refine with_tabW tab_intactCueS bits_intactCueS (fun HT_ HW_ => ?_); generalize (w.drewN nd).drew = w11 at HB hHeld ⊢; refine pure_ (i := 0) (N := some 12) (v := ?_) (a' := ?_) (bT 15 1) rfl rfl (any_of HT_.out Zj) (fun _ _ _ h => h) (Or.inl ⟨by rfl, ?_⟩) ?_ ?_; rotate_left
  · intro w'
    go_simp
    with_reducible rfl
  rotate_left
  · simp only [Act.put, List.setIfInBounds_toArray, List.set_cons_zero, List.set_cons_succ, i64_w, i32_w]
    rfl
  refine pure_ (i := 1) (N := some 13) (v := ?_) (a' := ?_) (bT 15 2) rfl rfl (any_of HT_.out Zj) (fun _ _ _ h => h) (Or.inl ⟨by rfl, ?_⟩) ?_ ?_; rotate_left
  · intro w'
    go_simp
    with_reducible rfl
  rotate_left
  · simp only [Act.put, List.setIfInBounds_toArray, List.set_cons_zero, List.set_cons_succ, i64_w, i32_w]
    rfl
  refine pure_ (i := 2) (N := some 14) (v := ?_) (a' := ?_) (bT 15 3) rfl rfl (any_of HT_.out Zj) (fun _ _ _ h => h) (Or.inl ⟨by rfl, ?_⟩) ?_ ?_; rotate_left
  · intro w'
    go_simp
    with_reducible rfl
  rotate_left
  · simp only [Act.put, List.setIfInBounds_toArray, List.set_cons_zero, List.set_cons_succ, i64_w, i32_w]
    rfl
  refine pure_ (i := 3) (N := some 15) (v := ?_) (a' := ?_) (bT 15 4) rfl rfl (any_of HT_.out Zj) (fun _ _ _ h => h) (Or.inl ⟨by rfl, ?_⟩) ?_ ?_; rotate_left
  · intro w'
    go_simp
    with_reducible rfl
  rotate_left
  · simp only [Act.put, List.setIfInBounds_toArray, List.set_cons_zero, List.set_cons_succ, i64_w, i32_w]
    rfl
  refine pure_ (i := 4) (N := some 16) (v := ?_) (a' := ?_) (bT 15 5) rfl rfl (any_of HT_.out Zj) (fun _ _ _ h => h) (Or.inl ⟨by rfl, ?_⟩) ?_ ?_; rotate_left
  · intro w'
    go_simp
    with_reducible rfl
  rotate_left
  · simp only [Act.put, List.setIfInBounds_toArray, List.set_cons_zero, List.set_cons_succ, i64_w, i32_w]
    rfl
  refine pure_ (i := 5) (N := some 17) (v := ?_) (a' := ?_) (bT 15 6) rfl rfl (any_of HT_.out Zj) (fun _ _ _ h => h) (Or.inl ⟨by rfl, ?_⟩) ?_ ?_; rotate_left
  · intro w'
    go_simp
    with_reducible rfl
  rotate_left
  · simp only [Act.put, List.setIfInBounds_toArray, List.set_cons_zero, List.set_cons_succ, i64_w, i32_w]
    rfl
  refine pure_ (i := 6) (N := some 18) (v := ?_) (a' := ?_) (bT 15 7) rfl rfl (any_of HT_.out Zj) (fun _ _ _ h => h) (Or.inl ⟨by rfl, ?_⟩) ?_ ?_; rotate_left
  · intro w'
    go_simp
    with_reducible rfl
  rotate_left
  · simp only [Act.put, List.setIfInBounds_toArray, List.set_cons_zero, List.set_cons_succ, i64_w, i32_w]
    rfl
  refine pure_ (i := 7) (N := some 19) (v := ?_) (a' := ?_) (bT 15 8) rfl rfl (any_of HT_.out Zj) (fun _ _ _ h => h) (Or.inl ⟨by rfl, ?_⟩) ?_ ?_; rotate_left
  · intro w'
    go_simp
    with_reducible rfl
  rotate_left
  · simp only [Act.put, List.setIfInBounds_toArray, List.set_cons_zero, List.set_cons_succ, i64_w, i32_w]
    rfl
  refine pure_ (i := 8) (N := some 20) (v := ?_) (a' := ?_) (bT 15 9) rfl rfl (any_of HT_.out Zj) (fun _ _ _ h => h) (Or.inl ⟨by rfl, ?_⟩) ?_ ?_; rotate_left
  · intro w'
    go_simp
    with_reducible rfl
  rotate_left
  · simp only [Act.put, List.setIfInBounds_toArray, List.set_cons_zero, List.set_cons_succ, i64_w, i32_w]
    rfl
  refine pure_ (i := 9) (N := some 21) (v := ?_) (a' := ?_) (bT 15 10) rfl rfl (any_of HT_.out Zj) (fun _ _ _ h => h) (Or.inl ⟨by rfl, ?_⟩) ?_ ?_; rotate_left
  · intro w'
    go_simp
    with_reducible rfl
  rotate_left
  · simp only [Act.put, List.setIfInBounds_toArray, List.set_cons_zero, List.set_cons_succ, i64_w, i32_w]
    rfl
  refine pure_ (i := 10) (N := some 22) (v := ?_) (a' := ?_) (bT 15 11) rfl rfl (any_of HT_.out Zj) (fun _ _ _ h => h) (Or.inl ⟨by rfl, ?_⟩) ?_ ?_; rotate_left
  · intro w'
    go_simp
    with_reducible rfl
  rotate_left
  · simp only [Act.put, List.setIfInBounds_toArray, List.set_cons_zero, List.set_cons_succ, i64_w, i32_w]
    rfl
  refine pure_ (i := 11) (N := some 23) (v := ?_) (a' := ?_) (bT 15 12) rfl rfl (any_of HT_.out Zj) (fun _ _ _ h => h) (Or.inl ⟨by rfl, ?_⟩) ?_ ?_; rotate_left
  · intro w'
    go_simp
    with_reducible rfl
  rotate_left
  · simp only [Act.put, List.setIfInBounds_toArray, List.set_cons_zero, List.set_cons_succ, i64_w, i32_w]
    rfl
  refine one_ (i := 12) (N := some 24) (bT 15 13) rfl rfl (one_of HT_.out Zj) (by decide) (fun K hK => ?_); refine goes_ Try.func77 Zj rfl #[.slice A0 L.length c0, .slice A1 L.length c1] (by rfl) rfl rfl (by (try simp only [List.map_toArray, List.map_cons, List.map_nil]); first | done | rfl) ?_
  with_reducible refine (laws_eqCueS.calls k _ _ L _ _ L true _ (Kd.C_below HR0.out HB.out) HC0.out (Kd.C_below HR1.out HB.out) HC1.out A10.out).mono ?_
  rintro e w14 ⟨rfl, hb⟩; refine ⟨_, rfl, ?_⟩; replace HB := (bsZ HB.out hb); clear hb; refine hK.out _ _ trivial (fun hHeld => ?_); clear hK K; refine normZ 24 ?_; refine pure_ (i := 13) (N := some 25) (v := ?_) (a' := ?_) (bT 15 14) rfl rfl (any_of HT_.out Zj) (fun _ _ _ h => h) (Or.inl ⟨by rfl, ?_⟩) ?_ ?_; rotate_left
  · intro w'
    go_simp
    with_reducible rfl
  rotate_left
  · simp only [Act.put, List.setIfInBounds_toArray, List.set_cons_zero, List.set_cons_succ, i64_w, i32_w]
    rfl
  refine pure_ (i := 14) (N := some 4) (v := ?_) (a' := ?_) (bT 15 15) rfl rfl (any_of HT_.out Zj) (fun _ _ _ h => h) (Or.inl ⟨by rfl, ?_⟩) ?_ ?_; rotate_left
  · intro w'
    go_simp
    with_reducible rfl
  rotate_left
  · simp only [Act.put, List.setIfInBounds_toArray, List.set_cons_zero, List.set_cons_succ, i64_w, i32_w]
    rfl
  refine done_ (done_of HT_.out Zj) ?_
  try go_wp2
  go_ret
  exact ⟨rfl, HB.out⟩
theorem one40 : Try.prog.cellsOf 2 = 1 := by kernel_rfl
theorem ones40 : Try.prog.cellsOf 9 = 1 := by kernel_rfl
theorem size40 : Try.prog.cellsOf 40 = 4 := by kernel_rfl
def Pr40 (x : S40) : Prop := I64 x.f0 ∧ I64 x.f1 ∧ x.f2.size ≤ maxLen ∧ I64 x.f3
theorem open_S40 {H : Type} {enc : TypeId × Value → H} {W : World} {base : Nat} {sp : Nat → Bool} {held : Bool} {fuel : Nat} {cs : List Value} {y : DataW H × List MemPlace} (h : DataW.trod enc Try.prog W base sp held fuel 40 cs = some y) (w : World) : ∃ a : S40, k40.K w a cs ∧ Pr40 a := by
  obtain ⟨xs, n, _, rfl, hl, hlen, hf⟩ := DataW.trod_struct Try.underlying40 h; rw [size40] at hl; obtain ⟨v0, e0, _, w0⟩ := DataW.trod_int Try.underlying2 ((hf 0 _ rfl).trans (List.getElem?_eq_getElem Zw)); have g0 : cs[0]? = some (.int .i64 v0) := one_cell (by have z : List.take (Try.prog.cellsOf 2) (List.drop 0 cs) = [.int .i64 v0] := e0; rw [one40] at z; exact z); obtain ⟨v1, e1, _, w1⟩ := DataW.trod_int Try.underlying2 ((hf 1 _ rfl).trans (List.getElem?_eq_getElem Zw)); have g1 : cs[1]? = some (.int .i64 v1) := one_cell (by have z : List.take (Try.prog.cellsOf 2) (List.drop 1 cs) = [.int .i64 v1] := e1; rw [one40] at z; exact z); obtain ⟨v2, e2, _, w2⟩ := DataW.trod_string Try.underlying9 ((hf 2 _ rfl).trans (List.getElem?_eq_getElem Zw)); have g2 : cs[2]? = some (.string v2) := one_cell (by have z : List.take (Try.prog.cellsOf 9) (List.drop 2 cs) = [.string v2] := e2; rw [ones40] at z; exact z); obtain ⟨v3, e3, _, w3⟩ := DataW.trod_int Try.underlying2 ((hf 3 _ rfl).trans (List.getElem?_eq_getElem Zw)); have g3 : cs[3]? = some (.int .i64 v3) := one_cell (by have z : List.take (Try.prog.cellsOf 2) (List.drop 3 cs) = [.int .i64 v3] := e3; rw [one40] at z; exact z)
  have hcs : cs = [.int .i64 v0, .int .i64 v1, .string v2, .int .i64 v3] := by
    apply List.ext_getElem?
    intro i
    match i with
    | 0 => exact g0
    | 1 => exact g1
    | 2 => exact g2
    | 3 => exact g3
    | i + 4 => rw [List.getElem?_eq_none (by omega)]; rfl
  subst hcs; exact ⟨⟨v0, v1, v2, v3⟩, k40_mk w _, I64_of w0, I64_of w1, w2, I64_of w3⟩
end Go.Proofs.Ytnlbaflbhicooaa.F
namespace Go.Proofs.Ytnlbaflbhicooaa.F
open Go.RowKit Go.Proofs.YtnlbaflbhicooaaW.PrintWords Go.Proofs.YtnlbaflbhicooaaW.PrintLast Go.Proofs.YtnlbaflbhicooaaW.PrintMore
attribute [local go_sem] max2_int min2_int max_two min_two max_three min_three max_four min_four
set_option linter.unusedVariables false
set_option linter.unusedSimpArgs false
def laws_szShow.f (k : Nat) (l0_0 : List (S110)) (l0_1 : List (S105)) (l0_2 : List (S40)) (a1 : Int) : Option (Int) := (laws_szBarS.f l0_0 a1).bind fun t108 => (if t108 < 0 then (some (-1)) else ((laws_szArticleS.f k l0_1 t108).bind fun t109 => (if t109 < 0 then (some (-1)) else ((laws_szCueS.f k l0_2 t109).bind fun t110 => (if t110 < 0 then (some (-1)) else (some t110))))))
set_option maxHeartbeats 8000000 in
set_option maxRecDepth 100000 in
theorem laws_szShow.calls (k : Nat) (A0_0 : Option Addr) (c0_0 : Nat) (l0_0 : List (S110)) (A0_1 : Option Addr) (c0_1 : Nat) (l0_1 : List (S105)) (A0_2 : Option Addr) (c0_2 : Nat) (l0_2 : List (S40)) (a1 : Int) (r : Int) (w : World) (hr0_0 : Kd.C k110 w A0_0 l0_0.length l0_0) (hc0_0 : l0_0.length ≤ c0_0) (hr0_1 : Kd.C k105 w A0_1 l0_1.length l0_1) (hc0_1 : l0_1.length ≤ c0_1) (hr0_2 : Kd.C k40 w A0_2 l0_2.length l0_2) (hc0_2 : l0_2.length ≤ c0_2) (h : laws_szShow.f k l0_0 l0_1 l0_2 a1 = some r) :
  Calls Try.prog 19 #[.agg #[.slice A0_0 l0_0.length c0_0, .slice A0_1 l0_1.length c0_1, .slice A0_2 l0_2.length c0_2], .int .i64 a1] w fun e w' => e = .returned (.int .i64 r) ∧ Below w.heap.size w w' := by
 have hu26 := Try.underlying26; have HR0_0 := am_ hr0_0; have HC0_0 := am_ hc0_0; clear hr0_0 hc0_0; have HR0_1 := am_ hr0_1; have HC0_1 := am_ hc0_1; clear hr0_1 hc0_1; have HR0_2 := am_ hr0_2; have HC0_2 := am_ hc0_2; clear hr0_2 hc0_2; have HB := am_ (Below.refl w.heap.size w); have H : ((laws_szBarS.f l0_0 a1).bind fun t108 => (if t108 < 0 then (some (-1)) else ((laws_szArticleS.f k l0_1 t108).bind fun t109 => (if t109 < 0 then (some (-1)) else ((laws_szCueS.f k l0_2 t109).bind fun t110 => (if t110 < 0 then (some (-1)) else (some t110))))))) = some r := h; clear h; replace H := Option.bind_eq_some_iff.mp H; obtain ⟨t108, A30, H⟩ := H; have A3 := am_ A30; clear A30
 by_cases c4 : t108 < 0
 ·rw [if_pos c4] at H
  have c4b0 := decide_eq_true c4; clear c4; obtain rfl := Option.some.inj H
  go_enter Try.func19, Try.ntmps19
  go_wp2_with (first | ((with_reducible refine gate_dst (N := 2) rfl ?_); refine boxZ 2 #[.slice A0_0 l0_0.length c0_0, .slice A0_1 l0_1.length c0_1, .slice A0_2 l0_2.length c0_2] 26 ?_; intro gb107 hg w5 hbox hb; replace BK107 := am_ (hbox); replace GW107 := am_ ((Zc : w.heap.size ≤ gb107)); replace GE107 := GW107; replace HB := (bsZ Zd hb); clear hb hbox hg; refine ci3 BK107 ?_; intros) | ((with_reducible refine gate_callee (f := 65) rfl ?_); refine goesL_ (some 8) rfl rfl Try.func65 Zj rfl #[.slice A0_0 l0_0.length c0_0, .int .i64 a1] rfl Zo ?_; (with_reducible refine (laws_szBarS.calls _ _ l0_0 a1 t108 _ ?side1 ?side2 A3.out).mono ?_); (case side1 => exact (have z0_ := HR0_0; Zae)); (case side2 => exact HC0_0.out); rintro e w' ⟨rfl, ⟨nd, rfl⟩⟩; refine ⟨_, rfl, ?_⟩))
  go_ret
  exact ⟨Zk, (have z0_ := GE107; Zf)⟩
 ·rw [if_neg c4] at H
  have c4b0 := decide_eq_false c4; clear c4; replace H := Option.bind_eq_some_iff.mp H; obtain ⟨t109, A70, H⟩ := H; have A7 := am_ A70; clear A70
  by_cases c8 : t109 < 0
  ·rw [if_pos c8] at H
   have c8b0 := decide_eq_true c8; clear c8; obtain rfl := Option.some.inj H
   go_enter Try.func19, Try.ntmps19
   go_wp2_with (first | ((with_reducible refine gate_dst (N := 2) rfl ?_); refine boxZ 2 #[.slice A0_0 l0_0.length c0_0, .slice A0_1 l0_1.length c0_1, .slice A0_2 l0_2.length c0_2] 26 ?_; intro gb107 hg w9 hbox hb; replace BK107 := am_ (hbox); replace GW107 := am_ ((Zc : w.heap.size ≤ gb107)); replace GE107 := GW107; replace HB := (bsZ Zd hb); clear hb hbox hg; refine ci3 BK107 ?_; intros) | ((with_reducible refine gate_callee (f := 65) rfl ?_); refine goesL_ (some 8) rfl rfl Try.func65 Zj rfl #[.slice A0_0 l0_0.length c0_0, .int .i64 a1] rfl Zo ?_; (with_reducible refine (laws_szBarS.calls _ _ l0_0 a1 t108 _ ?side1 ?side2 A3.out).mono ?_); (case side1 => exact (have z0_ := HR0_0; Zae)); (case side2 => exact HC0_0.out); rintro e w' ⟨rfl, ⟨nd, rfl⟩⟩; refine ⟨_, rfl, ?_⟩) | ((with_reducible refine gate_callee (f := 66) rfl ?_); refine goesL_ (some 14) rfl rfl Try.func66 Zj rfl #[.slice A0_1 l0_1.length c0_1, .int .i64 t108] rfl Zo ?_; (with_reducible refine (laws_szArticleS.calls k _ _ l0_1 t108 t109 _ ?side1 ?side2 A7.out).mono ?_); (case side1 => repeat (first | exact (Kd.C_below HR0_1.out (have z0_ := GE107; Zf)) | (with_reducible refine Kd.C_alloc ?_ _) | (with_reducible refine Kd.C_drewN ?_ _) | (with_reducible refine Kd.C_drew ?_))); (case side2 => exact HC0_1.out); rintro e w11 ⟨rfl, hb⟩; refine ⟨_, rfl, ?_⟩; replace BK107 := (have z0_ := BK107; bkZ hb); replace HB := (bsZ (have z0_ := GE107; Zf) hb); (try clear hb); (try clear hb2); (try clear hk); (try clear hi)))
   go_ret
   exact ⟨Zk, (have z0_ := GE107; Zf)⟩
  ·rw [if_neg c8] at H
   have c8b0 := decide_eq_false c8; clear c8; replace H := Option.bind_eq_some_iff.mp H; obtain ⟨t110, A120, H⟩ := H; have A12 := am_ A120; clear A120
   by_cases c13 : t110 < 0
   ·rw [if_pos c13] at H
    have c13b0 := decide_eq_true c13; clear c13; obtain rfl := Option.some.inj H
    go_enter Try.func19, Try.ntmps19
    go_wp2_with (first | ((with_reducible refine gate_dst (N := 2) rfl ?_); refine boxZ 2 #[.slice A0_0 l0_0.length c0_0, .slice A0_1 l0_1.length c0_1, .slice A0_2 l0_2.length c0_2] 26 ?_; intro gb107 hg w14 hbox hb; replace BK107 := am_ (hbox); replace GW107 := am_ ((Zc : w.heap.size ≤ gb107)); replace GE107 := GW107; replace HB := (bsZ Zd hb); clear hb hbox hg; refine ci3 BK107 ?_; intros) | ((with_reducible refine gate_callee (f := 65) rfl ?_); refine goesL_ (some 8) rfl rfl Try.func65 Zj rfl #[.slice A0_0 l0_0.length c0_0, .int .i64 a1] rfl Zo ?_; (with_reducible refine (laws_szBarS.calls _ _ l0_0 a1 t108 _ ?side1 ?side2 A3.out).mono ?_); (case side1 => exact (have z0_ := HR0_0; Zae)); (case side2 => exact HC0_0.out); rintro e w' ⟨rfl, ⟨nd, rfl⟩⟩; refine ⟨_, rfl, ?_⟩) | ((with_reducible refine gate_callee (f := 66) rfl ?_); refine goesL_ (some 14) rfl rfl Try.func66 Zj rfl #[.slice A0_1 l0_1.length c0_1, .int .i64 t108] rfl Zo ?_; (with_reducible refine (laws_szArticleS.calls k _ _ l0_1 t108 t109 _ ?side1 ?side2 A7.out).mono ?_); (case side1 => repeat (first | exact (Kd.C_below HR0_1.out (have z0_ := GE107; Zf)) | (with_reducible refine Kd.C_alloc ?_ _) | (with_reducible refine Kd.C_drewN ?_ _) | (with_reducible refine Kd.C_drew ?_))); (case side2 => exact HC0_1.out); rintro e w16 ⟨rfl, hb⟩; refine ⟨_, rfl, ?_⟩; replace BK107 := (have z0_ := BK107; bkZ hb); replace HB := (bsZ (have z0_ := GE107; Zf) hb); (try clear hb); (try clear hb2); (try clear hk); (try clear hi); refine ci3 BK107 ?_; intros) | ((with_reducible refine gate_callee (f := 67) rfl ?_); refine goesL_ (some 20) rfl rfl Try.func67 Zj rfl #[.slice A0_2 l0_2.length c0_2, .int .i64 t109] rfl Zo ?_; (with_reducible refine (laws_szCueS.calls k _ _ l0_2 t109 t110 _ ?side1 ?side2 A12.out).mono ?_); (case side1 => exact (have z0_ := HR0_2; Zae)); (case side2 => exact HC0_2.out); rintro e w18 ⟨rfl, hb⟩; refine ⟨_, rfl, ?_⟩; replace BK107 := (have z0_ := BK107; bkZ hb); replace HB := (bsZ (have z0_ := GE107; Zf) hb); (try clear hb); (try clear hb2); (try clear hk); (try clear hi)))
    go_ret
    exact ⟨Zk, (have z0_ := GE107; Zf)⟩
   ·rw [if_neg c13] at H
    have c13b0 := decide_eq_false c13; clear c13; obtain rfl := Option.some.inj H
    go_enter Try.func19, Try.ntmps19
    go_wp2_with (first | ((with_reducible refine gate_dst (N := 2) rfl ?_); refine boxZ 2 #[.slice A0_0 l0_0.length c0_0, .slice A0_1 l0_1.length c0_1, .slice A0_2 l0_2.length c0_2] 26 ?_; intro gb107 hg w19 hbox hb; replace BK107 := am_ (hbox); replace GW107 := am_ ((Zc : w.heap.size ≤ gb107)); replace GE107 := GW107; replace HB := (bsZ Zd hb); clear hb hbox hg; refine ci3 BK107 ?_; intros) | ((with_reducible refine gate_callee (f := 65) rfl ?_); refine goesL_ (some 8) rfl rfl Try.func65 Zj rfl #[.slice A0_0 l0_0.length c0_0, .int .i64 a1] rfl Zo ?_; (with_reducible refine (laws_szBarS.calls _ _ l0_0 a1 t108 _ ?side1 ?side2 A3.out).mono ?_); (case side1 => exact (have z0_ := HR0_0; Zae)); (case side2 => exact HC0_0.out); rintro e w' ⟨rfl, ⟨nd, rfl⟩⟩; refine ⟨_, rfl, ?_⟩) | ((with_reducible refine gate_callee (f := 66) rfl ?_); refine goesL_ (some 14) rfl rfl Try.func66 Zj rfl #[.slice A0_1 l0_1.length c0_1, .int .i64 t108] rfl Zo ?_; (with_reducible refine (laws_szArticleS.calls k _ _ l0_1 t108 t109 _ ?side1 ?side2 A7.out).mono ?_); (case side1 => repeat (first | exact (Kd.C_below HR0_1.out (have z0_ := GE107; Zf)) | (with_reducible refine Kd.C_alloc ?_ _) | (with_reducible refine Kd.C_drewN ?_ _) | (with_reducible refine Kd.C_drew ?_))); (case side2 => exact HC0_1.out); rintro e w21 ⟨rfl, hb⟩; refine ⟨_, rfl, ?_⟩; replace BK107 := (have z0_ := BK107; bkZ hb); replace HB := (bsZ (have z0_ := GE107; Zf) hb); (try clear hb); (try clear hb2); (try clear hk); (try clear hi); refine ci3 BK107 ?_; intros) | ((with_reducible refine gate_callee (f := 67) rfl ?_); refine goesL_ (some 20) rfl rfl Try.func67 Zj rfl #[.slice A0_2 l0_2.length c0_2, .int .i64 t109] rfl Zo ?_; (with_reducible refine (laws_szCueS.calls k _ _ l0_2 t109 t110 _ ?side1 ?side2 A12.out).mono ?_); (case side1 => exact (have z0_ := HR0_2; Zae)); (case side2 => exact HC0_2.out); rintro e w23 ⟨rfl, hb⟩; refine ⟨_, rfl, ?_⟩; replace BK107 := (have z0_ := BK107; bkZ hb); replace HB := (bsZ (have z0_ := GE107; Zf) hb); (try clear hb); (try clear hb2); (try clear hk); (try clear hi)))
    go_ret
    exact ⟨Zk, (have z0_ := GE107; Zf)⟩
def laws_toShow.f (k : Nat) (l0_0 : List (S110)) (l0_1 : List (S105)) (l0_2 : List (S40)) (a1 : Bool) : Option ((List (S108)) × (List (S92)) × (List (S43))) := (laws_toBarS.f k l0_0 a1).bind fun t277 => ((laws_toArticleS.f k l0_1 a1).bind fun t280 => ((laws_toCueS.f k l0_2 a1).bind fun t283 => (some (t277, t280, t283))))
set_option maxHeartbeats 8000000 in
set_option maxRecDepth 100000 in
theorem laws_toShow.calls (k : Nat) (A0_0 : Option Addr) (c0_0 : Nat) (l0_0 : List (S110)) (A0_1 : Option Addr) (c0_1 : Nat) (l0_1 : List (S105)) (A0_2 : Option Addr) (c0_2 : Nat) (l0_2 : List (S40)) (a1 : Bool) (r1 : List (S108)) (r2 : List (S92)) (r3 : List (S43)) (w : World) (hr0_0 : Kd.C k110 w A0_0 l0_0.length l0_0) (hc0_0 : l0_0.length ≤ c0_0) (hr0_1 : Kd.C k105 w A0_1 l0_1.length l0_1) (hc0_1 : l0_1.length ≤ c0_1) (hr0_2 : Kd.C k40 w A0_2 l0_2.length l0_2) (hc0_2 : l0_2.length ≤ c0_2) (h : laws_toShow.f k l0_0 l0_1 l0_2 a1 = some (r1, r2, r3)) :
  Calls Try.prog 21 #[.agg #[.slice A0_0 l0_0.length c0_0, .slice A0_1 l0_1.length c0_1, .slice A0_2 l0_2.length c0_2], .bool a1] w fun e w' => ∃ v0_ v1_ v2_ : Value, e = .returned (.agg #[v0_, v1_, v2_]) ∧ Kd.R k108 108 w' w.heap.size (fun _ => True) v0_ r1 ∧ Kd.R k92 92 w' w.heap.size (fun _ => True) v1_ r2 ∧ Kd.R k43 43 w' w.heap.size (fun _ => True) v2_ r3 ∧ Below w.heap.size w w' := by
 have hu26 := Try.underlying26; have hu32 := Try.underlying32; have HR0_0 := am_ hr0_0; have HC0_0 := am_ hc0_0; clear hr0_0 hc0_0; have HR0_1 := am_ hr0_1; have HC0_1 := am_ hc0_1; clear hr0_1 hc0_1; have HR0_2 := am_ hr0_2; have HC0_2 := am_ hc0_2; clear hr0_2 hc0_2; have HB := am_ (Below.refl w.heap.size w); have H : ((laws_toBarS.f k l0_0 a1).bind fun t277 => ((laws_toArticleS.f k l0_1 a1).bind fun t280 => ((laws_toCueS.f k l0_2 a1).bind fun t283 => (some (t277, t280, t283))))) = some (r1, r2, r3) := h; clear h; replace H := Option.bind_eq_some_iff.mp H; obtain ⟨t277, A30, H⟩ := H; have A3 := am_ A30; clear A30; replace H := Option.bind_eq_some_iff.mp H; obtain ⟨t280, A40, H⟩ := H; have A4 := am_ A40; clear A40; replace H := Option.bind_eq_some_iff.mp H; obtain ⟨t283, A50, H⟩ := H; have A5 := am_ A50; clear A50; simp only [Option.some.injEq, Prod.mk.injEq] at H; obtain ⟨rfl, rfl, rfl⟩ := H
 go_enter Try.func21, Try.ntmps21
 go_wp2_with (first | ((with_reducible refine gate_dst (N := 2) rfl ?_); refine boxZ 2 #[.slice A0_0 l0_0.length c0_0, .slice A0_1 l0_1.length c0_1, .slice A0_2 l0_2.length c0_2] 26 ?_; intro gb274 hg w6 hbox hb; replace BK274 := am_ (hbox); replace GW274 := am_ ((Zc : w.heap.size ≤ gb274)); replace GE274 := GW274; replace HB := (bsZ Zd hb); clear hb hbox hg) | ((with_reducible refine gate_dst (N := 4) rfl ?_); refine boxZ 4 #[.slice none 0 0, .slice none 0 0, .slice none 0 0] 32 ?_; intro gb275 hg w7 hbox hb; replace BK275 := am_ (hbox); replace GW275 := am_ (((have z0_ := GE274; Ze) : w.heap.size ≤ gb275)); replace GE275 := GW275; replace HB := (bsZ (have z0_ := GE274; Zf) hb); replace NB274_275 := am_ (((have z0_ := BK274; Zaf) : gb274 ≠ gb275)); replace NB275_274 := am_ (((have z0_ := BK274; Zag) : gb275 ≠ gb274)); replace BK274 := (have z0_ := BK274; bkZ hb); clear hb hbox hg) | ((with_reducible refine gate_dst (N := 5) rfl ?_); refine boxZ 5 #[.slice none 0 0, .slice none 0 0, .slice none 0 0] 32 ?_; intro gb276 hg w8 hbox hb; replace BK276 := am_ (hbox); replace GW276 := am_ (((have z0_ := GE274; have z1_ := GE275; Zh) : w.heap.size ≤ gb276)); replace GE276 := GW276; replace HB := (bsZ (have z0_ := GE274; have z1_ := GE275; Zi) hb); replace NB274_276 := am_ (((have z0_ := BK274; Zaf) : gb274 ≠ gb276)); replace NB276_274 := am_ (((have z0_ := BK274; Zag) : gb276 ≠ gb274)); replace BK274 := (have z0_ := BK274; bkZ hb); replace NB275_276 := am_ (((have z0_ := BK275; Zah) : gb275 ≠ gb276)); replace NB276_275 := am_ (((have z0_ := BK275; Zai) : gb276 ≠ gb275)); replace BK275 := (have z0_ := BK275; bkZ hb); clear hb hbox hg; have hnb9 := NB274_275.out; have hnc9 := NB275_274.out; have hnb10 := NB274_276.out; have hnc10 := NB276_274.out; refine ci3 BK274 ?_; intros) | ((with_reducible refine gate_callee (f := 70) rfl ?_); refine goesL_ (some 9) rfl rfl Try.func70 Zj rfl #[.slice A0_0 l0_0.length c0_0, .bool a1] rfl Zo ?_; (with_reducible refine (laws_toBarS.calls k _ _ l0_0 a1 t277 _ ?side1 ?side2 A3.out).mono ?_); (case side1 => exact (have z0_ := HR0_0; Zae)); (case side2 => exact HC0_0.out); rintro e w12 ⟨v278, rfl, ho0, hb⟩; refine ⟨_, rfl, ?_⟩; replace HO279 := am_ (Kd.R_lower ho0 (below_size (have z0_ := GE274; have z1_ := GE275; have z2_ := GE276; Zl))); replace BK274 := (have z0_ := BK274; bkZ hb); replace BK275 := (have z0_ := BK275; bkZ hb); replace BK276 := (have z0_ := BK276; bkZ hb); replace HB := (bsZ (have z0_ := GE274; have z1_ := GE275; have z2_ := GE276; Zl) hb); (try clear hb); (try clear hb2); (try clear hk); (try clear hi); (try clear ho0); obtain ⟨Ao13, co13, eo13⟩ := Kd.R_slice HO279.out; subst eo13; have hnb14 := NB276_275.out; have hnc14 := NB275_276.out; refine ci3 BK276 ?_; intros; refine ci3 BK274 ?_; intros) | ((with_reducible refine gate_callee (f := 71) rfl ?_); refine goesL_ (some 14) rfl rfl Try.func71 Zj rfl #[.slice A0_1 l0_1.length c0_1, .bool a1] rfl Zo ?_; (with_reducible refine (laws_toArticleS.calls k _ _ l0_1 a1 t280 _ ?side1 ?side2 A4.out).mono ?_); (case side1 => exact Kd.C_below HR0_1.out (have z0_ := GE274; have z1_ := GE275; have z2_ := GE276; Zl)); (case side2 => exact HC0_1.out); rintro e w17 ⟨v281, rfl, ho0, hb⟩; refine ⟨_, rfl, ?_⟩; replace HO279 := am_ (Kd.R_below (by (with_reducible repeat (first | apply Kd.R_alloc | apply Kd.R_drewN | apply Kd.R_drew)); exact (Kd.R_mono (Kd.R_far (p := ⟨gb276, 0, none⟩) (Kd.R_types HO279.out BK276.out (by decide)) (fun _ hk => hk.2) (.slice Ao13 t277.length co13)) (fun _ h_ => h_.1))) hb); replace HO282 := am_ (Kd.R_lower ho0 (below_size (have z0_ := GE274; have z1_ := GE275; have z2_ := GE276; Zl))); replace BK274 := am_ (blk_below (g := gb274) (o := .cells #[.slice A0_0 l0_0.length c0_0, .slice A0_1 l0_1.length c0_1, .slice A0_2 l0_2.length c0_2] 26 (0, 0)) (have z0_ := NB274_276; have z1_ := BK274; Zaj) hb); replace BK275 := am_ (blk_below (g := gb275) (o := .cells #[.slice none 0 0, .slice none 0 0, .slice none 0 0] 32 (0, 0)) (have z0_ := NB275_276; have z1_ := BK275; Zaj) hb); replace BK276 := am_ (blk_below (g := gb276) (o := .cells #[.slice Ao13 t277.length co13, .slice none 0 0, .slice none 0 0] 32 (0, 0)) (have z0_ := BK276; Zak) hb); replace HB := (bsZ (have z0_ := GE274; have z1_ := GE275; have z2_ := GE276; Zl) hb); (try clear hb); (try clear hb2); (try clear hk); (try clear hi); (try clear ho0); obtain ⟨Ao18, co18, eo18⟩ := Kd.R_slice HO282.out; subst eo18; refine ci3 BK276 ?_; intros; refine ci3 BK274 ?_; intros) | ((with_reducible refine gate_callee (f := 72) rfl ?_); refine goesL_ (some 19) rfl rfl Try.func72 Zj rfl #[.slice A0_2 l0_2.length c0_2, .bool a1] rfl Zo ?_; (with_reducible refine (laws_toCueS.calls k _ _ l0_2 a1 t283 _ ?side1 ?side2 A5.out).mono ?_); (case side1 => exact Kd.C_below HR0_2.out (have z0_ := GE274; have z1_ := GE275; have z2_ := GE276; Zl)); (case side2 => exact HC0_2.out); rintro e w21 ⟨v284, rfl, ho0, hb⟩; refine ⟨_, rfl, ?_⟩; replace HO279 := am_ (Kd.R_below (by (with_reducible repeat (first | apply Kd.R_alloc | apply Kd.R_drewN | apply Kd.R_drew)); exact (Kd.R_mono (Kd.R_far (p := ⟨gb276, 1, none⟩) (Kd.R_types HO279.out BK276.out (by decide)) (fun _ hk => hk.2) (.slice Ao18 t280.length co18)) (fun _ h_ => h_.1))) hb); replace HO282 := am_ (Kd.R_below (by (with_reducible repeat (first | apply Kd.R_alloc | apply Kd.R_drewN | apply Kd.R_drew)); exact (Kd.R_mono (Kd.R_far (p := ⟨gb276, 1, none⟩) (Kd.R_types HO282.out BK276.out (by decide)) (fun _ hk => hk.2) (.slice Ao18 t280.length co18)) (fun _ h_ => h_.1))) hb); replace HO285 := am_ (Kd.R_lower ho0 (below_size (have z0_ := GE274; have z1_ := GE275; have z2_ := GE276; Zl))); replace BK274 := am_ (blk_below (g := gb274) (o := .cells #[.slice A0_0 l0_0.length c0_0, .slice A0_1 l0_1.length c0_1, .slice A0_2 l0_2.length c0_2] 26 (0, 0)) (have z0_ := NB274_276; have z1_ := BK274; Zaj) hb); replace BK275 := am_ (blk_below (g := gb275) (o := .cells #[.slice none 0 0, .slice none 0 0, .slice none 0 0] 32 (0, 0)) (have z0_ := NB275_276; have z1_ := BK275; Zaj) hb); replace BK276 := am_ (blk_below (g := gb276) (o := .cells #[.slice Ao13 t277.length co13, .slice Ao18 t280.length co18, .slice none 0 0] 32 (0, 0)) (by (with_reducible repeat (first | refine blk_drewN ?_ _ | refine blk_drew ?_ | refine blk_alloc ?_ _)); refine blk_put (cs := #[.slice Ao13 t277.length co13, .slice none 0 0, .slice none 0 0]) ?_ 1 _ rfl; (with_reducible repeat (first | refine blk_drewN ?_ _ | refine blk_drew ?_ | refine blk_alloc ?_ _)); exact BK276.out) hb); replace HB := (bsZ (have z0_ := GE274; have z1_ := GE275; have z2_ := GE276; Zl) hb); (try clear hb); (try clear hb2); (try clear hk); (try clear hi); (try clear ho0); obtain ⟨Ao22, co22, eo22⟩ := Kd.R_slice HO285.out; subst eo22; refine ci3 BK276 ?_; intros; refine ci3 BK275 ?_; intros))
 refine bodyPost_ret (results_cell_row rfl _ _ gb275 32 #[.slice Ao13 t277.length co13, .slice Ao18 t280.length co18, .slice Ao22 t283.length co22] (0, 0) _ rfl (by (with_reducible repeat (first | refine blk_drewN ?_ _ | refine blk_drew ?_ | refine blk_alloc ?_ _)); refine blk_put (cs := #[.slice Ao13 t277.length co13, .slice Ao18 t280.length co18, .slice none 0 0]) ?_ 2 _ rfl; refine blk_put (cs := #[.slice Ao13 t277.length co13, .slice none 0 0, .slice none 0 0]) ?_ 1 _ rfl; refine blk_put (cs := #[.slice none 0 0, .slice none 0 0, .slice none 0 0]) ?_ 0 _ rfl; (with_reducible repeat (first | refine blk_drewN ?_ _ | refine blk_drew ?_ | refine blk_alloc ?_ _)); refine blk_far ?_ NB275_276.out _; (with_reducible repeat (first | refine blk_drewN ?_ _ | refine blk_drew ?_ | refine blk_alloc ?_ _)); exact BK275.out) Try.underlying32 rfl Zj) rfl ?_; exact ⟨_, _, _, Zk, (have z0_ := HO279; have z1_ := BK276; have z2_ := BK275; Zal), (have z0_ := HO282; have z1_ := BK276; have z2_ := BK275; Zal), (have z0_ := HO285; have z1_ := BK276; have z2_ := BK275; Zal), (have z0_ := GE274; have z1_ := GE275; have z2_ := GE276; Zl)⟩
def laws_eqShow.f (k : Nat) (l0_0 : List (S108)) (l0_1 : List (S92)) (l0_2 : List (S43)) (l1_0 : List (S108)) (l1_1 : List (S92)) (l1_2 : List (S43)) : Option (Bool) := (laws_eqBarS.f k l0_0 l1_0).bind fun t392 => (if t392 = true then ((laws_eqArticleS.f k l0_1 l1_1).bind fun t393 => (if t393 = true then ((laws_eqCueS.f k l0_2 l1_2).bind fun t394 => (if t394 = true then (some true) else (some false))) else (some false))) else (some false))
set_option maxHeartbeats 8000000 in
set_option maxRecDepth 100000 in
theorem laws_eqShow.calls (k : Nat) (A0_0 : Option Addr) (c0_0 : Nat) (l0_0 : List (S108)) (A0_1 : Option Addr) (c0_1 : Nat) (l0_1 : List (S92)) (A0_2 : Option Addr) (c0_2 : Nat) (l0_2 : List (S43)) (A1_0 : Option Addr) (c1_0 : Nat) (l1_0 : List (S108)) (A1_1 : Option Addr) (c1_1 : Nat) (l1_1 : List (S92)) (A1_2 : Option Addr) (c1_2 : Nat) (l1_2 : List (S43)) (r : Bool) (w : World) (hr0_0 : Kd.C k108 w A0_0 l0_0.length l0_0) (hc0_0 : l0_0.length ≤ c0_0) (hr0_1 : Kd.C k92 w A0_1 l0_1.length l0_1) (hc0_1 : l0_1.length ≤ c0_1) (hr0_2 : Kd.C k43 w A0_2 l0_2.length l0_2) (hc0_2 : l0_2.length ≤ c0_2) (hr1_0 : Kd.C k108 w A1_0 l1_0.length l1_0) (hc1_0 : l1_0.length ≤ c1_0) (hr1_1 : Kd.C k92 w A1_1 l1_1.length l1_1) (hc1_1 : l1_1.length ≤ c1_1) (hr1_2 : Kd.C k43 w A1_2 l1_2.length l1_2) (hc1_2 : l1_2.length ≤ c1_2) (h : laws_eqShow.f k l0_0 l0_1 l0_2 l1_0 l1_1 l1_2 = some r) (hr_ : r = true := by rfl) :
  Calls Try.prog 23 #[.agg #[.slice A0_0 l0_0.length c0_0, .slice A0_1 l0_1.length c0_1, .slice A0_2 l0_2.length c0_2], .agg #[.slice A1_0 l1_0.length c1_0, .slice A1_1 l1_1.length c1_1, .slice A1_2 l1_2.length c1_2]] w fun e w' => e = .returned (.bool r) ∧ Below w.heap.size w w' := by
 have HR_ := am_ hr_; clear hr_; have hu32 := Try.underlying32; have HR0_0 := am_ hr0_0; have HC0_0 := am_ hc0_0; clear hr0_0 hc0_0; have HR0_1 := am_ hr0_1; have HC0_1 := am_ hc0_1; clear hr0_1 hc0_1; have HR0_2 := am_ hr0_2; have HC0_2 := am_ hc0_2; clear hr0_2 hc0_2; have HR1_0 := am_ hr1_0; have HC1_0 := am_ hc1_0; clear hr1_0 hc1_0; have HR1_1 := am_ hr1_1; have HC1_1 := am_ hc1_1; clear hr1_1 hc1_1; have HR1_2 := am_ hr1_2; have HC1_2 := am_ hc1_2; clear hr1_2 hc1_2; have HB := am_ (Below.refl w.heap.size w); have H : ((laws_eqBarS.f k l0_0 l1_0).bind fun t392 => (if t392 = true then ((laws_eqArticleS.f k l0_1 l1_1).bind fun t393 => (if t393 = true then ((laws_eqCueS.f k l0_2 l1_2).bind fun t394 => (if t394 = true then (some true) else (some false))) else (some false))) else (some false))) = some r := h; clear h; replace H := Option.bind_eq_some_iff.mp H; obtain ⟨t392, A30, H⟩ := H; have A3 := am_ A30; clear A30
 by_cases c4 : t392 = true
 ·subst c4
  have H1 : ((laws_eqArticleS.f k l0_1 l1_1).bind fun t393 => (if t393 = true then ((laws_eqCueS.f k l0_2 l1_2).bind fun t394 => (if t394 = true then (some true) else (some false))) else (some false))) = some r := by rw [if_pos rfl] at H; exact H
  clear H; have H := H1; clear H1; replace H := Option.bind_eq_some_iff.mp H; obtain ⟨t393, A50, H⟩ := H; have A5 := am_ A50; clear A50
  by_cases c6 : t393 = true
  ·subst c6
   have H1 : ((laws_eqCueS.f k l0_2 l1_2).bind fun t394 => (if t394 = true then (some true) else (some false))) = some r := by rw [if_pos rfl] at H; exact H
   clear H; have H := H1; clear H1; replace H := Option.bind_eq_some_iff.mp H; obtain ⟨t394, A70, H⟩ := H; have A7 := am_ A70; clear A70
   by_cases c8 : t394 = true
   ·subst c8
    have H1 : (some true) = some r := by rw [if_pos rfl] at H; exact H
    clear H; have H := H1; clear H1; obtain rfl := Option.some.inj H
    go_enter Try.func23, Try.ntmps23
    go_wp2_with (first | ((with_reducible refine gate_dst (N := 2) rfl ?_); refine boxZ 2 #[.slice A0_0 l0_0.length c0_0, .slice A0_1 l0_1.length c0_1, .slice A0_2 l0_2.length c0_2] 32 ?_; intro gb390 hg w9 hbox hb; replace BK390 := am_ (hbox); replace GW390 := am_ ((Zc : w.heap.size ≤ gb390)); replace GE390 := GW390; replace HB := (bsZ Zd hb); clear hb hbox hg) | ((with_reducible refine gate_dst (N := 3) rfl ?_); refine boxZ 3 #[.slice A1_0 l1_0.length c1_0, .slice A1_1 l1_1.length c1_1, .slice A1_2 l1_2.length c1_2] 32 ?_; intro gb391 hg w10 hbox hb; replace BK391 := am_ (hbox); replace GW391 := am_ (((have z0_ := GE390; Ze) : w.heap.size ≤ gb391)); replace GE391 := GW391; replace HB := (bsZ (have z0_ := GE390; Zf) hb); replace NB390_391 := am_ ((by rw [hg]; exact Nat.ne_of_lt (blk_lt (g := gb390) (o := .cells #[.slice A0_0 l0_0.length c0_0, .slice A0_1 l0_1.length c0_1, .slice A0_2 l0_2.length c0_2] 32 (0, 0)) (have z0_ := BK390; Zg)) : gb390 ≠ gb391)); replace NB391_390 := am_ ((by rw [hg]; exact Nat.ne_of_gt (blk_lt (g := gb390) (o := .cells #[.slice A0_0 l0_0.length c0_0, .slice A0_1 l0_1.length c0_1, .slice A0_2 l0_2.length c0_2] 32 (0, 0)) (have z0_ := BK390; Zg)) : gb391 ≠ gb390)); replace BK390 := (have z0_ := BK390; bkZ hb); clear hb hbox hg; have hnb11 := NB390_391.out; have hnc11 := NB391_390.out; refine ci3 BK390 ?_; intros; refine ci3 BK391 ?_; intros) | ((with_reducible refine gate_callee (f := 75) rfl ?_); refine goesL_ (some 9) rfl rfl Try.func75 Zj rfl #[.slice A0_0 l0_0.length c0_0, .slice A1_0 l1_0.length c1_0] rfl Zo ?_; (with_reducible refine (laws_eqBarS.calls k _ _ l0_0 _ _ l1_0 true _ ?side1 ?side2 ?side3 ?side4 A3.out).mono ?_); (case side1 => exact (have z0_ := HR0_0; Zae)); (case side2 => exact HC0_0.out); (case side3 => exact (have z0_ := HR1_0; Zae)); (case side4 => exact HC1_0.out); rintro e w14 ⟨rfl, hb⟩; refine ⟨_, rfl, ?_⟩; replace BK390 := (have z0_ := BK390; bkZ hb); replace BK391 := (have z0_ := BK391; bkZ hb); replace HB := (bsZ (have z0_ := GE390; have z1_ := GE391; Zi) hb); (try clear hb); (try clear hb2); (try clear hk); (try clear hi); refine ci3 BK390 ?_; intros; refine ci3 BK391 ?_; intros) | ((with_reducible refine gate_callee (f := 76) rfl ?_); refine goesL_ (some 15) rfl rfl Try.func76 Zj rfl #[.slice A0_1 l0_1.length c0_1, .slice A1_1 l1_1.length c1_1] rfl Zo ?_; (with_reducible refine (laws_eqArticleS.calls k _ _ l0_1 _ _ l1_1 true _ ?side1 ?side2 ?side3 ?side4 A5.out).mono ?_); (case side1 => exact (have z0_ := HR0_1; Zae)); (case side2 => exact HC0_1.out); (case side3 => exact (have z0_ := HR1_1; Zae)); (case side4 => exact HC1_1.out); rintro e w17 ⟨rfl, hb⟩; refine ⟨_, rfl, ?_⟩; replace BK390 := (have z0_ := BK390; bkZ hb); replace BK391 := (have z0_ := BK391; bkZ hb); replace HB := (bsZ (have z0_ := GE390; have z1_ := GE391; Zi) hb); (try clear hb); (try clear hb2); (try clear hk); (try clear hi); refine ci3 BK390 ?_; intros; refine ci3 BK391 ?_; intros) | ((with_reducible refine gate_callee (f := 77) rfl ?_); refine goesL_ (some 21) rfl rfl Try.func77 Zj rfl #[.slice A0_2 l0_2.length c0_2, .slice A1_2 l1_2.length c1_2] rfl Zo ?_; (with_reducible refine (laws_eqCueS.calls k _ _ l0_2 _ _ l1_2 true _ ?side1 ?side2 ?side3 ?side4 A7.out).mono ?_); (case side1 => exact (have z0_ := HR0_2; Zae)); (case side2 => exact HC0_2.out); (case side3 => exact (have z0_ := HR1_2; Zae)); (case side4 => exact HC1_2.out); rintro e w20 ⟨rfl, hb⟩; refine ⟨_, rfl, ?_⟩; replace BK390 := (have z0_ := BK390; bkZ hb); replace BK391 := (have z0_ := BK391; bkZ hb); replace HB := (bsZ (have z0_ := GE390; have z1_ := GE391; Zi) hb); (try clear hb); (try clear hb2); (try clear hk); (try clear hi)))
    go_ret
    exact ⟨Zk, (have z0_ := GE390; have z1_ := GE391; Zi)⟩
   ·replace c8 := Bool.eq_false_iff.mpr c8
    subst c8
    have H1 : (some false) = some r := by rw [if_neg (show ¬ (false = true) by decide)] at H; exact H
    clear H; have H := H1; clear H1; exact absurd ((Option.some.inj H).trans HR_.out) (by decide)
  ·replace c6 := Bool.eq_false_iff.mpr c6
   subst c6
   have H1 : (some false) = some r := by rw [if_neg (show ¬ (false = true) by decide)] at H; exact H
   clear H; have H := H1; clear H1; exact absurd ((Option.some.inj H).trans HR_.out) (by decide)
 ·replace c4 := Bool.eq_false_iff.mpr c4
  subst c4
  have H1 : (some false) = some r := by rw [if_neg (show ¬ (false = true) by decide)] at H; exact H
  clear H; have H := H1; clear H1; exact absurd ((Option.some.inj H).trans HR_.out) (by decide)
def laws_markShow.f (k : Nat) (l0_0 : List (S108)) (l0_1 : List (S92)) (l0_2 : List (S43)) (a1 : Int) : Option (Int × (List (S108)) × (List (S92)) × (List (S43))) := (laws_markBarS.f k l0_0 a1).bind fun bt451 => ((laws_markArticleS.f k l0_1 bt451.1).bind fun bt453 => ((laws_markCueS.f k l0_2 bt453.1).bind fun bt455 => (some (bt455.1, bt451.2, bt453.2, bt455.2))))
set_option maxHeartbeats 8000000 in
set_option maxRecDepth 100000 in
theorem laws_markShow.calls (k : Nat) (P0_0_ : Nat → Prop) (u9000_ : Value) (l0_0 : List (S108)) (P0_1_ : Nat → Prop) (u9001_ : Value) (l0_1 : List (S92)) (P0_2_ : Nat → Prop) (u9002_ : Value) (l0_2 : List (S43)) (a1 : Int) (r1 : Int) (r2 : List (S108)) (r3 : List (S92)) (r4 : List (S43)) (w0 w : World) (hB : Below w0.heap.size w0 w) (ho0_0 : Kd.R k108 108 w w0.heap.size P0_0_ u9000_ l0_0) (ho0_1 : Kd.R k92 92 w w0.heap.size P0_1_ u9001_ l0_1) (ho0_2 : Kd.R k43 43 w w0.heap.size P0_2_ u9002_ l0_2) (h : laws_markShow.f k l0_0 l0_1 l0_2 a1 = some (r1, r2, r3, r4)) :
  Calls Try.prog 25 #[.agg #[u9000_, u9001_, u9002_], .int .i64 a1] w fun e w' => e = .returned (.int .i64 r1) ∧ Kd.R k108 108 w' w0.heap.size (fun k_ => ((P0_0_ k_ ∨ P0_1_ k_ ∨ P0_2_ k_) ∨ w.heap.size ≤ k_)) u9000_ r2 ∧ Kd.R k92 92 w' w0.heap.size (fun k_ => ((P0_0_ k_ ∨ P0_1_ k_ ∨ P0_2_ k_) ∨ w.heap.size ≤ k_)) u9001_ r3 ∧ Kd.R k43 43 w' w0.heap.size (fun k_ => ((P0_0_ k_ ∨ P0_1_ k_ ∨ P0_2_ k_) ∨ w.heap.size ≤ k_)) u9002_ r4 ∧ Below w0.heap.size w0 w' ∧ Kept w w' (fun k_ => P0_0_ k_ ∨ P0_1_ k_ ∨ P0_2_ k_) := by
 have hu32 := Try.underlying32; have HO0_0 := am_ (show Kd.R k108 108 w w0.heap.size (fun k_ => ((P0_0_ k_ ∨ P0_1_ k_ ∨ P0_2_ k_) ∨ w.heap.size ≤ k_)) u9000_ l0_0 from Kd.R_mono ho0_0 (fun k_ hk => (.inl (.inl hk)))); have HO0_1 := am_ (show Kd.R k92 92 w w0.heap.size (fun k_ => ((P0_0_ k_ ∨ P0_1_ k_ ∨ P0_2_ k_) ∨ w.heap.size ≤ k_)) u9001_ l0_1 from Kd.R_mono ho0_1 (fun k_ hk => (.inl (.inr (.inl hk))))); have HO0_2 := am_ (show Kd.R k43 43 w w0.heap.size (fun k_ => ((P0_0_ k_ ∨ P0_1_ k_ ∨ P0_2_ k_) ∨ w.heap.size ≤ k_)) u9002_ l0_2 from Kd.R_mono ho0_2 (fun k_ hk => (.inl (.inr (.inr hk))))); have HK := am_ (Kept.refl w (fun k_ => P0_0_ k_ ∨ P0_1_ k_ ∨ P0_2_ k_)); have HW0 := am_ hB.size; have HB := am_ hB; clear hB; have H : ((laws_markBarS.f k l0_0 a1).bind fun bt451 => ((laws_markArticleS.f k l0_1 bt451.1).bind fun bt453 => ((laws_markCueS.f k l0_2 bt453.1).bind fun bt455 => (some (bt455.1, bt451.2, bt453.2, bt455.2))))) = some (r1, r2, r3, r4) := h; clear h; replace H := Option.bind_eq_some_iff.mp H; obtain ⟨⟨t451, t452⟩, A30, H⟩ := H; replace H : ((laws_markArticleS.f k l0_1 t451).bind fun bt453 => ((laws_markCueS.f k l0_2 bt453.1).bind fun bt455 => (some (bt455.1, t452, bt453.2, bt455.2)))) = some (r1, r2, r3, r4) := H; have A3 := am_ A30; clear A30; replace H := Option.bind_eq_some_iff.mp H; obtain ⟨⟨t453, t454⟩, A40, H⟩ := H; replace H : ((laws_markCueS.f k l0_2 t453).bind fun bt455 => (some (bt455.1, t452, t454, bt455.2))) = some (r1, r2, r3, r4) := H; have A4 := am_ A40; clear A40; replace H := Option.bind_eq_some_iff.mp H; obtain ⟨⟨t455, t456⟩, A50, H⟩ := H; replace H : (some (t455, t452, t454, t456)) = some (r1, r2, r3, r4) := H; have A5 := am_ A50; clear A50; simp only [Option.some.injEq, Prod.mk.injEq] at H; obtain ⟨rfl, rfl, rfl, rfl⟩ := H; obtain ⟨Ao6, co6, eo6⟩ := Kd.R_slice HO0_0.out; subst eo6; obtain ⟨Ao7, co7, eo7⟩ := Kd.R_slice HO0_1.out; subst eo7; obtain ⟨Ao8, co8, eo8⟩ := Kd.R_slice HO0_2.out; subst eo8
 go_enter Try.func25, Try.ntmps25
 go_wp2_with (first | ((with_reducible refine gate_dst (N := 2) rfl ?_); refine boxZ 2 #[.slice Ao6 l0_0.length co6, .slice Ao7 l0_1.length co7, .slice Ao8 l0_2.length co8] 32 ?_; intro gb450 hg w9 hbox hb; replace HO0_0 := am_ (Kd.R_below (by (with_reducible repeat (first | apply Kd.R_alloc | apply Kd.R_drewN | apply Kd.R_drew)); exact HO0_0.out) hb); replace HO0_1 := am_ (Kd.R_below (by (with_reducible repeat (first | apply Kd.R_alloc | apply Kd.R_drewN | apply Kd.R_drew)); exact HO0_1.out) hb); replace HO0_2 := am_ (Kd.R_below (by (with_reducible repeat (first | apply Kd.R_alloc | apply Kd.R_drewN | apply Kd.R_drew)); exact HO0_2.out) hb); replace BK450 := am_ (hbox); replace GW450 := am_ ((by rw [hg]; exact (by first | exact HK.out.1 | exact (show Kept w _ (fun k_ => P0_0_ k_ ∨ P0_1_ k_ ∨ P0_2_ k_) from by repeat (first | (with_reducible first | exact HK.out | apply Kept.alloc | apply Kept.drewN | apply Kept.drew) | exact HK.out)).1) : w.heap.size ≤ gb450)); replace HK := am_ (Kept.below (S := (fun k_ => P0_0_ k_ ∨ P0_1_ k_ ∨ P0_2_ k_)) Zu hb); replace GE450 := am_ ((Zc : w0.heap.size ≤ gb450)); replace HB := (bsZ Zd hb); clear hb hbox hg; refine ci3 BK450 ?_; intros) | ((with_reducible refine gate_callee (f := 81) rfl ?_); refine goesL_ (some 8) rfl rfl Try.func81 Zj rfl #[.slice Ao6 l0_0.length co6, .int .i64 a1] rfl Zo ?_; (with_reducible refine (laws_markBarS.calls k (fun k_ => some k_ = (.slice Ao6 l0_0.length co6 : Value).ownBlock) (.slice Ao6 l0_0.length co6) l0_0 a1 t451 t452 w0 _ ?side1 ?side2 A3.out).mono ?_); (case side1 => repeat (first | (with_reducible first | exact HB.out | apply below_alloc | apply pw_below_drewN | apply below_drew1 | refine below_set ?_ GE450.out) | exact HB.out)); (case side2 => exact Kd.R_tight rfl HO0_0.out); rintro e w11 ⟨rfl, hy0, hb, hkp⟩; refine ⟨_, rfl, ?_⟩; replace HO0_1 := am_ (Kd.R_mono (ok' := fun k_ => ((P0_0_ k_ ∨ P0_1_ k_ ∨ P0_2_ k_) ∨ w.heap.size ≤ k_)) (Kd.R_keptB ((Kd.R_apart' HO0_1.out (Kd.R_typed HO0_0.out) (by decide))) hkp (fun k_ hk_ hs_ => (hk_.2) hs_)) (fun k_ hk_ => hk_.1.1)); replace HO0_2 := am_ (Kd.R_mono (ok' := fun k_ => ((P0_0_ k_ ∨ P0_1_ k_ ∨ P0_2_ k_) ∨ w.heap.size ≤ k_)) (Kd.R_keptB ((Kd.R_apart' HO0_2.out (Kd.R_typed HO0_0.out) (by decide))) hkp (fun k_ hk_ hs_ => (hk_.2) hs_)) (fun k_ hk_ => hk_.1.1)); replace BK450 := am_ (blk_kept (have z0_ := BK450; Zg) hkp (fun hs_ => (fun e_ => (Kd.R_ne HO0_0.out BK450.out (by decide)) e_) hs_)); replace HK := am_ (Kept.then_ (S := (fun k_ => P0_0_ k_ ∨ P0_1_ k_ ∨ P0_2_ k_)) (have z0_ := GW450; Zam) hkp (fun k_ hs_ => (fun e_ => (HO0_0.out.1 k_ e_.symm)) hs_)); replace HO0_0 := am_ (Kd.R_reok rfl hy0 (fun k_ e_ => HO0_0.out.1 k_ e_)); replace HB := am_ (hb); (try clear hb); (try clear hkp); (try clear hy0); refine ci3 BK450 ?_; intros) | ((with_reducible refine gate_callee (f := 82) rfl ?_); refine goesL_ (some 12) rfl rfl Try.func82 Zj rfl #[.slice Ao7 l0_1.length co7, .int .i64 t451] rfl Zo ?_; (with_reducible refine (laws_markArticleS.calls k (fun k_ => some k_ = (.slice Ao7 l0_1.length co7 : Value).ownBlock) (.slice Ao7 l0_1.length co7) l0_1 t451 t453 t454 w0 _ ?side1 ?side2 A4.out).mono ?_); (case side1 => repeat (first | (with_reducible first | exact HB.out | apply below_alloc | apply pw_below_drewN | apply below_drew1 | refine below_set ?_ GE450.out) | exact HB.out)); (case side2 => exact Kd.R_tight rfl HO0_1.out); rintro e w13 ⟨rfl, hy0, hb, hkp⟩; refine ⟨_, rfl, ?_⟩; replace HO0_0 := am_ (Kd.R_mono (ok' := fun k_ => ((P0_0_ k_ ∨ P0_1_ k_ ∨ P0_2_ k_) ∨ w.heap.size ≤ k_)) (Kd.R_keptB ((Kd.R_apart' HO0_0.out (Kd.R_typed HO0_1.out) (by decide))) hkp (fun k_ hk_ hs_ => (hk_.2) hs_)) (fun k_ hk_ => hk_.1.1)); replace HO0_2 := am_ (Kd.R_mono (ok' := fun k_ => ((P0_0_ k_ ∨ P0_1_ k_ ∨ P0_2_ k_) ∨ w.heap.size ≤ k_)) (Kd.R_keptB ((Kd.R_apart' HO0_2.out (Kd.R_typed HO0_1.out) (by decide))) hkp (fun k_ hk_ hs_ => (hk_.2) hs_)) (fun k_ hk_ => hk_.1.1)); replace BK450 := am_ (blk_kept (have z0_ := BK450; Zg) hkp (fun hs_ => (fun e_ => (Kd.R_ne HO0_1.out BK450.out (by decide)) e_) hs_)); replace HK := am_ (Kept.then_ (S := (fun k_ => P0_0_ k_ ∨ P0_1_ k_ ∨ P0_2_ k_)) (have z0_ := GW450; Zam) hkp (fun k_ hs_ => (fun e_ => (HO0_1.out.1 k_ e_.symm)) hs_)); replace HO0_1 := am_ (Kd.R_reok rfl hy0 (fun k_ e_ => HO0_1.out.1 k_ e_)); replace HB := am_ (hb); (try clear hb); (try clear hkp); (try clear hy0); refine ci3 BK450 ?_; intros) | ((with_reducible refine gate_callee (f := 83) rfl ?_); refine goesL_ (some 16) rfl rfl Try.func83 Zj rfl #[.slice Ao8 l0_2.length co8, .int .i64 t453] rfl Zo ?_; (with_reducible refine (laws_markCueS.calls k (fun k_ => some k_ = (.slice Ao8 l0_2.length co8 : Value).ownBlock) (.slice Ao8 l0_2.length co8) l0_2 t453 t455 t456 w0 _ ?side1 ?side2 A5.out).mono ?_); (case side1 => repeat (first | (with_reducible first | exact HB.out | apply below_alloc | apply pw_below_drewN | apply below_drew1 | refine below_set ?_ GE450.out) | exact HB.out)); (case side2 => exact Kd.R_tight rfl HO0_2.out); rintro e w15 ⟨rfl, hy0, hb, hkp⟩; refine ⟨_, rfl, ?_⟩; replace HO0_0 := am_ (Kd.R_mono (ok' := fun k_ => ((P0_0_ k_ ∨ P0_1_ k_ ∨ P0_2_ k_) ∨ w.heap.size ≤ k_)) (Kd.R_keptB ((Kd.R_apart' HO0_0.out (Kd.R_typed HO0_2.out) (by decide))) hkp (fun k_ hk_ hs_ => (hk_.2) hs_)) (fun k_ hk_ => hk_.1.1)); replace HO0_1 := am_ (Kd.R_mono (ok' := fun k_ => ((P0_0_ k_ ∨ P0_1_ k_ ∨ P0_2_ k_) ∨ w.heap.size ≤ k_)) (Kd.R_keptB ((Kd.R_apart' HO0_1.out (Kd.R_typed HO0_2.out) (by decide))) hkp (fun k_ hk_ hs_ => (hk_.2) hs_)) (fun k_ hk_ => hk_.1.1)); replace BK450 := am_ (blk_kept (have z0_ := BK450; Zg) hkp (fun hs_ => (fun e_ => (Kd.R_ne HO0_2.out BK450.out (by decide)) e_) hs_)); replace HK := am_ (Kept.then_ (S := (fun k_ => P0_0_ k_ ∨ P0_1_ k_ ∨ P0_2_ k_)) (have z0_ := GW450; Zam) hkp (fun k_ hs_ => (fun e_ => (HO0_2.out.1 k_ e_.symm)) hs_)); replace HO0_2 := am_ (Kd.R_reok rfl hy0 (fun k_ e_ => HO0_2.out.1 k_ e_)); replace HB := am_ (hb); (try clear hb); (try clear hkp); (try clear hy0)))
 go_ret
 exact ⟨Zk, by (with_reducible repeat (first | apply Kd.R_alloc | apply Kd.R_drewN | apply Kd.R_drew)); exact HO0_0.out, by (with_reducible repeat (first | apply Kd.R_alloc | apply Kd.R_drewN | apply Kd.R_drew)); exact HO0_1.out, by (with_reducible repeat (first | apply Kd.R_alloc | apply Kd.R_drewN | apply Kd.R_drew)); exact HO0_2.out, (have z0_ := GE450; Zf), (have z0_ := GW450; Zam)⟩
def laws_heldShow.f (k : Nat) (l0_0 : List (S108)) (l0_1 : List (S92)) (l0_2 : List (S43)) (a1 : Int) : Option (Int) := (laws_heldBarS.f k l0_0 a1).bind fun t475 => (if t475 < 0 then (some (-1)) else ((laws_heldArticleS.f k l0_1 t475).bind fun t476 => (if t476 < 0 then (some (-1)) else ((laws_heldCueS.f k l0_2 t476).bind fun t477 => (if t477 < 0 then (some (-1)) else (some t477))))))
set_option maxHeartbeats 8000000 in
set_option maxRecDepth 100000 in
theorem laws_heldShow.calls (k : Nat) (A0_0 : Option Addr) (c0_0 : Nat) (l0_0 : List (S108)) (A0_1 : Option Addr) (c0_1 : Nat) (l0_1 : List (S92)) (A0_2 : Option Addr) (c0_2 : Nat) (l0_2 : List (S43)) (a1 : Int) (r : Int) (w : World) (hr0_0 : Kd.C k108 w A0_0 l0_0.length l0_0) (hc0_0 : l0_0.length ≤ c0_0) (hr0_1 : Kd.C k92 w A0_1 l0_1.length l0_1) (hc0_1 : l0_1.length ≤ c0_1) (hr0_2 : Kd.C k43 w A0_2 l0_2.length l0_2) (hc0_2 : l0_2.length ≤ c0_2) (h : laws_heldShow.f k l0_0 l0_1 l0_2 a1 = some r) (hr_ : 0 ≤ r := by first | exact HF.out.mg0 | exact Int.not_lt.1 (of_decide_eq_false (by assumption))) :
  Calls Try.prog 26 #[.agg #[.slice A0_0 l0_0.length c0_0, .slice A0_1 l0_1.length c0_1, .slice A0_2 l0_2.length c0_2], .int .i64 a1] w fun e w' => e = .returned (.int .i64 r) ∧ Below w.heap.size w w' := by
 have HR_ := am_ hr_; clear hr_; have hu32 := Try.underlying32; have HR0_0 := am_ hr0_0; have HC0_0 := am_ hc0_0; clear hr0_0 hc0_0; have HR0_1 := am_ hr0_1; have HC0_1 := am_ hc0_1; clear hr0_1 hc0_1; have HR0_2 := am_ hr0_2; have HC0_2 := am_ hc0_2; clear hr0_2 hc0_2; have HB := am_ (Below.refl w.heap.size w); have H : ((laws_heldBarS.f k l0_0 a1).bind fun t475 => (if t475 < 0 then (some (-1)) else ((laws_heldArticleS.f k l0_1 t475).bind fun t476 => (if t476 < 0 then (some (-1)) else ((laws_heldCueS.f k l0_2 t476).bind fun t477 => (if t477 < 0 then (some (-1)) else (some t477))))))) = some r := h; clear h; replace H := Option.bind_eq_some_iff.mp H; obtain ⟨t475, A30, H⟩ := H; have A3 := am_ A30; clear A30
 by_cases c4 : t475 < 0
 ·rw [if_pos c4] at H
  have c4b0 := decide_eq_true c4; clear c4; exact absurd HR_.out Zaa
 ·rw [if_neg c4] at H
  have c4b0 := decide_eq_false c4; clear c4; replace H := Option.bind_eq_some_iff.mp H; obtain ⟨t476, A70, H⟩ := H; have A7 := am_ A70; clear A70
  by_cases c8 : t476 < 0
  ·rw [if_pos c8] at H
   have c8b0 := decide_eq_true c8; clear c8; exact absurd HR_.out Zaa
  ·rw [if_neg c8] at H
   have c8b0 := decide_eq_false c8; clear c8; replace H := Option.bind_eq_some_iff.mp H; obtain ⟨t477, A120, H⟩ := H; have A12 := am_ A120; clear A120
   by_cases c13 : t477 < 0
   ·rw [if_pos c13] at H
    have c13b0 := decide_eq_true c13; clear c13; exact absurd HR_.out Zaa
   ·rw [if_neg c13] at H
    have c13b0 := decide_eq_false c13; clear c13; obtain rfl := Option.some.inj H
    go_enter Try.func26, Try.ntmps26
    go_wp2_with (first | ((with_reducible refine gate_dst (N := 2) rfl ?_); refine boxZ 2 #[.slice A0_0 l0_0.length c0_0, .slice A0_1 l0_1.length c0_1, .slice A0_2 l0_2.length c0_2] 32 ?_; intro gb474 hg w19 hbox hb; replace BK474 := am_ (hbox); replace GW474 := am_ ((Zc : w.heap.size ≤ gb474)); replace GE474 := GW474; replace HB := (bsZ Zd hb); clear hb hbox hg; refine ci3 BK474 ?_; intros) | ((with_reducible refine gate_callee (f := 84) rfl ?_); refine goesL_ (some 8) rfl rfl Try.func84 Zj rfl #[.slice A0_0 l0_0.length c0_0, .int .i64 a1] rfl Zo ?_; (with_reducible refine (laws_heldBarS.calls k _ _ l0_0 a1 t475 _ ?side1 ?side2 A3.out).mono ?_); (case side1 => exact (have z0_ := HR0_0; Zae)); (case side2 => exact HC0_0.out); rintro e w' ⟨rfl, ⟨nd, rfl⟩⟩; refine ⟨_, rfl, ?_⟩) | ((with_reducible refine gate_callee (f := 85) rfl ?_); refine goesL_ (some 14) rfl rfl Try.func85 Zj rfl #[.slice A0_1 l0_1.length c0_1, .int .i64 t475] rfl Zo ?_; (with_reducible refine (laws_heldArticleS.calls k _ _ l0_1 t475 t476 _ ?side1 ?side2 A7.out).mono ?_); (case side1 => repeat (first | exact (Kd.C_below HR0_1.out (have z0_ := GE474; Zf)) | (with_reducible refine Kd.C_alloc ?_ _) | (with_reducible refine Kd.C_drewN ?_ _) | (with_reducible refine Kd.C_drew ?_))); (case side2 => exact HC0_1.out); rintro e w21 ⟨rfl, hb⟩; refine ⟨_, rfl, ?_⟩; replace BK474 := (have z0_ := BK474; bkZ hb); replace HB := (bsZ (have z0_ := GE474; Zf) hb); (try clear hb); (try clear hb2); (try clear hk); (try clear hi); refine ci3 BK474 ?_; intros) | ((with_reducible refine gate_callee (f := 86) rfl ?_); refine goesL_ (some 20) rfl rfl Try.func86 Zj rfl #[.slice A0_2 l0_2.length c0_2, .int .i64 t476] rfl Zo ?_; (with_reducible refine (laws_heldCueS.calls k _ _ l0_2 t476 t477 _ ?side1 ?side2 A12.out).mono ?_); (case side1 => exact (have z0_ := HR0_2; Zae)); (case side2 => exact HC0_2.out); rintro e w23 ⟨rfl, hb⟩; refine ⟨_, rfl, ?_⟩; replace BK474 := (have z0_ := BK474; bkZ hb); replace HB := (bsZ (have z0_ := GE474; Zf) hb); (try clear hb); (try clear hb2); (try clear hk); (try clear hi)))
    go_ret
    exact ⟨Zk, (have z0_ := GE474; Zf)⟩
end Go.Proofs.Ytnlbaflbhicooaa.F
namespace Go.Proofs.Ytnlbaflbhicooaa.F
open Go.RowKit Go.Proofs.YtnlbaflbhicooaaW.PrintWords Go.Proofs.YtnlbaflbhicooaaW.PrintLast Go.Proofs.YtnlbaflbhicooaaW.PrintMore
set_option linter.unusedVariables false
set_option linter.unusedSimpArgs false
attribute [local go_sem] max2_int min2_int max_two min_two max_three min_three max_four min_four
def full_toShow.f (k : Nat) (l0_0 : List (S110)) (l0_1 : List (S105)) (l0_2 : List (S40)) (a1 : Bool) : Option ((List (S108)) × (List (S92)) × (List (S43))) := (full_toBarS.f k l0_0 a1).bind fun t277 => ((full_toArticleS.f k l0_1 a1).bind fun t280 => ((full_toCueS.f k l0_2 a1).bind fun t283 => (some (t277, t280, t283))))
set_option maxHeartbeats 8000000 in
set_option maxRecDepth 100000 in
theorem full_toShow.calls (k : Nat) (A0_0 : Option Addr) (c0_0 : Nat) (l0_0 : List (S110)) (A0_1 : Option Addr) (c0_1 : Nat) (l0_1 : List (S105)) (A0_2 : Option Addr) (c0_2 : Nat) (l0_2 : List (S40)) (a1 : Bool) (r1 : List (S108)) (r2 : List (S92)) (r3 : List (S43)) (w : World) (hr0_0 : Kd.C k110 w A0_0 l0_0.length l0_0) (hc0_0 : l0_0.length ≤ c0_0) (hr0_1 : Kd.C k105 w A0_1 l0_1.length l0_1) (hc0_1 : l0_1.length ≤ c0_1) (hr0_2 : Kd.C k40 w A0_2 l0_2.length l0_2) (hc0_2 : l0_2.length ≤ c0_2) (h : full_toShow.f k l0_0 l0_1 l0_2 a1 = some (r1, r2, r3)) (n0 : r1 ≠ []) (n1 : r2 ≠ []) (n2 : r3 ≠ []) :
  Calls Try.prog 21 #[.agg #[.slice A0_0 l0_0.length c0_0, .slice A0_1 l0_1.length c0_1, .slice A0_2 l0_2.length c0_2], .bool a1] w fun e w' => ∃ (B0_ : Option Addr) (d0_ : Nat) (B1_ : Option Addr) (d1_ : Nat) (B2_ : Option Addr) (d2_ : Nat), e = .returned (.agg #[.slice B0_ l0_0.length d0_, .slice B1_ l0_1.length d1_, .slice B2_ l0_2.length d2_]) ∧ Kd.R k108 108 w' w.heap.size (fun _ => True) (.slice B0_ r1.length d0_) r1 ∧ Kd.R k92 92 w' w.heap.size (fun _ => True) (.slice B1_ r2.length d1_) r2 ∧ Kd.R k43 43 w' w.heap.size (fun _ => True) (.slice B2_ r3.length d2_) r3 ∧ Below w.heap.size w w' := by
 have hu26 := Try.underlying26; have hu32 := Try.underlying32; have HR0_0 := am_ hr0_0; have HC0_0 := am_ hc0_0; clear hr0_0 hc0_0; have HR0_1 := am_ hr0_1; have HC0_1 := am_ hc0_1; clear hr0_1 hc0_1; have HR0_2 := am_ hr0_2; have HC0_2 := am_ hc0_2; clear hr0_2 hc0_2; have HB := am_ (Below.refl w.heap.size w); have N0 := am_ n0; have N1 := am_ n1; have N2 := am_ n2; clear n0 n1 n2; have H : ((full_toBarS.f k l0_0 a1).bind fun t277 => ((full_toArticleS.f k l0_1 a1).bind fun t280 => ((full_toCueS.f k l0_2 a1).bind fun t283 => (some (t277, t280, t283))))) = some (r1, r2, r3) := h; clear h; replace H := Option.bind_eq_some_iff.mp H; obtain ⟨t277, A30, H⟩ := H; have A3 := am_ A30; clear A30; replace H := Option.bind_eq_some_iff.mp H; obtain ⟨t280, A40, H⟩ := H; have A4 := am_ A40; clear A40; replace H := Option.bind_eq_some_iff.mp H; obtain ⟨t283, A50, H⟩ := H; have A5 := am_ A50; clear A50; simp only [Option.some.injEq, Prod.mk.injEq] at H; obtain ⟨rfl, rfl, rfl⟩ := H
 go_enter Try.func21, Try.ntmps21
 go_wp2_with (first | ((with_reducible refine gate_dst (N := 2) rfl ?_); refine boxZ 2 #[.slice A0_0 l0_0.length c0_0, .slice A0_1 l0_1.length c0_1, .slice A0_2 l0_2.length c0_2] 26 ?_; intro gb274 hg w6 hbox hb; replace BK274 := am_ (hbox); replace GW274 := am_ ((Zc : w.heap.size ≤ gb274)); replace GE274 := GW274; replace HB := (bsZ Zd hb); clear hb hbox hg) | ((with_reducible refine gate_dst (N := 4) rfl ?_); refine boxZ 4 #[.slice none 0 0, .slice none 0 0, .slice none 0 0] 32 ?_; intro gb275 hg w7 hbox hb; replace BK275 := am_ (hbox); replace GW275 := am_ (((have z0_ := GE274; Ze) : w.heap.size ≤ gb275)); replace GE275 := GW275; replace HB := (bsZ (have z0_ := GE274; Zf) hb); replace NB274_275 := am_ (((have z0_ := BK274; Zaf) : gb274 ≠ gb275)); replace NB275_274 := am_ (((have z0_ := BK274; Zag) : gb275 ≠ gb274)); replace BK274 := (have z0_ := BK274; bkZ hb); clear hb hbox hg) | ((with_reducible refine gate_dst (N := 5) rfl ?_); refine boxZ 5 #[.slice none 0 0, .slice none 0 0, .slice none 0 0] 32 ?_; intro gb276 hg w8 hbox hb; replace BK276 := am_ (hbox); replace GW276 := am_ (((have z0_ := GE274; have z1_ := GE275; Zh) : w.heap.size ≤ gb276)); replace GE276 := GW276; replace HB := (bsZ (have z0_ := GE274; have z1_ := GE275; Zi) hb); replace NB274_276 := am_ (((have z0_ := BK274; Zaf) : gb274 ≠ gb276)); replace NB276_274 := am_ (((have z0_ := BK274; Zag) : gb276 ≠ gb274)); replace BK274 := (have z0_ := BK274; bkZ hb); replace NB275_276 := am_ (((have z0_ := BK275; Zah) : gb275 ≠ gb276)); replace NB276_275 := am_ (((have z0_ := BK275; Zai) : gb276 ≠ gb275)); replace BK275 := (have z0_ := BK275; bkZ hb); clear hb hbox hg; have hnb9 := NB274_275.out; have hnc9 := NB275_274.out; have hnb10 := NB274_276.out; have hnc10 := NB276_274.out; refine ci3 BK274 ?_; intros) | ((with_reducible refine gate_callee (f := 70) rfl ?_); refine goesL_ (some 9) rfl rfl Try.func70 Zj rfl #[.slice A0_0 l0_0.length c0_0, .bool a1] rfl Zo ?_; (with_reducible refine (full_toBarS.calls k _ _ l0_0 a1 t277 _ ?side1 ?side2 A3.out).mono ?_); (case side1 => exact (have z0_ := HR0_0; Zae)); (case side2 => exact HC0_0.out); rintro e w12 ⟨v278, rfl, hof, hb⟩; obtain ⟨Ao13, co13, eo13, hle_, ho0⟩ := hof N0.out; subst eo13; clear hof hle_; refine ⟨_, rfl, ?_⟩; replace HO279 := am_ (Kd.R_lower ho0 (below_size (have z0_ := GE274; have z1_ := GE275; have z2_ := GE276; Zl))); replace BK274 := (have z0_ := BK274; bkZ hb); replace BK275 := (have z0_ := BK275; bkZ hb); replace BK276 := (have z0_ := BK276; bkZ hb); replace HB := (bsZ (have z0_ := GE274; have z1_ := GE275; have z2_ := GE276; Zl) hb); (try clear hb); (try clear hb2); (try clear hk); (try clear hi); (try clear ho0); have hnb14 := NB276_275.out; have hnc14 := NB275_276.out; refine ci3 BK276 ?_; intros; refine ci3 BK274 ?_; intros) | ((with_reducible refine gate_callee (f := 71) rfl ?_); refine goesL_ (some 14) rfl rfl Try.func71 Zj rfl #[.slice A0_1 l0_1.length c0_1, .bool a1] rfl Zo ?_; (with_reducible refine (full_toArticleS.calls k _ _ l0_1 a1 t280 _ ?side1 ?side2 A4.out).mono ?_); (case side1 => exact Kd.C_below HR0_1.out (have z0_ := GE274; have z1_ := GE275; have z2_ := GE276; Zl)); (case side2 => exact HC0_1.out); rintro e w17 ⟨v281, rfl, hof, hb⟩; obtain ⟨Ao18, co18, eo18, hle_, ho0⟩ := hof N1.out; subst eo18; clear hof hle_; refine ⟨_, rfl, ?_⟩; replace HO279 := am_ (Kd.R_below (by (with_reducible repeat (first | apply Kd.R_alloc | apply Kd.R_drewN | apply Kd.R_drew)); exact (Kd.R_mono (Kd.R_far (p := ⟨gb276, 0, none⟩) (Kd.R_types HO279.out BK276.out (by decide)) (fun _ hk => hk.2) (.slice Ao13 l0_0.length co13)) (fun _ h_ => h_.1))) hb); replace HO282 := am_ (Kd.R_lower ho0 (below_size (have z0_ := GE274; have z1_ := GE275; have z2_ := GE276; Zl))); replace BK274 := am_ (blk_below (g := gb274) (o := .cells #[.slice A0_0 l0_0.length c0_0, .slice A0_1 l0_1.length c0_1, .slice A0_2 l0_2.length c0_2] 26 (0, 0)) (have z0_ := NB274_276; have z1_ := BK274; Zaj) hb); replace BK275 := am_ (blk_below (g := gb275) (o := .cells #[.slice none 0 0, .slice none 0 0, .slice none 0 0] 32 (0, 0)) (have z0_ := NB275_276; have z1_ := BK275; Zaj) hb); replace BK276 := am_ (blk_below (g := gb276) (o := .cells #[.slice Ao13 l0_0.length co13, .slice none 0 0, .slice none 0 0] 32 (0, 0)) (have z0_ := BK276; Zak) hb); replace HB := (bsZ (have z0_ := GE274; have z1_ := GE275; have z2_ := GE276; Zl) hb); (try clear hb); (try clear hb2); (try clear hk); (try clear hi); (try clear ho0); refine ci3 BK276 ?_; intros; refine ci3 BK274 ?_; intros) | ((with_reducible refine gate_callee (f := 72) rfl ?_); refine goesL_ (some 19) rfl rfl Try.func72 Zj rfl #[.slice A0_2 l0_2.length c0_2, .bool a1] rfl Zo ?_; (with_reducible refine (full_toCueS.calls k _ _ l0_2 a1 t283 _ ?side1 ?side2 A5.out).mono ?_); (case side1 => exact Kd.C_below HR0_2.out (have z0_ := GE274; have z1_ := GE275; have z2_ := GE276; Zl)); (case side2 => exact HC0_2.out); rintro e w21 ⟨v284, rfl, hof, hb⟩; obtain ⟨Ao22, co22, eo22, hle_, ho0⟩ := hof N2.out; subst eo22; clear hof hle_; refine ⟨_, rfl, ?_⟩; replace HO279 := am_ (Kd.R_below (by (with_reducible repeat (first | apply Kd.R_alloc | apply Kd.R_drewN | apply Kd.R_drew)); exact (Kd.R_mono (Kd.R_far (p := ⟨gb276, 1, none⟩) (Kd.R_types HO279.out BK276.out (by decide)) (fun _ hk => hk.2) (.slice Ao18 l0_1.length co18)) (fun _ h_ => h_.1))) hb); replace HO282 := am_ (Kd.R_below (by (with_reducible repeat (first | apply Kd.R_alloc | apply Kd.R_drewN | apply Kd.R_drew)); exact (Kd.R_mono (Kd.R_far (p := ⟨gb276, 1, none⟩) (Kd.R_types HO282.out BK276.out (by decide)) (fun _ hk => hk.2) (.slice Ao18 l0_1.length co18)) (fun _ h_ => h_.1))) hb); replace HO285 := am_ (Kd.R_lower ho0 (below_size (have z0_ := GE274; have z1_ := GE275; have z2_ := GE276; Zl))); replace BK274 := am_ (blk_below (g := gb274) (o := .cells #[.slice A0_0 l0_0.length c0_0, .slice A0_1 l0_1.length c0_1, .slice A0_2 l0_2.length c0_2] 26 (0, 0)) (have z0_ := NB274_276; have z1_ := BK274; Zaj) hb); replace BK275 := am_ (blk_below (g := gb275) (o := .cells #[.slice none 0 0, .slice none 0 0, .slice none 0 0] 32 (0, 0)) (have z0_ := NB275_276; have z1_ := BK275; Zaj) hb); replace BK276 := am_ (blk_below (g := gb276) (o := .cells #[.slice Ao13 l0_0.length co13, .slice Ao18 l0_1.length co18, .slice none 0 0] 32 (0, 0)) (by (with_reducible repeat (first | refine blk_drewN ?_ _ | refine blk_drew ?_ | refine blk_alloc ?_ _)); refine blk_put (cs := #[.slice Ao13 l0_0.length co13, .slice none 0 0, .slice none 0 0]) ?_ 1 _ rfl; (with_reducible repeat (first | refine blk_drewN ?_ _ | refine blk_drew ?_ | refine blk_alloc ?_ _)); exact BK276.out) hb); replace HB := (bsZ (have z0_ := GE274; have z1_ := GE275; have z2_ := GE276; Zl) hb); (try clear hb); (try clear hb2); (try clear hk); (try clear hi); (try clear ho0); refine ci3 BK276 ?_; intros; refine ci3 BK275 ?_; intros))
 refine bodyPost_ret (results_cell_row rfl _ _ gb275 32 #[.slice Ao13 l0_0.length co13, .slice Ao18 l0_1.length co18, .slice Ao22 l0_2.length co22] (0, 0) _ rfl (by (with_reducible repeat (first | refine blk_drewN ?_ _ | refine blk_drew ?_ | refine blk_alloc ?_ _)); refine blk_put (cs := #[.slice Ao13 l0_0.length co13, .slice Ao18 l0_1.length co18, .slice none 0 0]) ?_ 2 _ rfl; refine blk_put (cs := #[.slice Ao13 l0_0.length co13, .slice none 0 0, .slice none 0 0]) ?_ 1 _ rfl; refine blk_put (cs := #[.slice none 0 0, .slice none 0 0, .slice none 0 0]) ?_ 0 _ rfl; (with_reducible repeat (first | refine blk_drewN ?_ _ | refine blk_drew ?_ | refine blk_alloc ?_ _)); refine blk_far ?_ NB275_276.out _; (with_reducible repeat (first | refine blk_drewN ?_ _ | refine blk_drew ?_ | refine blk_alloc ?_ _)); exact BK275.out) Try.underlying32 rfl Zj) rfl ?_; exact ⟨_, _, _, _, _, _, Zk, (have z0_ := HO279; have z1_ := BK276; have z2_ := BK275; Zan), (have z0_ := HO282; have z1_ := BK276; have z2_ := BK275; Zan), (have z0_ := HO285; have z1_ := BK276; have z2_ := BK275; Zan), (have z0_ := GE274; have z1_ := GE275; have z2_ := GE276; Zl)⟩
set_option maxHeartbeats 8000000 in
set_option maxRecDepth 100000 in
theorem same_intactShow (k n0 n1 n2 : Nat) (A0_0 : Option Addr) (c0_0 : Nat) (A0_1 : Option Addr) (c0_1 : Nat) (A0_2 : Option Addr) (c0_2 : Nat) (A1_0 : Option Addr) (c1_0 : Nat) (A1_1 : Option Addr) (c1_1 : Nat) (A1_2 : Option Addr) (c1_2 : Nat) (L0 : List S108) (L1 : List S92) (L2 : List S43) (t0 t1 t2 : Int) (w : World) (hr0_0 : Kd.C k108 w A0_0 L0.length L0) (hc0_0 : L0.length ≤ c0_0) (hr1_0 : Kd.C k108 w A1_0 L0.length L0) (hc1_0 : L0.length ≤ c1_0) (ht_0 : laws_roomBehind.f (n0 : Int) = some t0) (hj_0 : wrap64 ((n0 : Int) + t0) = (L0.length : Int)) (he_0 : laws_eqBarS.f k L0 L0 = some true) (hr0_1 : Kd.C k92 w A0_1 L1.length L1) (hc0_1 : L1.length ≤ c0_1) (hr1_1 : Kd.C k92 w A1_1 L1.length L1) (hc1_1 : L1.length ≤ c1_1) (ht_1 : laws_roomBehind.f (n1 : Int) = some t1) (hj_1 : wrap64 ((n1 : Int) + t1) = (L1.length : Int)) (he_1 : laws_eqArticleS.f k L1 L1 = some true) (hr0_2 : Kd.C k43 w A0_2 L2.length L2) (hc0_2 : L2.length ≤ c0_2) (hr1_2 : Kd.C k43 w A1_2 L2.length L2) (hc1_2 : L2.length ≤ c1_2) (ht_2 : laws_roomBehind.f (n2 : Int) = some t2) (hj_2 : wrap64 ((n2 : Int) + t2) = (L2.length : Int)) (he_2 : laws_eqCueS.f k L2 L2 = some true) :
    Calls Try.prog 24 #[.agg #[.slice A0_0 n0 c0_0, .slice A0_1 n1 c0_1, .slice A0_2 n2 c0_2], .agg #[.slice A1_0 n0 c1_0, .slice A1_1 n1 c1_1, .slice A1_2 n2 c1_2]] w fun e w' => e = .returned (.bool true) ∧ Below w.heap.size w w' := by
  have HR0_0 := am_ hr0_0; have HC0_0 := am_ hc0_0; have HR1_0 := am_ hr1_0; have HC1_0 := am_ hc1_0; have HT_0 := am_ ht_0; have HJ_0 := am_ hj_0; have HE_0 := am_ he_0; have HR0_1 := am_ hr0_1; have HC0_1 := am_ hc0_1; have HR1_1 := am_ hr1_1; have HC1_1 := am_ hc1_1; have HT_1 := am_ ht_1; have HJ_1 := am_ hj_1; have HE_1 := am_ he_1; have HR0_2 := am_ hr0_2; have HC0_2 := am_ hc0_2; have HR1_2 := am_ hr1_2; have HC1_2 := am_ hc1_2; have HT_2 := am_ ht_2; have HJ_2 := am_ hj_2; have HE_2 := am_ he_2; clear hr0_0 hc0_0 hr1_0 hc1_0 ht_0 hj_0 he_0 hr0_1 hc0_1 hr1_1 hc1_1 ht_1 hj_1 he_1 hr0_2 hc0_2 hr1_2 hc1_2 ht_2 hj_2 he_2; have HB := am_ (Below.refl w.heap.size w)
  go_enter Try.func24, Try.ntmps24
  go_wp2_with (first | ((with_reducible refine gate_dst (N := 2) rfl ?_); refine boxZ 2 #[.slice A0_0 n0 c0_0, .slice A0_1 n1 c0_1, .slice A0_2 n2 c0_2] 32 ?_; intro g_0 hg w1 hbox hb; have nk_ := am_ hbox; have ne_ := am_ (Zc : w.heap.size ≤ g_0); have OB0 := am_ (Zao : w.heap.size ≤ g_0); clear hbox hg; replace HB := (bsZ Zd hb); clear hb; have BK0 := nk_; have GE0 := ne_; clear nk_ ne_; refine ci3 BK0 ?_; intros) | ((with_reducible refine gate_dst (N := 3) rfl ?_); refine boxZ 3 #[.slice A1_0 n0 c1_0, .slice A1_1 n1 c1_1, .slice A1_2 n2 c1_2] 32 ?_; intro g_1 hg w1 hbox hb; have nk_ := am_ hbox; have ne_ := am_ (Zc : w.heap.size ≤ g_1); have OB1 := am_ ((have z0_ := BK0; Zap) : g_0 + 1 ≤ g_1); clear hbox hg; replace HB := (bsZ Zd hb); replace BK0 := (have z0_ := BK0; bkZ hb); clear hb; refine ci3 BK0 ?_; intros; have BK1 := nk_; have GE1 := ne_; clear nk_ ne_; refine ci3 BK1 ?_; intros) | ((with_reducible refine gate_callee (f := 78) rfl ?_); refine goesL_ (some 9) rfl rfl Try.func78 Zj rfl #[.slice A0_0 n0 c0_0, .slice A1_0 n0 c1_0] rfl Zo ?_; (with_reducible refine (same_intactBarS k n0 _ _ _ _ L0 t0 _ (Kd.C_below HR0_0.out Zd) HC0_0.out (Kd.C_below HR1_0.out Zd) HC1_0.out HT_0.out HJ_0.out HE_0.out).mono ?_); rintro e w1 ⟨rfl, hb⟩; refine ⟨_, rfl, ?_⟩; replace HB := (bsZ Zd hb); replace BK0 := (have z0_ := BK0; bkZ hb); replace BK1 := (have z0_ := BK1; bkZ hb); clear hb; refine ci3 BK0 ?_; intros; refine ci3 BK1 ?_; intros) | ((with_reducible refine gate_callee (f := 79) rfl ?_); refine goesL_ (some 15) rfl rfl Try.func79 Zj rfl #[.slice A0_1 n1 c0_1, .slice A1_1 n1 c1_1] rfl Zo ?_; (with_reducible refine (same_intactArticleS k n1 _ _ _ _ L1 t1 _ (Kd.C_below HR0_1.out Zd) HC0_1.out (Kd.C_below HR1_1.out Zd) HC1_1.out HT_1.out HJ_1.out HE_1.out).mono ?_); rintro e w1 ⟨rfl, hb⟩; refine ⟨_, rfl, ?_⟩; replace HB := (bsZ Zd hb); replace BK0 := (have z0_ := BK0; bkZ hb); replace BK1 := (have z0_ := BK1; bkZ hb); clear hb; refine ci3 BK0 ?_; intros; refine ci3 BK1 ?_; intros) | ((with_reducible refine gate_callee (f := 80) rfl ?_); refine goesL_ (some 21) rfl rfl Try.func80 Zj rfl #[.slice A0_2 n2 c0_2, .slice A1_2 n2 c1_2] rfl Zo ?_; (with_reducible refine (same_intactCueS k n2 _ _ _ _ L2 t2 _ (Kd.C_below HR0_2.out Zd) HC0_2.out (Kd.C_below HR1_2.out Zd) HC1_2.out HT_2.out HJ_2.out HE_2.out).mono ?_); rintro e w1 ⟨rfl, hb⟩; refine ⟨_, rfl, ?_⟩; replace HB := (bsZ Zd hb); replace BK0 := (have z0_ := BK0; bkZ hb); replace BK1 := (have z0_ := BK1; bkZ hb); clear hb; refine ci3 BK0 ?_; intros; refine ci3 BK1 ?_; intros))
  go_ret
  exact ⟨rfl, Zd⟩
theorem size26 : Try.prog.cellsOf 26 = 3 := by kernel_rfl
theorem ones22 : Try.prog.cellsOf 22 = 1 := by kernel_rfl
theorem ones23 : Try.prog.cellsOf 23 = 1 := by kernel_rfl
theorem ones24 : Try.prog.cellsOf 24 = 1 := by kernel_rfl
theorem open_V26 {H : Type} {enc : TypeId × Value → H} {W : World} {base : Nat} {sp : Nat → Bool} {held : Bool} {fuel : Nat} {cs : List Value} {y : DataW H × List MemPlace} (h : DataW.trod enc Try.prog W base sp held fuel 26 cs = some y) : ∃ (A0 : Option Addr) (c0 : Nat) (l0 : List S110) (A1 : Option Addr) (c1 : Nat) (l1 : List S105) (A2 : Option Addr) (c2 : Nat) (l2 : List S40), cs = [.slice A0 l0.length c0, .slice A1 l1.length c1, .slice A2 l2.length c2] ∧ (l0.length ≤ c0 ∧ c0 ≤ maxLen ∧ Kd.C k110 W A0 l0.length l0 ∧ ∀ x ∈ l0, Pr110 x) ∧ (l1.length ≤ c1 ∧ c1 ≤ maxLen ∧ Kd.C k105 W A1 l1.length l1 ∧ ∀ x ∈ l1, Pr105 x) ∧ (l2.length ≤ c2 ∧ c2 ≤ maxLen ∧ Kd.C k40 W A2 l2.length l2 ∧ ∀ x ∈ l2, Pr40 x) := by
  obtain ⟨xs, n, _, rfl, hl, hlen, hf⟩ := DataW.trod_struct Try.underlying26 h; rw [size26] at hl; obtain ⟨A0, c0, l0, e0, p0, q0, r0, s0⟩ := open_rows k110 (Pr := Pr110) Try.underlying22 Zj (fun f_ c_ y_ hy_ => open_S110 hy_ W) ((hf 0 _ rfl).trans (List.getElem?_eq_getElem Zw)); have g0 : cs[0]? = some (.slice A0 l0.length c0) := one_cell (by have z : List.take (Try.prog.cellsOf 22) (List.drop 0 cs) = [.slice A0 l0.length c0] := e0; rw [ones22] at z; exact z); obtain ⟨A1, c1, l1, e1, p1, q1, r1, s1⟩ := open_rows k105 (Pr := Pr105) Try.underlying23 Zj (fun f_ c_ y_ hy_ => open_S105 hy_ W) ((hf 1 _ rfl).trans (List.getElem?_eq_getElem Zw)); have g1 : cs[1]? = some (.slice A1 l1.length c1) := one_cell (by have z : List.take (Try.prog.cellsOf 23) (List.drop 1 cs) = [.slice A1 l1.length c1] := e1; rw [ones23] at z; exact z); obtain ⟨A2, c2, l2, e2, p2, q2, r2, s2⟩ := open_rows k40 (Pr := Pr40) Try.underlying24 Zj (fun f_ c_ y_ hy_ => open_S40 hy_ W) ((hf 2 _ rfl).trans (List.getElem?_eq_getElem Zw)); have g2 : cs[2]? = some (.slice A2 l2.length c2) := one_cell (by have z : List.take (Try.prog.cellsOf 24) (List.drop 2 cs) = [.slice A2 l2.length c2] := e2; rw [ones24] at z; exact z)
  have hcs : cs = [.slice A0 l0.length c0, .slice A1 l1.length c1, .slice A2 l2.length c2] := by
    apply List.ext_getElem?
    intro i
    match i with
    | 0 => exact g0
    | 1 => exact g1
    | 2 => exact g2
    | i + 3 => rw [List.getElem?_eq_none (by omega)]; rfl
  exact ⟨A0, c0, l0, A1, c1, l1, A2, c2, l2, hcs, ⟨p0, q0, r0, s0⟩, ⟨p1, q1, r1, s1⟩, ⟨p2, q2, r2, s2⟩⟩
end Go.Proofs.Ytnlbaflbhicooaa.F
namespace Go.Proofs.Ytnlbaflbhicooaa.F
open Go.RowKit Go.Proofs.YtnlbaflbhicooaaW.PrintWords Go.Proofs.YtnlbaflbhicooaaW.PrintLast Go.Proofs.YtnlbaflbhicooaaW.PrintMore
attribute [local go_sem] max2_int min2_int max_two min_two max_three min_three max_four min_four
set_option linter.unusedVariables false
set_option linter.unusedSimpArgs false
def spec_l01In.f (a0 : Int) (a1 : Int) (a2 : Int) : Option (Bool) := if a0 ≥ a1 then (some (decide (a0 ≤ a2))) else (some false)
set_option maxHeartbeats 8000000 in
set_option maxRecDepth 100000 in
theorem spec_l01In.calls (a0 : Int) (a1 : Int) (a2 : Int) (r : Bool) (w : World) (h : spec_l01In.f a0 a1 a2 = some r) :
  Calls Try.prog 68 #[.int .i64 a0, .int .i64 a1, .int .i64 a2] w fun e w' => e = .returned (.bool r) ∧ Drawn0 w w' := by
 have H : (if a0 ≥ a1 then (some (decide (a0 ≤ a2))) else (some false)) = some r := h; clear h
 by_cases c4 : a0 ≥ a1
 ·rw [if_pos c4] at H
  have c4b0 : decide (a1 ≤ a0) = true := decide_eq_true c4; clear c4; obtain rfl := Option.some.inj H
  go_enter Try.func68, Try.ntmps68
  go_wp2
  go_ret
  exact ⟨Za, Zb⟩
 ·rw [if_neg c4] at H
  have c4b0 : decide (a1 ≤ a0) = false := decide_eq_false c4; clear c4; obtain rfl := Option.some.inj H
  go_enter Try.func68, Try.ntmps68
  go_wp2
  go_ret
  exact ⟨Za, Zb⟩
def spec_IsScore.l0 : Nat → List (S108) → Int → Option (Bool)
 | 0, _, _ => none
 | k + 1, x0, x3 => if x3 < (x0.length : Int) then (if 0 ≤ x3 then ((spec_l01In.f ((rd_T108 x0 x3).f0) 1 16).bind fun t113 => (if t113 = true then ((spec_l01In.f ((rd_T108 x0 x3).f1) 100 5000).bind fun t115 => (if t115 = true then (spec_IsScore.l0 k x0 (wrap64 (x3 + 1))) else (some false))) else (some false))) else (none)) else ((spec_l01In.f (x0.length : Int) 1 20).bind fun t111 => (some t111))
def spec_IsScore.f (k : Nat) (l0 : List (S108)) : Option (Bool) := spec_IsScore.l0 k l0 0
set_option maxHeartbeats 8000000 in
set_option maxRecDepth 100000 in
theorem spec_IsScore.calls (k : Nat) (A0 : Option Addr) (c0 : Nat) (l0 : List (S108)) (r : Bool) (w : World) (hr0 : Kd.C k108 w A0 l0.length l0) (hc0 : l0.length ≤ c0) (h : spec_IsScore.f k l0 = some r) :
  Calls Try.prog 91 #[.slice A0 l0.length c0] w fun e w' => e = .returned (.bool r) ∧ Drawn0 w w' := by
 have HR0 := am_ hr0; have HC0 := am_ hc0; clear hr0 hc0; have H : (spec_IsScore.l0 k l0 0) = some r := h; clear h; have H' := am_ H; clear H
 go_enter Try.func91, Try.ntmps91
 go_wp2
 go_loopg [3] k (fun kq v3 w' => ∃ (x3_1 : Int), v3 = .int .i64 x3_1 ∧ Aside0 (spec_IsScore.l0 kq l0 x3_1 = some r) ∧ Aside0 (kq ≤ k) ∧ Drawn0 w w')
 case atStart => exact ⟨(0), Za, H', ⟨Nat.le_refl _⟩, Zb⟩
 case round =>
  clear H'; obtain ⟨x3_1, rfl, HA, HK1, ⟨m1, rfl⟩⟩ := hrel
  cases gk with
  | zero => exact absurd HA.out (by simp [spec_IsScore.l0])
  | succ k1 =>
   have H := HA.out; clear HA; simp only [spec_IsScore.l0] at H
   by_cases c2 : x3_1 < (l0.length : Int)
   ·rw [if_pos c2] at H
    have c2b0 := decide_eq_true c2; clear c2
    by_cases c3 : 0 ≤ x3_1
    ·rw [if_pos c3] at H
     have c3b0 := decide_eq_true c3; clear c3; replace H := Option.bind_eq_some_iff.mp H; obtain ⟨t113, A40, H⟩ := H; have A4 := am_ A40; clear A40
     by_cases c5 : t113 = true
     ·subst c5
      have H1 : ((spec_l01In.f ((rd_T108 l0 x3_1).f1) 100 5000).bind fun t115 => (if t115 = true then (spec_IsScore.l0 k1 l0 (wrap64 (x3_1 + 1))) else (some false))) = some r := by rw [if_pos rfl] at H; exact H
      clear H; have H := H1; clear H1; replace H := Option.bind_eq_some_iff.mp H; obtain ⟨t115, A60, H⟩ := H; have A6 := am_ A60; clear A60
      by_cases c7 : t115 = true
      ·subst c7
       have H1 : (spec_IsScore.l0 k1 l0 (wrap64 (x3_1 + 1))) = some r := by rw [if_pos rfl] at H; exact H
       clear H; have H := H1; clear H1; have H' := am_ H; clear H; have p112 : 0 ≤ (x3_1 : Int) := of_decide_eq_true Zp; have q112 : x3_1 < (l0.length : Int) := of_decide_eq_true Zp; obtain ⟨ad112, e112, hx112_0, hx112_1⟩ := at_T108 HR0.out x3_1 p112 q112
       cases e112
       replace p112 := eq_true p112; replace q112 := eq_true q112
       go_wp2_with (first | ((with_reducible refine gate_callee (f := 68) rfl ?_); refine goesL_ (some 15) rfl rfl Try.func68 Zj rfl #[.int .i64 ((rd_T108 l0 x3_1).f0), .int .i64 1, .int .i64 16] rfl Zo ?_; (with_reducible refine (spec_l01In.calls ((rd_T108 l0 x3_1).f0) 1 16 true _ A4.out).mono ?_); rintro e w' ⟨rfl, ⟨nd, rfl⟩⟩; refine ⟨_, rfl, ?_⟩; have p114 : 0 ≤ (x3_1 : Int) := of_decide_eq_true Zp; have q114 : x3_1 < (l0.length : Int) := of_decide_eq_true Zp; obtain ⟨ad114, e114, hx114_0, hx114_1⟩ := at_T108 HR0.out x3_1 p114 q114; obtain rfl : ad112 = ad114 := (by injection e114); replace p114 := eq_true p114; replace q114 := eq_true q114) | (go_at_call 68; (with_reducible refine (spec_l01In.calls ((rd_T108 l0 x3_1).f1) 100 5000 true _ A6.out).mono ?_); rintro e w' ⟨rfl, ⟨nd, rfl⟩⟩))
       go_roundg k1
       case measure => have := HK1.out; omega
       case rel => exact ⟨(wrap64 (x3_1 + 1)), Za, H', ⟨Zt⟩, Zb⟩
      ·replace c7 := Bool.eq_false_iff.mpr c7
       subst c7
       have H1 : (some false) = some r := by rw [if_neg (show ¬ (false = true) by decide)] at H; exact H
       clear H; have H := H1; clear H1; obtain rfl := Option.some.inj H; have p112 : 0 ≤ (x3_1 : Int) := of_decide_eq_true Zp; have q112 : x3_1 < (l0.length : Int) := of_decide_eq_true Zp; obtain ⟨ad112, e112, hx112_0, hx112_1⟩ := at_T108 HR0.out x3_1 p112 q112
       cases e112
       replace p112 := eq_true p112; replace q112 := eq_true q112
       go_wp2_with (first | ((with_reducible refine gate_callee (f := 68) rfl ?_); refine goesL_ (some 15) rfl rfl Try.func68 Zj rfl #[.int .i64 ((rd_T108 l0 x3_1).f0), .int .i64 1, .int .i64 16] rfl Zo ?_; (with_reducible refine (spec_l01In.calls ((rd_T108 l0 x3_1).f0) 1 16 true _ A4.out).mono ?_); rintro e w' ⟨rfl, ⟨nd, rfl⟩⟩; refine ⟨_, rfl, ?_⟩; have p114 : 0 ≤ (x3_1 : Int) := of_decide_eq_true Zp; have q114 : x3_1 < (l0.length : Int) := of_decide_eq_true Zp; obtain ⟨ad114, e114, hx114_0, hx114_1⟩ := at_T108 HR0.out x3_1 p114 q114; obtain rfl : ad112 = ad114 := (by injection e114); replace p114 := eq_true p114; replace q114 := eq_true q114) | (go_at_call 68; (with_reducible refine (spec_l01In.calls ((rd_T108 l0 x3_1).f1) 100 5000 false _ A6.out).mono ?_); rintro e w' ⟨rfl, ⟨nd, rfl⟩⟩))
       go_ret
       exact ⟨Za, Zb⟩
     ·replace c5 := Bool.eq_false_iff.mpr c5
      subst c5
      have H1 : (some false) = some r := by rw [if_neg (show ¬ (false = true) by decide)] at H; exact H
      clear H; have H := H1; clear H1; obtain rfl := Option.some.inj H; have p112 : 0 ≤ (x3_1 : Int) := of_decide_eq_true Zp; have q112 : x3_1 < (l0.length : Int) := of_decide_eq_true Zp; obtain ⟨ad112, e112, hx112_0, hx112_1⟩ := at_T108 HR0.out x3_1 p112 q112
      cases e112
      replace p112 := eq_true p112; replace q112 := eq_true q112
      go_wp2_with (first | ((with_reducible refine gate_callee (f := 68) rfl ?_); refine goesL_ (some 15) rfl rfl Try.func68 Zj rfl #[.int .i64 ((rd_T108 l0 x3_1).f0), .int .i64 1, .int .i64 16] rfl Zo ?_; (with_reducible refine (spec_l01In.calls ((rd_T108 l0 x3_1).f0) 1 16 false _ A4.out).mono ?_); rintro e w' ⟨rfl, ⟨nd, rfl⟩⟩; refine ⟨_, rfl, ?_⟩))
      go_ret
      exact ⟨Za, Zb⟩
    ·rw [if_neg c3] at H
     exact absurd H (by simp)
   ·rw [if_neg c2] at H
    have c2b0 := decide_eq_false c2; clear c2; replace H := Option.bind_eq_some_iff.mp H; obtain ⟨t111, A80, H⟩ := H; have A8 := am_ A80; clear A80; obtain rfl := Option.some.inj H
    go_wp2_with (first | ((with_reducible refine gate_callee (f := 68) rfl ?_); refine goesL_ (some 28) rfl rfl Try.func68 Zj rfl #[.int .i64 (l0.length : Int), .int .i64 1, .int .i64 20] rfl Zo ?_; (with_reducible refine (spec_l01In.calls (l0.length : Int) 1 20 t111 _ A8.out).mono ?_); rintro e w' ⟨rfl, ⟨nd, rfl⟩⟩; refine ⟨_, rfl, ?_⟩))
    go_ret
    exact ⟨Za, Zb⟩
def spec_IsWord.l0 : Nat → ByteArray → Int → Option (Bool)
 | 0, _, _ => none
 | k + 1, x0, x3 => if x3 < (x0.size : Int) then (if 0 ≤ x3 then (if (bt x0 x3) < 97 then (some false) else (if (bt x0 x3) > 122 then (some false) else (spec_IsWord.l0 k x0 (wrap64 (x3 + 1))))) else (none)) else ((spec_l01In.f (x0.size : Int) 1 16).bind fun t116 => (some t116))
def spec_IsWord.f (k : Nat) (a0 : ByteArray) : Option (Bool) := spec_IsWord.l0 k a0 0
set_option maxHeartbeats 8000000 in
set_option maxRecDepth 100000 in
theorem spec_IsWord.calls (k : Nat) (a0 : ByteArray) (r : Bool) (w : World) (h : spec_IsWord.f k a0 = some r) :
  Calls Try.prog 134 #[.string a0] w fun e w' => e = .returned (.bool r) ∧ Drawn0 w w' := by
 have H : (spec_IsWord.l0 k a0 0) = some r := h; clear h; have H' := am_ H; clear H
 go_enter Try.func134, Try.ntmps134
 go_wp2
 go_loopg [3] k (fun kq v3 w' => ∃ (x3_1 : Int), v3 = .int .i64 x3_1 ∧ Aside0 (spec_IsWord.l0 kq a0 x3_1 = some r) ∧ Aside0 (kq ≤ k) ∧ Drawn0 w w')
 case atStart => exact ⟨(0), Za, H', ⟨Nat.le_refl _⟩, Zb⟩
 case round =>
  clear H'
  try clear c1
  obtain ⟨x3_1, rfl, HA, HK1, ⟨m1, rfl⟩⟩ := hrel
  cases gk with
  | zero => exact absurd HA.out (by simp [spec_IsWord.l0])
  | succ k1 =>
   have H := HA.out; clear HA; simp only [spec_IsWord.l0] at H
   by_cases c2 : x3_1 < (a0.size : Int)
   ·rw [if_pos c2] at H
    have c2b0 := decide_eq_true c2; clear c2
    by_cases c3 : 0 ≤ x3_1
    ·rw [if_pos c3] at H
     have c3b0 := decide_eq_true c3; clear c3
     by_cases c5 : (bt a0 x3_1) < 97
     ·rw [if_pos c5] at H
      have c5b0 := decide_eq_true c5; clear c5; obtain rfl := Option.some.inj H; have p4 : 0 ≤ (x3_1 : Int) := of_decide_eq_true Zp; have q4 : x3_1 < (a0.size : Int) := of_decide_eq_true Zp; have hx4 := bt_at a0 x3_1; replace p4 := eq_true p4; replace q4 := eq_true q4
      go_wp2
      go_ret
      exact ⟨Za, Zb⟩
     ·rw [if_neg c5] at H
      have c5b0 := decide_eq_false c5; clear c5
      by_cases c7 : (bt a0 x3_1) > 122
      ·rw [if_pos c7] at H
       have c7b0 : decide (122 < (bt a0 x3_1)) = true := decide_eq_true c7; clear c7; obtain rfl := Option.some.inj H; have p4 : 0 ≤ (x3_1 : Int) := of_decide_eq_true Zp; have q4 : x3_1 < (a0.size : Int) := of_decide_eq_true Zp; have hx4 := bt_at a0 x3_1; replace p4 := eq_true p4; replace q4 := eq_true q4; have p6 : 0 ≤ (x3_1 : Int) := of_decide_eq_true Zp; have q6 : x3_1 < (a0.size : Int) := of_decide_eq_true Zp; have hx6 := bt_at a0 x3_1; replace p6 := eq_true p6; replace q6 := eq_true q6
       go_wp2
       go_ret
       exact ⟨Za, Zb⟩
      ·rw [if_neg c7] at H
       have c7b0 : decide (122 < (bt a0 x3_1)) = false := decide_eq_false c7; clear c7; have H' := am_ H; clear H; have p4 : 0 ≤ (x3_1 : Int) := of_decide_eq_true Zp; have q4 : x3_1 < (a0.size : Int) := of_decide_eq_true Zp; have hx4 := bt_at a0 x3_1; replace p4 := eq_true p4; replace q4 := eq_true q4; have p6 : 0 ≤ (x3_1 : Int) := of_decide_eq_true Zp; have q6 : x3_1 < (a0.size : Int) := of_decide_eq_true Zp; have hx6 := bt_at a0 x3_1; replace p6 := eq_true p6; replace q6 := eq_true q6
       go_wp2
       go_roundg k1
       case measure => have := HK1.out; omega
       case rel => exact ⟨(wrap64 (x3_1 + 1)), Za, H', ⟨Zt⟩, Zb⟩
    ·rw [if_neg c3] at H
     exact absurd H (by simp)
   ·rw [if_neg c2] at H
    have c2b0 := decide_eq_false c2; clear c2; replace H := Option.bind_eq_some_iff.mp H; obtain ⟨t116, A80, H⟩ := H; have A8 := am_ A80; clear A80; obtain rfl := Option.some.inj H
    go_wp2_with (first | ((with_reducible refine gate_callee (f := 68) rfl ?_); refine goesL_ (some 22) rfl rfl Try.func68 Zj rfl #[.int .i64 (a0.size : Int), .int .i64 1, .int .i64 16] rfl Zo ?_; (with_reducible refine (spec_l01In.calls (a0.size : Int) 1 16 t116 _ A8.out).mono ?_); rintro e w' ⟨rfl, ⟨nd, rfl⟩⟩; refine ⟨_, rfl, ?_⟩))
    go_ret
    exact ⟨Za, Zb⟩
def spec_IsArticle.f (k : Nat) (a0_0 : ByteArray) (a0_1 : Int) (a0_2 : Int) (a0_3 : Int) (a0_4 : Int) (a0_5 : Int) (a0_6 : Int) (a0_7 : Int) (a0_8 : Int) : Option (Bool) := (spec_IsWord.f k a0_0).bind fun t118 => (if t118 = true then ((spec_l01In.f a0_1 0 3).bind fun t119 => (if t119 = true then ((spec_l01In.f a0_2 20 300).bind fun t120 => (if t120 = true then ((spec_l01In.f a0_3 0 10000).bind fun t121 => (if t121 = true then ((spec_l01In.f a0_4 0 a0_3).bind fun t122 => (if t122 = true then ((spec_l01In.f a0_5 1 50).bind fun t123 => (if t123 = true then ((spec_l01In.f a0_6 0 10000).bind fun t124 => (if t124 = true then ((spec_l01In.f a0_7 1 100000).bind fun t125 => (if t125 = true then ((spec_l01In.f a0_8 0 3).bind fun t126 => (some t126)) else (some false))) else (some false))) else (some false))) else (some false))) else (some false))) else (some false))) else (some false))) else (some false))
set_option maxHeartbeats 8000000 in
set_option maxRecDepth 100000 in
theorem spec_IsArticle.calls (k : Nat) (a0_0 : ByteArray) (a0_1 : Int) (a0_2 : Int) (a0_3 : Int) (a0_4 : Int) (a0_5 : Int) (a0_6 : Int) (a0_7 : Int) (a0_8 : Int) (r : Bool) (w : World) (h : spec_IsArticle.f k a0_0 a0_1 a0_2 a0_3 a0_4 a0_5 a0_6 a0_7 a0_8 = some r) :
  Calls Try.prog 127 #[.agg #[.string a0_0, .int .i64 a0_1, .int .i64 a0_2, .int .i64 a0_3, .int .i64 a0_4, .int .i64 a0_5, .int .i64 a0_6, .int .i64 a0_7, .int .i64 a0_8]] w fun e w' => e = .returned (.bool r) ∧ Below w.heap.size w w' := by
 have hu92 := Try.underlying92; have HB := am_ (Below.refl w.heap.size w); have H : ((spec_IsWord.f k a0_0).bind fun t118 => (if t118 = true then ((spec_l01In.f a0_1 0 3).bind fun t119 => (if t119 = true then ((spec_l01In.f a0_2 20 300).bind fun t120 => (if t120 = true then ((spec_l01In.f a0_3 0 10000).bind fun t121 => (if t121 = true then ((spec_l01In.f a0_4 0 a0_3).bind fun t122 => (if t122 = true then ((spec_l01In.f a0_5 1 50).bind fun t123 => (if t123 = true then ((spec_l01In.f a0_6 0 10000).bind fun t124 => (if t124 = true then ((spec_l01In.f a0_7 1 100000).bind fun t125 => (if t125 = true then ((spec_l01In.f a0_8 0 3).bind fun t126 => (some t126)) else (some false))) else (some false))) else (some false))) else (some false))) else (some false))) else (some false))) else (some false))) else (some false))) = some r := h; clear h; replace H := Option.bind_eq_some_iff.mp H; obtain ⟨t118, A20, H⟩ := H; have A2 := am_ A20; clear A20
 by_cases c3 : t118 = true
 ·subst c3
  have H1 : ((spec_l01In.f a0_1 0 3).bind fun t119 => (if t119 = true then ((spec_l01In.f a0_2 20 300).bind fun t120 => (if t120 = true then ((spec_l01In.f a0_3 0 10000).bind fun t121 => (if t121 = true then ((spec_l01In.f a0_4 0 a0_3).bind fun t122 => (if t122 = true then ((spec_l01In.f a0_5 1 50).bind fun t123 => (if t123 = true then ((spec_l01In.f a0_6 0 10000).bind fun t124 => (if t124 = true then ((spec_l01In.f a0_7 1 100000).bind fun t125 => (if t125 = true then ((spec_l01In.f a0_8 0 3).bind fun t126 => (some t126)) else (some false))) else (some false))) else (some false))) else (some false))) else (some false))) else (some false))) else (some false))) = some r := by rw [if_pos rfl] at H; exact H
  clear H; have H := H1; clear H1; replace H := Option.bind_eq_some_iff.mp H; obtain ⟨t119, A40, H⟩ := H; have A4 := am_ A40; clear A40
  by_cases c5 : t119 = true
  ·subst c5
   have H1 : ((spec_l01In.f a0_2 20 300).bind fun t120 => (if t120 = true then ((spec_l01In.f a0_3 0 10000).bind fun t121 => (if t121 = true then ((spec_l01In.f a0_4 0 a0_3).bind fun t122 => (if t122 = true then ((spec_l01In.f a0_5 1 50).bind fun t123 => (if t123 = true then ((spec_l01In.f a0_6 0 10000).bind fun t124 => (if t124 = true then ((spec_l01In.f a0_7 1 100000).bind fun t125 => (if t125 = true then ((spec_l01In.f a0_8 0 3).bind fun t126 => (some t126)) else (some false))) else (some false))) else (some false))) else (some false))) else (some false))) else (some false))) = some r := by rw [if_pos rfl] at H; exact H
   clear H; have H := H1; clear H1; replace H := Option.bind_eq_some_iff.mp H; obtain ⟨t120, A60, H⟩ := H; have A6 := am_ A60; clear A60
   by_cases c7 : t120 = true
   ·subst c7
    have H1 : ((spec_l01In.f a0_3 0 10000).bind fun t121 => (if t121 = true then ((spec_l01In.f a0_4 0 a0_3).bind fun t122 => (if t122 = true then ((spec_l01In.f a0_5 1 50).bind fun t123 => (if t123 = true then ((spec_l01In.f a0_6 0 10000).bind fun t124 => (if t124 = true then ((spec_l01In.f a0_7 1 100000).bind fun t125 => (if t125 = true then ((spec_l01In.f a0_8 0 3).bind fun t126 => (some t126)) else (some false))) else (some false))) else (some false))) else (some false))) else (some false))) = some r := by rw [if_pos rfl] at H; exact H
    clear H; have H := H1; clear H1; replace H := Option.bind_eq_some_iff.mp H; obtain ⟨t121, A80, H⟩ := H; have A8 := am_ A80; clear A80
    by_cases c9 : t121 = true
    ·subst c9
     have H1 : ((spec_l01In.f a0_4 0 a0_3).bind fun t122 => (if t122 = true then ((spec_l01In.f a0_5 1 50).bind fun t123 => (if t123 = true then ((spec_l01In.f a0_6 0 10000).bind fun t124 => (if t124 = true then ((spec_l01In.f a0_7 1 100000).bind fun t125 => (if t125 = true then ((spec_l01In.f a0_8 0 3).bind fun t126 => (some t126)) else (some false))) else (some false))) else (some false))) else (some false))) = some r := by rw [if_pos rfl] at H; exact H
     clear H; have H := H1; clear H1; replace H := Option.bind_eq_some_iff.mp H; obtain ⟨t122, A100, H⟩ := H; have A10 := am_ A100; clear A100
     by_cases c11 : t122 = true
     ·subst c11
      have H1 : ((spec_l01In.f a0_5 1 50).bind fun t123 => (if t123 = true then ((spec_l01In.f a0_6 0 10000).bind fun t124 => (if t124 = true then ((spec_l01In.f a0_7 1 100000).bind fun t125 => (if t125 = true then ((spec_l01In.f a0_8 0 3).bind fun t126 => (some t126)) else (some false))) else (some false))) else (some false))) = some r := by rw [if_pos rfl] at H; exact H
      clear H; have H := H1; clear H1; replace H := Option.bind_eq_some_iff.mp H; obtain ⟨t123, A120, H⟩ := H; have A12 := am_ A120; clear A120
      by_cases c13 : t123 = true
      ·subst c13
       have H1 : ((spec_l01In.f a0_6 0 10000).bind fun t124 => (if t124 = true then ((spec_l01In.f a0_7 1 100000).bind fun t125 => (if t125 = true then ((spec_l01In.f a0_8 0 3).bind fun t126 => (some t126)) else (some false))) else (some false))) = some r := by rw [if_pos rfl] at H; exact H
       clear H; have H := H1; clear H1; replace H := Option.bind_eq_some_iff.mp H; obtain ⟨t124, A140, H⟩ := H; have A14 := am_ A140; clear A140
       by_cases c15 : t124 = true
       ·subst c15
        have H1 : ((spec_l01In.f a0_7 1 100000).bind fun t125 => (if t125 = true then ((spec_l01In.f a0_8 0 3).bind fun t126 => (some t126)) else (some false))) = some r := by rw [if_pos rfl] at H; exact H
        clear H; have H := H1; clear H1; replace H := Option.bind_eq_some_iff.mp H; obtain ⟨t125, A160, H⟩ := H; have A16 := am_ A160; clear A160
        by_cases c17 : t125 = true
        ·subst c17
         have H1 : ((spec_l01In.f a0_8 0 3).bind fun t126 => (some t126)) = some r := by rw [if_pos rfl] at H; exact H
         clear H; have H := H1; clear H1; replace H := Option.bind_eq_some_iff.mp H; obtain ⟨t126, A180, H⟩ := H; have A18 := am_ A180; clear A180; obtain rfl := Option.some.inj H
         go_enter Try.func127, Try.ntmps127
         go_wp2_with (first | ((with_reducible refine gate_dst (N := 1) rfl ?_); refine boxZ 1 #[.string a0_0, .int .i64 a0_1, .int .i64 a0_2, .int .i64 a0_3, .int .i64 a0_4, .int .i64 a0_5, .int .i64 a0_6, .int .i64 a0_7, .int .i64 a0_8] 92 ?_; intro gb117 hg w19 hbox hb; replace BK117 := am_ (hbox); replace GW117 := am_ ((Zc : w.heap.size ≤ gb117)); replace GE117 := GW117; replace HB := (bsZ Zd hb); clear hb hbox hg; refine ci9 BK117 ?_; intros) | ((with_reducible refine gate_callee (f := 134) rfl ?_); refine goesL_ (some 5) rfl rfl Try.func134 Zj rfl #[.string a0_0] rfl Zo ?_; (with_reducible refine (spec_IsWord.calls k a0_0 true _ A2.out).mono ?_); rintro e w' ⟨rfl, ⟨nd, rfl⟩⟩; refine ⟨_, rfl, ?_⟩) | (go_at_call 68; (with_reducible refine (spec_l01In.calls a0_1 0 3 true _ A4.out).mono ?_); rintro e w' ⟨rfl, ⟨nd, rfl⟩⟩) | (go_at_call 68; (with_reducible refine (spec_l01In.calls a0_2 20 300 true _ A6.out).mono ?_); rintro e w' ⟨rfl, ⟨nd, rfl⟩⟩) | (go_at_call 68; (with_reducible refine (spec_l01In.calls a0_3 0 10000 true _ A8.out).mono ?_); rintro e w' ⟨rfl, ⟨nd, rfl⟩⟩) | (go_at_call 68; (with_reducible refine (spec_l01In.calls a0_4 0 a0_3 true _ A10.out).mono ?_); rintro e w' ⟨rfl, ⟨nd, rfl⟩⟩) | (go_at_call 68; (with_reducible refine (spec_l01In.calls a0_5 1 50 true _ A12.out).mono ?_); rintro e w' ⟨rfl, ⟨nd, rfl⟩⟩) | (go_at_call 68; (with_reducible refine (spec_l01In.calls a0_6 0 10000 true _ A14.out).mono ?_); rintro e w' ⟨rfl, ⟨nd, rfl⟩⟩) | (go_at_call 68; (with_reducible refine (spec_l01In.calls a0_7 1 100000 true _ A16.out).mono ?_); rintro e w' ⟨rfl, ⟨nd, rfl⟩⟩) | (go_at_call 68; (with_reducible refine (spec_l01In.calls a0_8 0 3 t126 _ A18.out).mono ?_); rintro e w' ⟨rfl, ⟨nd, rfl⟩⟩))
         go_ret
         exact ⟨Zk, (have z0_ := GE117; Zf)⟩
        ·replace c17 := Bool.eq_false_iff.mpr c17
         subst c17
         have H1 : (some false) = some r := by rw [if_neg (show ¬ (false = true) by decide)] at H; exact H
         clear H; have H := H1; clear H1; obtain rfl := Option.some.inj H
         go_enter Try.func127, Try.ntmps127
         go_wp2_with (first | ((with_reducible refine gate_dst (N := 1) rfl ?_); refine boxZ 1 #[.string a0_0, .int .i64 a0_1, .int .i64 a0_2, .int .i64 a0_3, .int .i64 a0_4, .int .i64 a0_5, .int .i64 a0_6, .int .i64 a0_7, .int .i64 a0_8] 92 ?_; intro gb117 hg w21 hbox hb; replace BK117 := am_ (hbox); replace GW117 := am_ ((Zc : w.heap.size ≤ gb117)); replace GE117 := GW117; replace HB := (bsZ Zd hb); clear hb hbox hg; refine ci9 BK117 ?_; intros) | ((with_reducible refine gate_callee (f := 134) rfl ?_); refine goesL_ (some 5) rfl rfl Try.func134 Zj rfl #[.string a0_0] rfl Zo ?_; (with_reducible refine (spec_IsWord.calls k a0_0 true _ A2.out).mono ?_); rintro e w' ⟨rfl, ⟨nd, rfl⟩⟩; refine ⟨_, rfl, ?_⟩) | (go_at_call 68; (with_reducible refine (spec_l01In.calls a0_1 0 3 true _ A4.out).mono ?_); rintro e w' ⟨rfl, ⟨nd, rfl⟩⟩) | (go_at_call 68; (with_reducible refine (spec_l01In.calls a0_2 20 300 true _ A6.out).mono ?_); rintro e w' ⟨rfl, ⟨nd, rfl⟩⟩) | (go_at_call 68; (with_reducible refine (spec_l01In.calls a0_3 0 10000 true _ A8.out).mono ?_); rintro e w' ⟨rfl, ⟨nd, rfl⟩⟩) | (go_at_call 68; (with_reducible refine (spec_l01In.calls a0_4 0 a0_3 true _ A10.out).mono ?_); rintro e w' ⟨rfl, ⟨nd, rfl⟩⟩) | (go_at_call 68; (with_reducible refine (spec_l01In.calls a0_5 1 50 true _ A12.out).mono ?_); rintro e w' ⟨rfl, ⟨nd, rfl⟩⟩) | (go_at_call 68; (with_reducible refine (spec_l01In.calls a0_6 0 10000 true _ A14.out).mono ?_); rintro e w' ⟨rfl, ⟨nd, rfl⟩⟩) | (go_at_call 68; (with_reducible refine (spec_l01In.calls a0_7 1 100000 false _ A16.out).mono ?_); rintro e w' ⟨rfl, ⟨nd, rfl⟩⟩))
         go_ret
         exact ⟨Zk, (have z0_ := GE117; Zf)⟩
       ·replace c15 := Bool.eq_false_iff.mpr c15
        subst c15
        have H1 : (some false) = some r := by rw [if_neg (show ¬ (false = true) by decide)] at H; exact H
        clear H; have H := H1; clear H1; obtain rfl := Option.some.inj H
        go_enter Try.func127, Try.ntmps127
        go_wp2_with (first | ((with_reducible refine gate_dst (N := 1) rfl ?_); refine boxZ 1 #[.string a0_0, .int .i64 a0_1, .int .i64 a0_2, .int .i64 a0_3, .int .i64 a0_4, .int .i64 a0_5, .int .i64 a0_6, .int .i64 a0_7, .int .i64 a0_8] 92 ?_; intro gb117 hg w23 hbox hb; replace BK117 := am_ (hbox); replace GW117 := am_ ((Zc : w.heap.size ≤ gb117)); replace GE117 := GW117; replace HB := (bsZ Zd hb); clear hb hbox hg; refine ci9 BK117 ?_; intros) | ((with_reducible refine gate_callee (f := 134) rfl ?_); refine goesL_ (some 5) rfl rfl Try.func134 Zj rfl #[.string a0_0] rfl Zo ?_; (with_reducible refine (spec_IsWord.calls k a0_0 true _ A2.out).mono ?_); rintro e w' ⟨rfl, ⟨nd, rfl⟩⟩; refine ⟨_, rfl, ?_⟩) | (go_at_call 68; (with_reducible refine (spec_l01In.calls a0_1 0 3 true _ A4.out).mono ?_); rintro e w' ⟨rfl, ⟨nd, rfl⟩⟩) | (go_at_call 68; (with_reducible refine (spec_l01In.calls a0_2 20 300 true _ A6.out).mono ?_); rintro e w' ⟨rfl, ⟨nd, rfl⟩⟩) | (go_at_call 68; (with_reducible refine (spec_l01In.calls a0_3 0 10000 true _ A8.out).mono ?_); rintro e w' ⟨rfl, ⟨nd, rfl⟩⟩) | (go_at_call 68; (with_reducible refine (spec_l01In.calls a0_4 0 a0_3 true _ A10.out).mono ?_); rintro e w' ⟨rfl, ⟨nd, rfl⟩⟩) | (go_at_call 68; (with_reducible refine (spec_l01In.calls a0_5 1 50 true _ A12.out).mono ?_); rintro e w' ⟨rfl, ⟨nd, rfl⟩⟩) | (go_at_call 68; (with_reducible refine (spec_l01In.calls a0_6 0 10000 false _ A14.out).mono ?_); rintro e w' ⟨rfl, ⟨nd, rfl⟩⟩))
        go_ret
        exact ⟨Zk, (have z0_ := GE117; Zf)⟩
      ·replace c13 := Bool.eq_false_iff.mpr c13
       subst c13
       have H1 : (some false) = some r := by rw [if_neg (show ¬ (false = true) by decide)] at H; exact H
       clear H; have H := H1; clear H1; obtain rfl := Option.some.inj H
       go_enter Try.func127, Try.ntmps127
       go_wp2_with (first | ((with_reducible refine gate_dst (N := 1) rfl ?_); refine boxZ 1 #[.string a0_0, .int .i64 a0_1, .int .i64 a0_2, .int .i64 a0_3, .int .i64 a0_4, .int .i64 a0_5, .int .i64 a0_6, .int .i64 a0_7, .int .i64 a0_8] 92 ?_; intro gb117 hg w25 hbox hb; replace BK117 := am_ (hbox); replace GW117 := am_ ((Zc : w.heap.size ≤ gb117)); replace GE117 := GW117; replace HB := (bsZ Zd hb); clear hb hbox hg; refine ci9 BK117 ?_; intros) | ((with_reducible refine gate_callee (f := 134) rfl ?_); refine goesL_ (some 5) rfl rfl Try.func134 Zj rfl #[.string a0_0] rfl Zo ?_; (with_reducible refine (spec_IsWord.calls k a0_0 true _ A2.out).mono ?_); rintro e w' ⟨rfl, ⟨nd, rfl⟩⟩; refine ⟨_, rfl, ?_⟩) | (go_at_call 68; (with_reducible refine (spec_l01In.calls a0_1 0 3 true _ A4.out).mono ?_); rintro e w' ⟨rfl, ⟨nd, rfl⟩⟩) | (go_at_call 68; (with_reducible refine (spec_l01In.calls a0_2 20 300 true _ A6.out).mono ?_); rintro e w' ⟨rfl, ⟨nd, rfl⟩⟩) | (go_at_call 68; (with_reducible refine (spec_l01In.calls a0_3 0 10000 true _ A8.out).mono ?_); rintro e w' ⟨rfl, ⟨nd, rfl⟩⟩) | (go_at_call 68; (with_reducible refine (spec_l01In.calls a0_4 0 a0_3 true _ A10.out).mono ?_); rintro e w' ⟨rfl, ⟨nd, rfl⟩⟩) | (go_at_call 68; (with_reducible refine (spec_l01In.calls a0_5 1 50 false _ A12.out).mono ?_); rintro e w' ⟨rfl, ⟨nd, rfl⟩⟩))
       go_ret
       exact ⟨Zk, (have z0_ := GE117; Zf)⟩
     ·replace c11 := Bool.eq_false_iff.mpr c11
      subst c11
      have H1 : (some false) = some r := by rw [if_neg (show ¬ (false = true) by decide)] at H; exact H
      clear H; have H := H1; clear H1; obtain rfl := Option.some.inj H
      go_enter Try.func127, Try.ntmps127
      go_wp2_with (first | ((with_reducible refine gate_dst (N := 1) rfl ?_); refine boxZ 1 #[.string a0_0, .int .i64 a0_1, .int .i64 a0_2, .int .i64 a0_3, .int .i64 a0_4, .int .i64 a0_5, .int .i64 a0_6, .int .i64 a0_7, .int .i64 a0_8] 92 ?_; intro gb117 hg w27 hbox hb; replace BK117 := am_ (hbox); replace GW117 := am_ ((Zc : w.heap.size ≤ gb117)); replace GE117 := GW117; replace HB := (bsZ Zd hb); clear hb hbox hg; refine ci9 BK117 ?_; intros) | ((with_reducible refine gate_callee (f := 134) rfl ?_); refine goesL_ (some 5) rfl rfl Try.func134 Zj rfl #[.string a0_0] rfl Zo ?_; (with_reducible refine (spec_IsWord.calls k a0_0 true _ A2.out).mono ?_); rintro e w' ⟨rfl, ⟨nd, rfl⟩⟩; refine ⟨_, rfl, ?_⟩) | (go_at_call 68; (with_reducible refine (spec_l01In.calls a0_1 0 3 true _ A4.out).mono ?_); rintro e w' ⟨rfl, ⟨nd, rfl⟩⟩) | (go_at_call 68; (with_reducible refine (spec_l01In.calls a0_2 20 300 true _ A6.out).mono ?_); rintro e w' ⟨rfl, ⟨nd, rfl⟩⟩) | (go_at_call 68; (with_reducible refine (spec_l01In.calls a0_3 0 10000 true _ A8.out).mono ?_); rintro e w' ⟨rfl, ⟨nd, rfl⟩⟩) | (go_at_call 68; (with_reducible refine (spec_l01In.calls a0_4 0 a0_3 false _ A10.out).mono ?_); rintro e w' ⟨rfl, ⟨nd, rfl⟩⟩))
      go_ret
      exact ⟨Zk, (have z0_ := GE117; Zf)⟩
    ·replace c9 := Bool.eq_false_iff.mpr c9
     subst c9
     have H1 : (some false) = some r := by rw [if_neg (show ¬ (false = true) by decide)] at H; exact H
     clear H; have H := H1; clear H1; obtain rfl := Option.some.inj H
     go_enter Try.func127, Try.ntmps127
     go_wp2_with (first | ((with_reducible refine gate_dst (N := 1) rfl ?_); refine boxZ 1 #[.string a0_0, .int .i64 a0_1, .int .i64 a0_2, .int .i64 a0_3, .int .i64 a0_4, .int .i64 a0_5, .int .i64 a0_6, .int .i64 a0_7, .int .i64 a0_8] 92 ?_; intro gb117 hg w29 hbox hb; replace BK117 := am_ (hbox); replace GW117 := am_ ((Zc : w.heap.size ≤ gb117)); replace GE117 := GW117; replace HB := (bsZ Zd hb); clear hb hbox hg; refine ci9 BK117 ?_; intros) | ((with_reducible refine gate_callee (f := 134) rfl ?_); refine goesL_ (some 5) rfl rfl Try.func134 Zj rfl #[.string a0_0] rfl Zo ?_; (with_reducible refine (spec_IsWord.calls k a0_0 true _ A2.out).mono ?_); rintro e w' ⟨rfl, ⟨nd, rfl⟩⟩; refine ⟨_, rfl, ?_⟩) | (go_at_call 68; (with_reducible refine (spec_l01In.calls a0_1 0 3 true _ A4.out).mono ?_); rintro e w' ⟨rfl, ⟨nd, rfl⟩⟩) | (go_at_call 68; (with_reducible refine (spec_l01In.calls a0_2 20 300 true _ A6.out).mono ?_); rintro e w' ⟨rfl, ⟨nd, rfl⟩⟩) | (go_at_call 68; (with_reducible refine (spec_l01In.calls a0_3 0 10000 false _ A8.out).mono ?_); rintro e w' ⟨rfl, ⟨nd, rfl⟩⟩))
     go_ret
     exact ⟨Zk, (have z0_ := GE117; Zf)⟩
   ·replace c7 := Bool.eq_false_iff.mpr c7
    subst c7
    have H1 : (some false) = some r := by rw [if_neg (show ¬ (false = true) by decide)] at H; exact H
    clear H; have H := H1; clear H1; obtain rfl := Option.some.inj H
    go_enter Try.func127, Try.ntmps127
    go_wp2_with (first | ((with_reducible refine gate_dst (N := 1) rfl ?_); refine boxZ 1 #[.string a0_0, .int .i64 a0_1, .int .i64 a0_2, .int .i64 a0_3, .int .i64 a0_4, .int .i64 a0_5, .int .i64 a0_6, .int .i64 a0_7, .int .i64 a0_8] 92 ?_; intro gb117 hg w31 hbox hb; replace BK117 := am_ (hbox); replace GW117 := am_ ((Zc : w.heap.size ≤ gb117)); replace GE117 := GW117; replace HB := (bsZ Zd hb); clear hb hbox hg; refine ci9 BK117 ?_; intros) | ((with_reducible refine gate_callee (f := 134) rfl ?_); refine goesL_ (some 5) rfl rfl Try.func134 Zj rfl #[.string a0_0] rfl Zo ?_; (with_reducible refine (spec_IsWord.calls k a0_0 true _ A2.out).mono ?_); rintro e w' ⟨rfl, ⟨nd, rfl⟩⟩; refine ⟨_, rfl, ?_⟩) | (go_at_call 68; (with_reducible refine (spec_l01In.calls a0_1 0 3 true _ A4.out).mono ?_); rintro e w' ⟨rfl, ⟨nd, rfl⟩⟩) | (go_at_call 68; (with_reducible refine (spec_l01In.calls a0_2 20 300 false _ A6.out).mono ?_); rintro e w' ⟨rfl, ⟨nd, rfl⟩⟩))
    go_ret
    exact ⟨Zk, (have z0_ := GE117; Zf)⟩
  ·replace c5 := Bool.eq_false_iff.mpr c5
   subst c5
   have H1 : (some false) = some r := by rw [if_neg (show ¬ (false = true) by decide)] at H; exact H
   clear H; have H := H1; clear H1; obtain rfl := Option.some.inj H
   go_enter Try.func127, Try.ntmps127
   go_wp2_with (first | ((with_reducible refine gate_dst (N := 1) rfl ?_); refine boxZ 1 #[.string a0_0, .int .i64 a0_1, .int .i64 a0_2, .int .i64 a0_3, .int .i64 a0_4, .int .i64 a0_5, .int .i64 a0_6, .int .i64 a0_7, .int .i64 a0_8] 92 ?_; intro gb117 hg w33 hbox hb; replace BK117 := am_ (hbox); replace GW117 := am_ ((Zc : w.heap.size ≤ gb117)); replace GE117 := GW117; replace HB := (bsZ Zd hb); clear hb hbox hg; refine ci9 BK117 ?_; intros) | ((with_reducible refine gate_callee (f := 134) rfl ?_); refine goesL_ (some 5) rfl rfl Try.func134 Zj rfl #[.string a0_0] rfl Zo ?_; (with_reducible refine (spec_IsWord.calls k a0_0 true _ A2.out).mono ?_); rintro e w' ⟨rfl, ⟨nd, rfl⟩⟩; refine ⟨_, rfl, ?_⟩) | (go_at_call 68; (with_reducible refine (spec_l01In.calls a0_1 0 3 false _ A4.out).mono ?_); rintro e w' ⟨rfl, ⟨nd, rfl⟩⟩))
   go_ret
   exact ⟨Zk, (have z0_ := GE117; Zf)⟩
 ·replace c3 := Bool.eq_false_iff.mpr c3
  subst c3
  have H1 : (some false) = some r := by rw [if_neg (show ¬ (false = true) by decide)] at H; exact H
  clear H; have H := H1; clear H1; obtain rfl := Option.some.inj H
  go_enter Try.func127, Try.ntmps127
  go_wp2_with (first | ((with_reducible refine gate_dst (N := 1) rfl ?_); refine boxZ 1 #[.string a0_0, .int .i64 a0_1, .int .i64 a0_2, .int .i64 a0_3, .int .i64 a0_4, .int .i64 a0_5, .int .i64 a0_6, .int .i64 a0_7, .int .i64 a0_8] 92 ?_; intro gb117 hg w35 hbox hb; replace BK117 := am_ (hbox); replace GW117 := am_ ((Zc : w.heap.size ≤ gb117)); replace GE117 := GW117; replace HB := (bsZ Zd hb); clear hb hbox hg; refine ci9 BK117 ?_; intros) | ((with_reducible refine gate_callee (f := 134) rfl ?_); refine goesL_ (some 5) rfl rfl Try.func134 Zj rfl #[.string a0_0] rfl Zo ?_; (with_reducible refine (spec_IsWord.calls k a0_0 false _ A2.out).mono ?_); rintro e w' ⟨rfl, ⟨nd, rfl⟩⟩; refine ⟨_, rfl, ?_⟩))
  go_ret
  exact ⟨Zk, (have z0_ := GE117; Zf)⟩
def spec_AreArticles.l0 : Nat → List (S92) → Int → Option (Bool)
 | 0, _, _ => none
 | k + 1, x0, x3 => if x3 < (x0.length : Int) then (if 0 ≤ x3 then ((spec_IsArticle.f k ((rd_T92 x0 x3).f0) ((rd_T92 x0 x3).f1) ((rd_T92 x0 x3).f2) ((rd_T92 x0 x3).f3) ((rd_T92 x0 x3).f4) ((rd_T92 x0 x3).f5) ((rd_T92 x0 x3).f6) ((rd_T92 x0 x3).f7) ((rd_T92 x0 x3).f8)).bind fun t128 => (if t128 = true then (if x3 > 0 then (if 0 ≤ (wrap64 (x3 - 1)) then (if (wrap64 (x3 - 1)) < (x0.length : Int) then (if ((Op.bytesLess (((rd_T92 x0 (wrap64 (x3 - 1))).f0).toList) (((rd_T92 x0 x3).f0).toList)) = true) then (spec_AreArticles.l0 k x0 (wrap64 (x3 + 1))) else (some false)) else (none)) else (none)) else (spec_AreArticles.l0 k x0 (wrap64 (x3 + 1)))) else (some false))) else (none)) else (some (decide ((x0.length : Int) ≤ 12)))
def spec_AreArticles.f (k : Nat) (l0 : List (S92)) : Option (Bool) := spec_AreArticles.l0 k l0 0
def spec_AreArticles.T4 : Bool × List (List Nat × List Nat) := (true, [([], []), ([], []), ([0, 1], [0, 1]), ([2], [2]), ([3], [3]), ([4], [4]), ([5, 4], [5]), ([6], [6]), ([7, 6], [6, 7]), ([8, 6, 6], [6, 8]), ([9], [9]), ([9], [9]), ([11, 9], [9, 11]), ([10, 12, 9], [9, 10, 12]), ([13, 9], [9, 13]), ([14, 9], [9, 14]), ([9], [9]), ([9], [9]), ([16, 17, 9], [9, 16, 17]), ([18, 9], [9, 18]), ([19, 9], [9, 19]), ([15, 20, 9], [9, 15, 20]), ([9, 21, 6], [6, 9, 21]), ([6, 22], [6, 22])])
def spec_AreArticles.B4 : List Nat := [0, 0, 3, 7, 15, 31, 63, 127, 255, 511, 1023, 1023, 3071, 8191, 16383, 32767, 1023, 1023, 197631, 459775, 984063, 2097151, 4194303, 8388607]
theorem spec_AreArticles.tab4 : rtab .any (opsOf Try.f92 4) = spec_AreArticles.T4 := by kernel_rfl
theorem spec_AreArticles.bits4 : waitsOk spec_AreArticles.T4.2 spec_AreArticles.B4 = true := by kernel_rfl
set_option maxHeartbeats 8000000 in
set_option maxRecDepth 100000 in
theorem spec_AreArticles.calls (k : Nat) (A0 : Option Addr) (c0 : Nat) (l0 : List (S92)) (r : Bool) (w : World) (hr0 : Kd.C k92 w A0 l0.length l0) (hc0 : l0.length ≤ c0) (h : spec_AreArticles.f k l0 = some r) :
  Calls Try.prog 92 #[.slice A0 l0.length c0] w fun e w' => e = .returned (.bool r) ∧ Below w.heap.size w w' := by
 have hu92 := Try.underlying92; have HR0 := am_ hr0; have HC0 := am_ hc0; clear hr0 hc0; have HB := am_ (Below.refl w.heap.size w); have H : (spec_AreArticles.l0 k l0 0) = some r := h; clear h; have H' := am_ H; clear H
 go_enter Try.func92, Try.ntmps92
 go_wp2
 go_loopg [3] k (fun kq v3 w' => ∃ (x3_1 : Int), v3 = .int .i64 x3_1 ∧ Aside0 (spec_AreArticles.l0 kq l0 x3_1 = some r) ∧ Aside0 (kq ≤ k) ∧ Aside0 (Below w.heap.size w w'))
 case atStart => exact ⟨(0), Za, H', ⟨Nat.le_refl _⟩, ⟨Zd⟩⟩
 case round =>
  clear H'; obtain ⟨x3_1, rfl, HA, HK1, HB⟩ := hrel
  cases gk with
  | zero => exact absurd HA.out (by simp [spec_AreArticles.l0])
  | succ k1 =>
   have H := HA.out; clear HA; simp only [spec_AreArticles.l0] at H
   by_cases c2 : x3_1 < (l0.length : Int)
   ·rw [if_pos c2] at H
    have c2b0 := decide_eq_true c2; clear c2
    by_cases c3 : 0 ≤ x3_1
    ·rw [if_pos c3] at H
     have c3b0 := decide_eq_true c3; clear c3; replace H := Option.bind_eq_some_iff.mp H; obtain ⟨t128, A40, H⟩ := H; have A4 := am_ A40; clear A40
     by_cases c5 : t128 = true
     ·subst c5
      have H1 : (if x3_1 > 0 then (if 0 ≤ (wrap64 (x3_1 - 1)) then (if (wrap64 (x3_1 - 1)) < (l0.length : Int) then (if ((Op.bytesLess (((rd_T92 l0 (wrap64 (x3_1 - 1))).f0).toList) (((rd_T92 l0 x3_1).f0).toList)) = true) then (spec_AreArticles.l0 k1 l0 (wrap64 (x3_1 + 1))) else (some false)) else (none)) else (none)) else (spec_AreArticles.l0 k1 l0 (wrap64 (x3_1 + 1)))) = some r := by rw [if_pos rfl] at H; exact H
      clear H; have H := H1; clear H1
      by_cases c6 : x3_1 > 0
      ·rw [if_pos c6] at H
       have c6b0 : decide (0 < x3_1) = true := decide_eq_true c6; clear c6; obtain ⟨ji7, hji7⟩ : ∃ j_ : Int, (wrap64 (x3_1 - 1)) = j_ := ⟨_, rfl⟩
       replace H : (if 0 ≤ (ji7) then (if (ji7) < (l0.length : Int) then (if ((Op.bytesLess (((rd_T92 l0 (ji7)).f0).toList) (((rd_T92 l0 x3_1).f0).toList)) = true) then (spec_AreArticles.l0 k1 l0 (wrap64 (x3_1 + 1))) else (some false)) else (none)) else (none)) = some r := by first | (rw [hji7] at H; exact H) | (simp only [hji7] at H ⊢; exact H)
       (try rw [hji7] at A4)
       have hji7w : (IntKind.i64.wrap (x3_1 - 1)) = ji7 := (i64_w _).trans hji7
       by_cases c8 : 0 ≤ (ji7)
       ·rw [if_pos c8] at H
        have c8b0 := decide_eq_true c8; clear c8
        by_cases c9 : (ji7) < (l0.length : Int)
        ·rw [if_pos c9] at H
         have c9b0 := decide_eq_true c9; clear c9
         by_cases c10 : ((Op.bytesLess (((rd_T92 l0 (ji7)).f0).toList) (((rd_T92 l0 x3_1).f0).toList)) = true)
         ·rw [if_pos c10] at H
          have c10b0 : (Op.bytesLess (((rd_T92 l0 (ji7)).f0).toList) (((rd_T92 l0 x3_1).f0).toList)) = true := c10; clear c10; have H' := am_ H; clear H
          try go_wp2
          replace HB := am_ (below_drew1 HB.out); have p127 : 0 ≤ (x3_1 : Int) := of_decide_eq_true Zp; have q127 : x3_1 < (l0.length : Int) := of_decide_eq_true Zp; obtain ⟨ad127, e127, hx127_0, hx127_1, hx127_2, hx127_3, hx127_4, hx127_5, hx127_6, hx127_7, hx127_8⟩ := at_T92 HR0.out x3_1 p127 q127; have hw127_8 := hx127_8; have hw127_7 := hx127_7; have hw127_6 := hx127_6; have hw127_5 := hx127_5; have hw127_4 := hx127_4; have hw127_3 := hx127_3; have hw127_2 := hx127_2; have hw127_1 := hx127_1; have hw127_0 := hx127_0
          cases e127
          replace hx127_0 := cbH HB hx127_0; replace hx127_1 := cbH HB hx127_1; replace hx127_2 := cbH HB hx127_2; replace hx127_3 := cbH HB hx127_3; replace hx127_4 := cbH HB hx127_4; replace hx127_5 := cbH HB hx127_5; replace hx127_6 := cbH HB hx127_6; replace hx127_7 := cbH HB hx127_7; replace hx127_8 := cbH HB hx127_8; replace p127 := eq_true p127; replace q127 := eq_true q127; have p129 : 0 ≤ ((ji7) : Int) := of_decide_eq_true Zp; have q129 : (ji7) < (l0.length : Int) := of_decide_eq_true Zp; obtain ⟨ad129, e129, hx129_0, hx129_1, hx129_2, hx129_3, hx129_4, hx129_5, hx129_6, hx129_7, hx129_8⟩ := at_T92 HR0.out (ji7) p129 q129; have hw129_8 := hx129_8; have hw129_7 := hx129_7; have hw129_6 := hx129_6; have hw129_5 := hx129_5; have hw129_4 := hx129_4; have hw129_3 := hx129_3; have hw129_2 := hx129_2; have hw129_1 := hx129_1; have hw129_0 := hx129_0; obtain rfl : ad127 = ad129 := (by injection e129); replace hx129_0 := cbH HB hx129_0; replace hx129_1 := cbH HB hx129_1; replace hx129_2 := cbH HB hx129_2; replace hx129_3 := cbH HB hx129_3; replace hx129_4 := cbH HB hx129_4; replace hx129_5 := cbH HB hx129_5; replace hx129_6 := cbH HB hx129_6; replace hx129_7 := cbH HB hx129_7; replace hx129_8 := cbH HB hx129_8; replace p129 := eq_true p129; replace q129 := eq_true q129; have p130 : 0 ≤ (x3_1 : Int) := of_decide_eq_true Zp; have q130 : x3_1 < (l0.length : Int) := of_decide_eq_true Zp; obtain ⟨ad130, e130, hx130_0, hx130_1, hx130_2, hx130_3, hx130_4, hx130_5, hx130_6, hx130_7, hx130_8⟩ := at_T92 HR0.out x3_1 p130 q130; have hw130_8 := hx130_8; have hw130_7 := hx130_7; have hw130_6 := hx130_6; have hw130_5 := hx130_5; have hw130_4 := hx130_4; have hw130_3 := hx130_3; have hw130_2 := hx130_2; have hw130_1 := hx130_1; have hw130_0 := hx130_0; obtain rfl : ad127 = ad130 := (by injection e130); replace hx130_0 := cbH HB hx130_0; replace hx130_1 := cbH HB hx130_1; replace hx130_2 := cbH HB hx130_2; replace hx130_3 := cbH HB hx130_3; replace hx130_4 := cbH HB hx130_4; replace hx130_5 := cbH HB hx130_5; replace hx130_6 := cbH HB hx130_6; replace hx130_7 := cbH HB hx130_7; replace hx130_8 := cbH HB hx130_8; replace p130 := eq_true p130; replace q130 := eq_true q130; refine start_ (n := 24) (S := fun w' => w'.cell? (ad127.add ((x3_1).toNat * 9)) = some (.string ((rd_T92 l0 x3_1).f0)) ∧ w'.cell? ⟨(ad127.add ((x3_1).toNat * 9)).block, (ad127.add ((x3_1).toNat * 9)).off + 1, none⟩ = some (.int .i64 ((rd_T92 l0 x3_1).f1)) ∧ w'.cell? ⟨(ad127.add ((x3_1).toNat * 9)).block, (ad127.add ((x3_1).toNat * 9)).off + 2, none⟩ = some (.int .i64 ((rd_T92 l0 x3_1).f2)) ∧ w'.cell? ⟨(ad127.add ((x3_1).toNat * 9)).block, (ad127.add ((x3_1).toNat * 9)).off + 3, none⟩ = some (.int .i64 ((rd_T92 l0 x3_1).f3)) ∧ w'.cell? ⟨(ad127.add ((x3_1).toNat * 9)).block, (ad127.add ((x3_1).toNat * 9)).off + 4, none⟩ = some (.int .i64 ((rd_T92 l0 x3_1).f4)) ∧ w'.cell? ⟨(ad127.add ((x3_1).toNat * 9)).block, (ad127.add ((x3_1).toNat * 9)).off + 5, none⟩ = some (.int .i64 ((rd_T92 l0 x3_1).f5)) ∧ w'.cell? ⟨(ad127.add ((x3_1).toNat * 9)).block, (ad127.add ((x3_1).toNat * 9)).off + 6, none⟩ = some (.int .i64 ((rd_T92 l0 x3_1).f6)) ∧ w'.cell? ⟨(ad127.add ((x3_1).toNat * 9)).block, (ad127.add ((x3_1).toNat * 9)).off + 7, none⟩ = some (.int .i64 ((rd_T92 l0 x3_1).f7)) ∧ w'.cell? ⟨(ad127.add ((x3_1).toNat * 9)).block, (ad127.add ((x3_1).toNat * 9)).off + 8, none⟩ = some (.int .i64 ((rd_T92 l0 x3_1).f8)) ∧ w'.cell? (ad127.add (((ji7)).toNat * 9)) = some (.string ((rd_T92 l0 (ji7)).f0)) ∧ w'.cell? ⟨(ad127.add (((ji7)).toNat * 9)).block, (ad127.add (((ji7)).toNat * 9)).off + 1, none⟩ = some (.int .i64 ((rd_T92 l0 (ji7)).f1)) ∧ w'.cell? ⟨(ad127.add (((ji7)).toNat * 9)).block, (ad127.add (((ji7)).toNat * 9)).off + 2, none⟩ = some (.int .i64 ((rd_T92 l0 (ji7)).f2)) ∧ w'.cell? ⟨(ad127.add (((ji7)).toNat * 9)).block, (ad127.add (((ji7)).toNat * 9)).off + 3, none⟩ = some (.int .i64 ((rd_T92 l0 (ji7)).f3)) ∧ w'.cell? ⟨(ad127.add (((ji7)).toNat * 9)).block, (ad127.add (((ji7)).toNat * 9)).off + 4, none⟩ = some (.int .i64 ((rd_T92 l0 (ji7)).f4)) ∧ w'.cell? ⟨(ad127.add (((ji7)).toNat * 9)).block, (ad127.add (((ji7)).toNat * 9)).off + 5, none⟩ = some (.int .i64 ((rd_T92 l0 (ji7)).f5)) ∧ w'.cell? ⟨(ad127.add (((ji7)).toNat * 9)).block, (ad127.add (((ji7)).toNat * 9)).off + 6, none⟩ = some (.int .i64 ((rd_T92 l0 (ji7)).f6)) ∧ w'.cell? ⟨(ad127.add (((ji7)).toNat * 9)).block, (ad127.add (((ji7)).toNat * 9)).off + 7, none⟩ = some (.int .i64 ((rd_T92 l0 (ji7)).f7)) ∧ w'.cell? ⟨(ad127.add (((ji7)).toNat * 9)).block, (ad127.add (((ji7)).toNat * 9)).off + 8, none⟩ = some (.int .i64 ((rd_T92 l0 (ji7)).f8)) ∧ w'.cell? (ad127.add ((x3_1).toNat * 9)) = some (.string ((rd_T92 l0 x3_1).f0)) ∧ w'.cell? ⟨(ad127.add ((x3_1).toNat * 9)).block, (ad127.add ((x3_1).toNat * 9)).off + 1, none⟩ = some (.int .i64 ((rd_T92 l0 x3_1).f1)) ∧ w'.cell? ⟨(ad127.add ((x3_1).toNat * 9)).block, (ad127.add ((x3_1).toNat * 9)).off + 2, none⟩ = some (.int .i64 ((rd_T92 l0 x3_1).f2)) ∧ w'.cell? ⟨(ad127.add ((x3_1).toNat * 9)).block, (ad127.add ((x3_1).toNat * 9)).off + 3, none⟩ = some (.int .i64 ((rd_T92 l0 x3_1).f3)) ∧ w'.cell? ⟨(ad127.add ((x3_1).toNat * 9)).block, (ad127.add ((x3_1).toNat * 9)).off + 4, none⟩ = some (.int .i64 ((rd_T92 l0 x3_1).f4)) ∧ w'.cell? ⟨(ad127.add ((x3_1).toNat * 9)).block, (ad127.add ((x3_1).toNat * 9)).off + 5, none⟩ = some (.int .i64 ((rd_T92 l0 x3_1).f5)) ∧ w'.cell? ⟨(ad127.add ((x3_1).toNat * 9)).block, (ad127.add ((x3_1).toNat * 9)).off + 6, none⟩ = some (.int .i64 ((rd_T92 l0 x3_1).f6)) ∧ w'.cell? ⟨(ad127.add ((x3_1).toNat * 9)).block, (ad127.add ((x3_1).toNat * 9)).off + 7, none⟩ = some (.int .i64 ((rd_T92 l0 x3_1).f7)) ∧ w'.cell? ⟨(ad127.add ((x3_1).toNat * 9)).block, (ad127.add ((x3_1).toNat * 9)).off + 8, none⟩ = some (.int .i64 ((rd_T92 l0 x3_1).f8))) (ds := []) (bT 24 0) Zj rfl rfl ⟨(cbH HB hw127_0 :), (cbH HB hw127_1 :), (cbH HB hw127_2 :), (cbH HB hw127_3 :), (cbH HB hw127_4 :), (cbH HB hw127_5 :), (cbH HB hw127_6 :), (cbH HB hw127_7 :), (cbH HB hw127_8 :), (cbH HB hw129_0 :), (cbH HB hw129_1 :), (cbH HB hw129_2 :), (cbH HB hw129_3 :), (cbH HB hw129_4 :), (cbH HB hw129_5 :), (cbH HB hw129_6 :), (cbH HB hw129_7 :), (cbH HB hw129_8 :), (cbH HB hw130_0 :), (cbH HB hw130_1 :), (cbH HB hw130_2 :), (cbH HB hw130_3 :), (cbH HB hw130_4 :), (cbH HB hw130_5 :), (cbH HB hw130_6 :), (cbH HB hw130_7 :), (cbH HB hw130_8 :)⟩ (fun hHeld => ?_); refine with_tabW spec_AreArticles.tab4 spec_AreArticles.bits4 (fun HT_ HW_ => ?_)
          generalize wr.drew = w11 at HB hx127_0 hx127_1 hx127_2 hx127_3 hx127_4 hx127_5 hx127_6 hx127_7 hx127_8 hx129_0 hx129_1 hx129_2 hx129_3 hx129_4 hx129_5 hx129_6 hx129_7 hx129_8 hx130_0 hx130_1 hx130_2 hx130_3 hx130_4 hx130_5 hx130_6 hx130_7 hx130_8 hHeld ⊢; refine pureZ HT_ 0 (some 10) (bT 24 1) ?_; refine pureZ HT_ 1 (some 11) (bT 24 2) ?_; refine pureZ HT_ 2 (some 12) (bT 24 3) ?_; refine takeZ27 HT_ HW_ 3 (some 13) (bT 24 4) hHeld ?_; refine one_ (i := 4) (N := some 14) (bT 24 5) rfl rfl (one_of HT_.out Zj) (by decide) (fun K hK => ?_); refine goes_ Try.func127 Zj rfl #[.agg #[.string ((rd_T92 l0 x3_1).f0), .int .i64 ((rd_T92 l0 x3_1).f1), .int .i64 ((rd_T92 l0 x3_1).f2), .int .i64 ((rd_T92 l0 x3_1).f3), .int .i64 ((rd_T92 l0 x3_1).f4), .int .i64 ((rd_T92 l0 x3_1).f5), .int .i64 ((rd_T92 l0 x3_1).f6), .int .i64 ((rd_T92 l0 x3_1).f7), .int .i64 ((rd_T92 l0 x3_1).f8)]] (by rfl) rfl rfl Zo ?_
          with_reducible refine (spec_IsArticle.calls k1 ((rd_T92 l0 x3_1).f0) ((rd_T92 l0 x3_1).f1) ((rd_T92 l0 x3_1).f2) ((rd_T92 l0 x3_1).f3) ((rd_T92 l0 x3_1).f4) ((rd_T92 l0 x3_1).f5) ((rd_T92 l0 x3_1).f6) ((rd_T92 l0 x3_1).f7) ((rd_T92 l0 x3_1).f8) true _ A4.out).mono ?_
          rintro e w12 ⟨rfl, hb⟩; refine ⟨_, rfl, ?_⟩; replace HB := (bsZ Zd hb)
          (try clear hb)
          (try clear hb2)
          (try clear hk)
          (try clear hi)
          refine hK.out _ _ ⟨(cbH HB hw127_0 :), (cbH HB hw127_1 :), (cbH HB hw127_2 :), (cbH HB hw127_3 :), (cbH HB hw127_4 :), (cbH HB hw127_5 :), (cbH HB hw127_6 :), (cbH HB hw127_7 :), (cbH HB hw127_8 :), (cbH HB hw129_0 :), (cbH HB hw129_1 :), (cbH HB hw129_2 :), (cbH HB hw129_3 :), (cbH HB hw129_4 :), (cbH HB hw129_5 :), (cbH HB hw129_6 :), (cbH HB hw129_7 :), (cbH HB hw129_8 :), (cbH HB hw130_0 :), (cbH HB hw130_1 :), (cbH HB hw130_2 :), (cbH HB hw130_3 :), (cbH HB hw130_4 :), (cbH HB hw130_5 :), (cbH HB hw130_6 :), (cbH HB hw130_7 :), (cbH HB hw130_8 :)⟩ (fun hHeld => ?_); clear hK K; refine normZ 14 ?_; refine pureZ HT_ 5 (some 15) (bT 24 6) ?_; refine pureZ HT_ 6 (some 16) (bT 24 7) ?_; refine pureZ HT_ 7 (some 17) (bT 24 8) ?_; refine pureZ HT_ 8 (some 18) (bT 24 9) ?_; refine pureZ HT_ 9 (some 19) (bT 24 10) ?_; refine pureZ HT_ 10 (some 20) (bT 24 11) ?_; refine pureZ HT_ 11 (some 21) (bT 24 12) ?_; refine pureZ HT_ 12 (some 22) (bT 24 13) ?_; refine pureZ HT_ 13 (some 23) (bT 24 14) ?_; refine pureZ HT_ 14 (some 24) (bT 24 15) ?_; refine pureZ HT_ 16 (some 26) #[true, true, true, true, true, true, true, true, true, true, true, true, true, true, true, false, true, false, false, false, false, false, false, false] ?_; refine pureZ HT_ 17 (some 27) #[true, true, true, true, true, true, true, true, true, true, true, true, true, true, true, false, true, true, false, false, false, false, false, false] ?_; refine pureZ HT_ 18 (some 28) #[true, true, true, true, true, true, true, true, true, true, true, true, true, true, true, false, true, true, true, false, false, false, false, false] ?_; refine pureZ HT_ 19 (some 29) #[true, true, true, true, true, true, true, true, true, true, true, true, true, true, true, false, true, true, true, true, false, false, false, false] ?_; refine takeZ27 HT_ HW_ 15 (some 25) (bT 24 20) hHeld ?_; refine takeZ27 HT_ HW_ 20 (some 30) (bT 24 21) hHeld ?_; refine pureZ HT_ 21 (some 31) (bT 24 22) ?_; refine pureZ HT_ 22 (some 32) (bT 24 23) ?_; refine pureZ HT_ 23 (some 33) (bT 24 24) ?_; refine done_ (done_of HT_.out Zj) ?_
          try go_wp2
          go_roundg k1
          case measure => have := HK1.out; omega
          case rel => exact ⟨(wrap64 (x3_1 + 1)), Za, H', ⟨Zt⟩, ⟨Zd⟩⟩
         ·rw [if_neg c10] at H
          have c10b0 : (Op.bytesLess (((rd_T92 l0 (ji7)).f0).toList) (((rd_T92 l0 x3_1).f0).toList)) = false := by simpa using c10
          clear c10; obtain rfl := Option.some.inj H
          try go_wp2
          replace HB := am_ (below_drew1 HB.out); have p127 : 0 ≤ (x3_1 : Int) := of_decide_eq_true Zp; have q127 : x3_1 < (l0.length : Int) := of_decide_eq_true Zp; obtain ⟨ad127, e127, hx127_0, hx127_1, hx127_2, hx127_3, hx127_4, hx127_5, hx127_6, hx127_7, hx127_8⟩ := at_T92 HR0.out x3_1 p127 q127; have hw127_8 := hx127_8; have hw127_7 := hx127_7; have hw127_6 := hx127_6; have hw127_5 := hx127_5; have hw127_4 := hx127_4; have hw127_3 := hx127_3; have hw127_2 := hx127_2; have hw127_1 := hx127_1; have hw127_0 := hx127_0
          cases e127
          replace hx127_0 := cbH HB hx127_0; replace hx127_1 := cbH HB hx127_1; replace hx127_2 := cbH HB hx127_2; replace hx127_3 := cbH HB hx127_3; replace hx127_4 := cbH HB hx127_4; replace hx127_5 := cbH HB hx127_5; replace hx127_6 := cbH HB hx127_6; replace hx127_7 := cbH HB hx127_7; replace hx127_8 := cbH HB hx127_8; replace p127 := eq_true p127; replace q127 := eq_true q127; have p129 : 0 ≤ ((ji7) : Int) := of_decide_eq_true Zp; have q129 : (ji7) < (l0.length : Int) := of_decide_eq_true Zp; obtain ⟨ad129, e129, hx129_0, hx129_1, hx129_2, hx129_3, hx129_4, hx129_5, hx129_6, hx129_7, hx129_8⟩ := at_T92 HR0.out (ji7) p129 q129; have hw129_8 := hx129_8; have hw129_7 := hx129_7; have hw129_6 := hx129_6; have hw129_5 := hx129_5; have hw129_4 := hx129_4; have hw129_3 := hx129_3; have hw129_2 := hx129_2; have hw129_1 := hx129_1; have hw129_0 := hx129_0; obtain rfl : ad127 = ad129 := (by injection e129); replace hx129_0 := cbH HB hx129_0; replace hx129_1 := cbH HB hx129_1; replace hx129_2 := cbH HB hx129_2; replace hx129_3 := cbH HB hx129_3; replace hx129_4 := cbH HB hx129_4; replace hx129_5 := cbH HB hx129_5; replace hx129_6 := cbH HB hx129_6; replace hx129_7 := cbH HB hx129_7; replace hx129_8 := cbH HB hx129_8; replace p129 := eq_true p129; replace q129 := eq_true q129; have p130 : 0 ≤ (x3_1 : Int) := of_decide_eq_true Zp; have q130 : x3_1 < (l0.length : Int) := of_decide_eq_true Zp; obtain ⟨ad130, e130, hx130_0, hx130_1, hx130_2, hx130_3, hx130_4, hx130_5, hx130_6, hx130_7, hx130_8⟩ := at_T92 HR0.out x3_1 p130 q130; have hw130_8 := hx130_8; have hw130_7 := hx130_7; have hw130_6 := hx130_6; have hw130_5 := hx130_5; have hw130_4 := hx130_4; have hw130_3 := hx130_3; have hw130_2 := hx130_2; have hw130_1 := hx130_1; have hw130_0 := hx130_0; obtain rfl : ad127 = ad130 := (by injection e130); replace hx130_0 := cbH HB hx130_0; replace hx130_1 := cbH HB hx130_1; replace hx130_2 := cbH HB hx130_2; replace hx130_3 := cbH HB hx130_3; replace hx130_4 := cbH HB hx130_4; replace hx130_5 := cbH HB hx130_5; replace hx130_6 := cbH HB hx130_6; replace hx130_7 := cbH HB hx130_7; replace hx130_8 := cbH HB hx130_8; replace p130 := eq_true p130; replace q130 := eq_true q130; refine start_ (n := 24) (S := fun w' => w'.cell? (ad127.add ((x3_1).toNat * 9)) = some (.string ((rd_T92 l0 x3_1).f0)) ∧ w'.cell? ⟨(ad127.add ((x3_1).toNat * 9)).block, (ad127.add ((x3_1).toNat * 9)).off + 1, none⟩ = some (.int .i64 ((rd_T92 l0 x3_1).f1)) ∧ w'.cell? ⟨(ad127.add ((x3_1).toNat * 9)).block, (ad127.add ((x3_1).toNat * 9)).off + 2, none⟩ = some (.int .i64 ((rd_T92 l0 x3_1).f2)) ∧ w'.cell? ⟨(ad127.add ((x3_1).toNat * 9)).block, (ad127.add ((x3_1).toNat * 9)).off + 3, none⟩ = some (.int .i64 ((rd_T92 l0 x3_1).f3)) ∧ w'.cell? ⟨(ad127.add ((x3_1).toNat * 9)).block, (ad127.add ((x3_1).toNat * 9)).off + 4, none⟩ = some (.int .i64 ((rd_T92 l0 x3_1).f4)) ∧ w'.cell? ⟨(ad127.add ((x3_1).toNat * 9)).block, (ad127.add ((x3_1).toNat * 9)).off + 5, none⟩ = some (.int .i64 ((rd_T92 l0 x3_1).f5)) ∧ w'.cell? ⟨(ad127.add ((x3_1).toNat * 9)).block, (ad127.add ((x3_1).toNat * 9)).off + 6, none⟩ = some (.int .i64 ((rd_T92 l0 x3_1).f6)) ∧ w'.cell? ⟨(ad127.add ((x3_1).toNat * 9)).block, (ad127.add ((x3_1).toNat * 9)).off + 7, none⟩ = some (.int .i64 ((rd_T92 l0 x3_1).f7)) ∧ w'.cell? ⟨(ad127.add ((x3_1).toNat * 9)).block, (ad127.add ((x3_1).toNat * 9)).off + 8, none⟩ = some (.int .i64 ((rd_T92 l0 x3_1).f8)) ∧ w'.cell? (ad127.add (((ji7)).toNat * 9)) = some (.string ((rd_T92 l0 (ji7)).f0)) ∧ w'.cell? ⟨(ad127.add (((ji7)).toNat * 9)).block, (ad127.add (((ji7)).toNat * 9)).off + 1, none⟩ = some (.int .i64 ((rd_T92 l0 (ji7)).f1)) ∧ w'.cell? ⟨(ad127.add (((ji7)).toNat * 9)).block, (ad127.add (((ji7)).toNat * 9)).off + 2, none⟩ = some (.int .i64 ((rd_T92 l0 (ji7)).f2)) ∧ w'.cell? ⟨(ad127.add (((ji7)).toNat * 9)).block, (ad127.add (((ji7)).toNat * 9)).off + 3, none⟩ = some (.int .i64 ((rd_T92 l0 (ji7)).f3)) ∧ w'.cell? ⟨(ad127.add (((ji7)).toNat * 9)).block, (ad127.add (((ji7)).toNat * 9)).off + 4, none⟩ = some (.int .i64 ((rd_T92 l0 (ji7)).f4)) ∧ w'.cell? ⟨(ad127.add (((ji7)).toNat * 9)).block, (ad127.add (((ji7)).toNat * 9)).off + 5, none⟩ = some (.int .i64 ((rd_T92 l0 (ji7)).f5)) ∧ w'.cell? ⟨(ad127.add (((ji7)).toNat * 9)).block, (ad127.add (((ji7)).toNat * 9)).off + 6, none⟩ = some (.int .i64 ((rd_T92 l0 (ji7)).f6)) ∧ w'.cell? ⟨(ad127.add (((ji7)).toNat * 9)).block, (ad127.add (((ji7)).toNat * 9)).off + 7, none⟩ = some (.int .i64 ((rd_T92 l0 (ji7)).f7)) ∧ w'.cell? ⟨(ad127.add (((ji7)).toNat * 9)).block, (ad127.add (((ji7)).toNat * 9)).off + 8, none⟩ = some (.int .i64 ((rd_T92 l0 (ji7)).f8)) ∧ w'.cell? (ad127.add ((x3_1).toNat * 9)) = some (.string ((rd_T92 l0 x3_1).f0)) ∧ w'.cell? ⟨(ad127.add ((x3_1).toNat * 9)).block, (ad127.add ((x3_1).toNat * 9)).off + 1, none⟩ = some (.int .i64 ((rd_T92 l0 x3_1).f1)) ∧ w'.cell? ⟨(ad127.add ((x3_1).toNat * 9)).block, (ad127.add ((x3_1).toNat * 9)).off + 2, none⟩ = some (.int .i64 ((rd_T92 l0 x3_1).f2)) ∧ w'.cell? ⟨(ad127.add ((x3_1).toNat * 9)).block, (ad127.add ((x3_1).toNat * 9)).off + 3, none⟩ = some (.int .i64 ((rd_T92 l0 x3_1).f3)) ∧ w'.cell? ⟨(ad127.add ((x3_1).toNat * 9)).block, (ad127.add ((x3_1).toNat * 9)).off + 4, none⟩ = some (.int .i64 ((rd_T92 l0 x3_1).f4)) ∧ w'.cell? ⟨(ad127.add ((x3_1).toNat * 9)).block, (ad127.add ((x3_1).toNat * 9)).off + 5, none⟩ = some (.int .i64 ((rd_T92 l0 x3_1).f5)) ∧ w'.cell? ⟨(ad127.add ((x3_1).toNat * 9)).block, (ad127.add ((x3_1).toNat * 9)).off + 6, none⟩ = some (.int .i64 ((rd_T92 l0 x3_1).f6)) ∧ w'.cell? ⟨(ad127.add ((x3_1).toNat * 9)).block, (ad127.add ((x3_1).toNat * 9)).off + 7, none⟩ = some (.int .i64 ((rd_T92 l0 x3_1).f7)) ∧ w'.cell? ⟨(ad127.add ((x3_1).toNat * 9)).block, (ad127.add ((x3_1).toNat * 9)).off + 8, none⟩ = some (.int .i64 ((rd_T92 l0 x3_1).f8))) (ds := []) (bT 24 0) Zj rfl rfl ⟨(cbH HB hw127_0 :), (cbH HB hw127_1 :), (cbH HB hw127_2 :), (cbH HB hw127_3 :), (cbH HB hw127_4 :), (cbH HB hw127_5 :), (cbH HB hw127_6 :), (cbH HB hw127_7 :), (cbH HB hw127_8 :), (cbH HB hw129_0 :), (cbH HB hw129_1 :), (cbH HB hw129_2 :), (cbH HB hw129_3 :), (cbH HB hw129_4 :), (cbH HB hw129_5 :), (cbH HB hw129_6 :), (cbH HB hw129_7 :), (cbH HB hw129_8 :), (cbH HB hw130_0 :), (cbH HB hw130_1 :), (cbH HB hw130_2 :), (cbH HB hw130_3 :), (cbH HB hw130_4 :), (cbH HB hw130_5 :), (cbH HB hw130_6 :), (cbH HB hw130_7 :), (cbH HB hw130_8 :)⟩ (fun hHeld => ?_); refine with_tabW spec_AreArticles.tab4 spec_AreArticles.bits4 (fun HT_ HW_ => ?_)
          generalize wr.drew = w13 at HB hx127_0 hx127_1 hx127_2 hx127_3 hx127_4 hx127_5 hx127_6 hx127_7 hx127_8 hx129_0 hx129_1 hx129_2 hx129_3 hx129_4 hx129_5 hx129_6 hx129_7 hx129_8 hx130_0 hx130_1 hx130_2 hx130_3 hx130_4 hx130_5 hx130_6 hx130_7 hx130_8 hHeld ⊢; refine pureZ HT_ 0 (some 10) (bT 24 1) ?_; refine pureZ HT_ 1 (some 11) (bT 24 2) ?_; refine pureZ HT_ 2 (some 12) (bT 24 3) ?_; refine takeZ27 HT_ HW_ 3 (some 13) (bT 24 4) hHeld ?_; refine one_ (i := 4) (N := some 14) (bT 24 5) rfl rfl (one_of HT_.out Zj) (by decide) (fun K hK => ?_); refine goes_ Try.func127 Zj rfl #[.agg #[.string ((rd_T92 l0 x3_1).f0), .int .i64 ((rd_T92 l0 x3_1).f1), .int .i64 ((rd_T92 l0 x3_1).f2), .int .i64 ((rd_T92 l0 x3_1).f3), .int .i64 ((rd_T92 l0 x3_1).f4), .int .i64 ((rd_T92 l0 x3_1).f5), .int .i64 ((rd_T92 l0 x3_1).f6), .int .i64 ((rd_T92 l0 x3_1).f7), .int .i64 ((rd_T92 l0 x3_1).f8)]] (by rfl) rfl rfl Zo ?_
          with_reducible refine (spec_IsArticle.calls k1 ((rd_T92 l0 x3_1).f0) ((rd_T92 l0 x3_1).f1) ((rd_T92 l0 x3_1).f2) ((rd_T92 l0 x3_1).f3) ((rd_T92 l0 x3_1).f4) ((rd_T92 l0 x3_1).f5) ((rd_T92 l0 x3_1).f6) ((rd_T92 l0 x3_1).f7) ((rd_T92 l0 x3_1).f8) true _ A4.out).mono ?_
          rintro e w14 ⟨rfl, hb⟩; refine ⟨_, rfl, ?_⟩; replace HB := (bsZ Zd hb)
          (try clear hb)
          (try clear hb2)
          (try clear hk)
          (try clear hi)
          refine hK.out _ _ ⟨(cbH HB hw127_0 :), (cbH HB hw127_1 :), (cbH HB hw127_2 :), (cbH HB hw127_3 :), (cbH HB hw127_4 :), (cbH HB hw127_5 :), (cbH HB hw127_6 :), (cbH HB hw127_7 :), (cbH HB hw127_8 :), (cbH HB hw129_0 :), (cbH HB hw129_1 :), (cbH HB hw129_2 :), (cbH HB hw129_3 :), (cbH HB hw129_4 :), (cbH HB hw129_5 :), (cbH HB hw129_6 :), (cbH HB hw129_7 :), (cbH HB hw129_8 :), (cbH HB hw130_0 :), (cbH HB hw130_1 :), (cbH HB hw130_2 :), (cbH HB hw130_3 :), (cbH HB hw130_4 :), (cbH HB hw130_5 :), (cbH HB hw130_6 :), (cbH HB hw130_7 :), (cbH HB hw130_8 :)⟩ (fun hHeld => ?_); clear hK K; refine normZ 14 ?_; refine pureZ HT_ 5 (some 15) (bT 24 6) ?_; refine pureZ HT_ 6 (some 16) (bT 24 7) ?_; refine pureZ HT_ 7 (some 17) (bT 24 8) ?_; refine pureZ HT_ 8 (some 18) (bT 24 9) ?_; refine pureZ HT_ 9 (some 19) (bT 24 10) ?_; refine pureZ HT_ 10 (some 20) (bT 24 11) ?_; refine pureZ HT_ 11 (some 21) (bT 24 12) ?_; refine pureZ HT_ 12 (some 22) (bT 24 13) ?_; refine pureZ HT_ 13 (some 23) (bT 24 14) ?_; refine pureZ HT_ 14 (some 24) (bT 24 15) ?_; refine pureZ HT_ 16 (some 26) #[true, true, true, true, true, true, true, true, true, true, true, true, true, true, true, false, true, false, false, false, false, false, false, false] ?_; refine pureZ HT_ 17 (some 27) #[true, true, true, true, true, true, true, true, true, true, true, true, true, true, true, false, true, true, false, false, false, false, false, false] ?_; refine pureZ HT_ 18 (some 28) #[true, true, true, true, true, true, true, true, true, true, true, true, true, true, true, false, true, true, true, false, false, false, false, false] ?_; refine pureZ HT_ 19 (some 29) #[true, true, true, true, true, true, true, true, true, true, true, true, true, true, true, false, true, true, true, true, false, false, false, false] ?_; refine takeZ27 HT_ HW_ 15 (some 25) (bT 24 20) hHeld ?_; refine takeZ27 HT_ HW_ 20 (some 30) (bT 24 21) hHeld ?_; refine pureZ HT_ 21 (some 31) (bT 24 22) ?_; refine pureZ HT_ 22 (some 32) (bT 24 23) ?_; refine pureZ HT_ 23 (some 33) (bT 24 24) ?_; refine done_ (done_of HT_.out Zj) ?_
          try go_wp2
          go_ret
          exact ⟨Zs, Zd⟩
        ·rw [if_neg c9] at H
         exact absurd H (by simp)
       ·rw [if_neg c8] at H
        exact absurd H (by simp)
      ·rw [if_neg c6] at H
       have c6b0 : decide (0 < x3_1) = false := decide_eq_false c6; clear c6; have H' := am_ H; clear H
       try go_wp2
       replace HB := am_ (below_drew1 HB.out); have p127 : 0 ≤ (x3_1 : Int) := of_decide_eq_true Zp; have q127 : x3_1 < (l0.length : Int) := of_decide_eq_true Zp; obtain ⟨ad127, e127, hx127_0, hx127_1, hx127_2, hx127_3, hx127_4, hx127_5, hx127_6, hx127_7, hx127_8⟩ := at_T92 HR0.out x3_1 p127 q127; have hw127_8 := hx127_8; have hw127_7 := hx127_7; have hw127_6 := hx127_6; have hw127_5 := hx127_5; have hw127_4 := hx127_4; have hw127_3 := hx127_3; have hw127_2 := hx127_2; have hw127_1 := hx127_1; have hw127_0 := hx127_0
       cases e127
       replace hx127_0 := cbH HB hx127_0; replace hx127_1 := cbH HB hx127_1; replace hx127_2 := cbH HB hx127_2; replace hx127_3 := cbH HB hx127_3; replace hx127_4 := cbH HB hx127_4; replace hx127_5 := cbH HB hx127_5; replace hx127_6 := cbH HB hx127_6; replace hx127_7 := cbH HB hx127_7; replace hx127_8 := cbH HB hx127_8; replace p127 := eq_true p127; replace q127 := eq_true q127; refine start_ (n := 24) (S := fun w' => w'.cell? (ad127.add ((x3_1).toNat * 9)) = some (.string ((rd_T92 l0 x3_1).f0)) ∧ w'.cell? ⟨(ad127.add ((x3_1).toNat * 9)).block, (ad127.add ((x3_1).toNat * 9)).off + 1, none⟩ = some (.int .i64 ((rd_T92 l0 x3_1).f1)) ∧ w'.cell? ⟨(ad127.add ((x3_1).toNat * 9)).block, (ad127.add ((x3_1).toNat * 9)).off + 2, none⟩ = some (.int .i64 ((rd_T92 l0 x3_1).f2)) ∧ w'.cell? ⟨(ad127.add ((x3_1).toNat * 9)).block, (ad127.add ((x3_1).toNat * 9)).off + 3, none⟩ = some (.int .i64 ((rd_T92 l0 x3_1).f3)) ∧ w'.cell? ⟨(ad127.add ((x3_1).toNat * 9)).block, (ad127.add ((x3_1).toNat * 9)).off + 4, none⟩ = some (.int .i64 ((rd_T92 l0 x3_1).f4)) ∧ w'.cell? ⟨(ad127.add ((x3_1).toNat * 9)).block, (ad127.add ((x3_1).toNat * 9)).off + 5, none⟩ = some (.int .i64 ((rd_T92 l0 x3_1).f5)) ∧ w'.cell? ⟨(ad127.add ((x3_1).toNat * 9)).block, (ad127.add ((x3_1).toNat * 9)).off + 6, none⟩ = some (.int .i64 ((rd_T92 l0 x3_1).f6)) ∧ w'.cell? ⟨(ad127.add ((x3_1).toNat * 9)).block, (ad127.add ((x3_1).toNat * 9)).off + 7, none⟩ = some (.int .i64 ((rd_T92 l0 x3_1).f7)) ∧ w'.cell? ⟨(ad127.add ((x3_1).toNat * 9)).block, (ad127.add ((x3_1).toNat * 9)).off + 8, none⟩ = some (.int .i64 ((rd_T92 l0 x3_1).f8))) (ds := []) (bT 24 0) Zj rfl rfl ⟨(cbH HB hw127_0 :), (cbH HB hw127_1 :), (cbH HB hw127_2 :), (cbH HB hw127_3 :), (cbH HB hw127_4 :), (cbH HB hw127_5 :), (cbH HB hw127_6 :), (cbH HB hw127_7 :), (cbH HB hw127_8 :)⟩ (fun hHeld => ?_); refine with_tabW spec_AreArticles.tab4 spec_AreArticles.bits4 (fun HT_ HW_ => ?_); generalize wr.drew = w15 at HB hx127_0 hx127_1 hx127_2 hx127_3 hx127_4 hx127_5 hx127_6 hx127_7 hx127_8 hHeld ⊢; refine pureZ HT_ 0 (some 10) (bT 24 1) ?_; refine pureZ HT_ 1 (some 11) (bT 24 2) ?_; refine pureZ HT_ 2 (some 12) (bT 24 3) ?_; refine takeZ9 HT_ HW_ 3 (some 13) (bT 24 4) hHeld ?_; refine one_ (i := 4) (N := some 14) (bT 24 5) rfl rfl (one_of HT_.out Zj) (by decide) (fun K hK => ?_); refine goes_ Try.func127 Zj rfl #[.agg #[.string ((rd_T92 l0 x3_1).f0), .int .i64 ((rd_T92 l0 x3_1).f1), .int .i64 ((rd_T92 l0 x3_1).f2), .int .i64 ((rd_T92 l0 x3_1).f3), .int .i64 ((rd_T92 l0 x3_1).f4), .int .i64 ((rd_T92 l0 x3_1).f5), .int .i64 ((rd_T92 l0 x3_1).f6), .int .i64 ((rd_T92 l0 x3_1).f7), .int .i64 ((rd_T92 l0 x3_1).f8)]] (by rfl) rfl rfl Zo ?_
       with_reducible refine (spec_IsArticle.calls k1 ((rd_T92 l0 x3_1).f0) ((rd_T92 l0 x3_1).f1) ((rd_T92 l0 x3_1).f2) ((rd_T92 l0 x3_1).f3) ((rd_T92 l0 x3_1).f4) ((rd_T92 l0 x3_1).f5) ((rd_T92 l0 x3_1).f6) ((rd_T92 l0 x3_1).f7) ((rd_T92 l0 x3_1).f8) true _ A4.out).mono ?_
       rintro e w16 ⟨rfl, hb⟩; refine ⟨_, rfl, ?_⟩; replace HB := (bsZ Zd hb)
       (try clear hb)
       (try clear hb2)
       (try clear hk)
       (try clear hi)
       refine hK.out _ _ ⟨(cbH HB hw127_0 :), (cbH HB hw127_1 :), (cbH HB hw127_2 :), (cbH HB hw127_3 :), (cbH HB hw127_4 :), (cbH HB hw127_5 :), (cbH HB hw127_6 :), (cbH HB hw127_7 :), (cbH HB hw127_8 :)⟩ (fun hHeld => ?_); clear hK K; refine normZ 14 ?_; refine pureZ HT_ 5 (some 15) (bT 24 6) ?_; refine pureZ HT_ 6 (some 16) (bT 24 7) ?_; refine pureZ HT_ 7 (some 17) (bT 24 8) ?_; refine pureZ HT_ 8 (some 18) (bT 24 9) ?_; refine pureZ HT_ 9 (some 19) (bT 24 10) ?_; refine pureU HT_ 10 (some 20) (bT 24 11) ?_; refine pureU HT_ 11 (some 21) (bT 24 12) ?_; refine pureU HT_ 12 (some 22) (bT 24 13) ?_; refine pureU HT_ 13 (some 23) (bT 24 14) ?_; refine pureU HT_ 14 (some 24) (bT 24 15) ?_; refine pureU HT_ 15 (some 25) (bT 24 16) ?_; refine pureU HT_ 16 (some 26) (bT 24 17) ?_; refine pureU HT_ 17 (some 27) (bT 24 18) ?_; refine pureU HT_ 18 (some 28) (bT 24 19) ?_; refine pureU HT_ 19 (some 29) (bT 24 20) ?_; refine pureU HT_ 20 (some 30) (bT 24 21) ?_; refine pureU HT_ 21 (some 31) (bT 24 22) ?_; refine pureZ HT_ 22 (some 32) (bT 24 23) ?_; refine pureZ HT_ 23 (some 33) (bT 24 24) ?_; refine done_ (done_of HT_.out Zj) ?_
       try go_wp2
       go_roundg k1
       case measure => have := HK1.out; omega
       case rel => exact ⟨(wrap64 (x3_1 + 1)), Za, H', ⟨Zt⟩, ⟨Zd⟩⟩
     ·replace c5 := Bool.eq_false_iff.mpr c5
      subst c5
      have H1 : (some false) = some r := by rw [if_neg (show ¬ (false = true) by decide)] at H; exact H
      clear H; have H := H1; clear H1; obtain rfl := Option.some.inj H
      try go_wp2
      replace HB := am_ (below_drew1 HB.out); have p127 : 0 ≤ (x3_1 : Int) := of_decide_eq_true Zp; have q127 : x3_1 < (l0.length : Int) := of_decide_eq_true Zp; obtain ⟨ad127, e127, hx127_0, hx127_1, hx127_2, hx127_3, hx127_4, hx127_5, hx127_6, hx127_7, hx127_8⟩ := at_T92 HR0.out x3_1 p127 q127; have hw127_8 := hx127_8; have hw127_7 := hx127_7; have hw127_6 := hx127_6; have hw127_5 := hx127_5; have hw127_4 := hx127_4; have hw127_3 := hx127_3; have hw127_2 := hx127_2; have hw127_1 := hx127_1; have hw127_0 := hx127_0
      cases e127
      replace hx127_0 := cbH HB hx127_0; replace hx127_1 := cbH HB hx127_1; replace hx127_2 := cbH HB hx127_2; replace hx127_3 := cbH HB hx127_3; replace hx127_4 := cbH HB hx127_4; replace hx127_5 := cbH HB hx127_5; replace hx127_6 := cbH HB hx127_6; replace hx127_7 := cbH HB hx127_7; replace hx127_8 := cbH HB hx127_8; replace p127 := eq_true p127; replace q127 := eq_true q127; refine start_ (n := 24) (S := fun w' => w'.cell? (ad127.add ((x3_1).toNat * 9)) = some (.string ((rd_T92 l0 x3_1).f0)) ∧ w'.cell? ⟨(ad127.add ((x3_1).toNat * 9)).block, (ad127.add ((x3_1).toNat * 9)).off + 1, none⟩ = some (.int .i64 ((rd_T92 l0 x3_1).f1)) ∧ w'.cell? ⟨(ad127.add ((x3_1).toNat * 9)).block, (ad127.add ((x3_1).toNat * 9)).off + 2, none⟩ = some (.int .i64 ((rd_T92 l0 x3_1).f2)) ∧ w'.cell? ⟨(ad127.add ((x3_1).toNat * 9)).block, (ad127.add ((x3_1).toNat * 9)).off + 3, none⟩ = some (.int .i64 ((rd_T92 l0 x3_1).f3)) ∧ w'.cell? ⟨(ad127.add ((x3_1).toNat * 9)).block, (ad127.add ((x3_1).toNat * 9)).off + 4, none⟩ = some (.int .i64 ((rd_T92 l0 x3_1).f4)) ∧ w'.cell? ⟨(ad127.add ((x3_1).toNat * 9)).block, (ad127.add ((x3_1).toNat * 9)).off + 5, none⟩ = some (.int .i64 ((rd_T92 l0 x3_1).f5)) ∧ w'.cell? ⟨(ad127.add ((x3_1).toNat * 9)).block, (ad127.add ((x3_1).toNat * 9)).off + 6, none⟩ = some (.int .i64 ((rd_T92 l0 x3_1).f6)) ∧ w'.cell? ⟨(ad127.add ((x3_1).toNat * 9)).block, (ad127.add ((x3_1).toNat * 9)).off + 7, none⟩ = some (.int .i64 ((rd_T92 l0 x3_1).f7)) ∧ w'.cell? ⟨(ad127.add ((x3_1).toNat * 9)).block, (ad127.add ((x3_1).toNat * 9)).off + 8, none⟩ = some (.int .i64 ((rd_T92 l0 x3_1).f8))) (ds := []) (bT 24 0) Zj rfl rfl ⟨(cbH HB hw127_0 :), (cbH HB hw127_1 :), (cbH HB hw127_2 :), (cbH HB hw127_3 :), (cbH HB hw127_4 :), (cbH HB hw127_5 :), (cbH HB hw127_6 :), (cbH HB hw127_7 :), (cbH HB hw127_8 :)⟩ (fun hHeld => ?_); refine with_tabW spec_AreArticles.tab4 spec_AreArticles.bits4 (fun HT_ HW_ => ?_); generalize wr.drew = w17 at HB hx127_0 hx127_1 hx127_2 hx127_3 hx127_4 hx127_5 hx127_6 hx127_7 hx127_8 hHeld ⊢; refine pureZ HT_ 0 (some 10) (bT 24 1) ?_; refine pureZ HT_ 1 (some 11) (bT 24 2) ?_; refine pureZ HT_ 2 (some 12) (bT 24 3) ?_; refine takeZ9 HT_ HW_ 3 (some 13) (bT 24 4) hHeld ?_; refine one_ (i := 4) (N := some 14) (bT 24 5) rfl rfl (one_of HT_.out Zj) (by decide) (fun K hK => ?_); refine goes_ Try.func127 Zj rfl #[.agg #[.string ((rd_T92 l0 x3_1).f0), .int .i64 ((rd_T92 l0 x3_1).f1), .int .i64 ((rd_T92 l0 x3_1).f2), .int .i64 ((rd_T92 l0 x3_1).f3), .int .i64 ((rd_T92 l0 x3_1).f4), .int .i64 ((rd_T92 l0 x3_1).f5), .int .i64 ((rd_T92 l0 x3_1).f6), .int .i64 ((rd_T92 l0 x3_1).f7), .int .i64 ((rd_T92 l0 x3_1).f8)]] (by rfl) rfl rfl Zo ?_
      with_reducible refine (spec_IsArticle.calls k1 ((rd_T92 l0 x3_1).f0) ((rd_T92 l0 x3_1).f1) ((rd_T92 l0 x3_1).f2) ((rd_T92 l0 x3_1).f3) ((rd_T92 l0 x3_1).f4) ((rd_T92 l0 x3_1).f5) ((rd_T92 l0 x3_1).f6) ((rd_T92 l0 x3_1).f7) ((rd_T92 l0 x3_1).f8) false _ A4.out).mono ?_
      rintro e w18 ⟨rfl, hb⟩; refine ⟨_, rfl, ?_⟩; replace HB := (bsZ Zd hb)
      (try clear hb)
      (try clear hb2)
      (try clear hk)
      (try clear hi)
      refine hK.out _ _ ⟨(cbH HB hw127_0 :), (cbH HB hw127_1 :), (cbH HB hw127_2 :), (cbH HB hw127_3 :), (cbH HB hw127_4 :), (cbH HB hw127_5 :), (cbH HB hw127_6 :), (cbH HB hw127_7 :), (cbH HB hw127_8 :)⟩ (fun hHeld => ?_); clear hK K; refine normZ 14 ?_; refine pureZ HT_ 5 (some 15) (bT 24 6) ?_; refine pureZ HT_ 6 (some 16) (bT 24 7) ?_; refine pureU HT_ 7 (some 17) (bT 24 8) ?_; refine pureU HT_ 8 (some 18) (bT 24 9) ?_; refine pureU HT_ 9 (some 19) (bT 24 10) ?_; refine pureU HT_ 10 (some 20) (bT 24 11) ?_; refine pureU HT_ 11 (some 21) (bT 24 12) ?_; refine pureU HT_ 12 (some 22) (bT 24 13) ?_; refine pureU HT_ 13 (some 23) (bT 24 14) ?_; refine pureU HT_ 14 (some 24) (bT 24 15) ?_; refine pureU HT_ 15 (some 25) (bT 24 16) ?_; refine pureU HT_ 16 (some 26) (bT 24 17) ?_; refine pureU HT_ 17 (some 27) (bT 24 18) ?_; refine pureU HT_ 18 (some 28) (bT 24 19) ?_; refine pureU HT_ 19 (some 29) (bT 24 20) ?_; refine pureU HT_ 20 (some 30) (bT 24 21) ?_; refine pureU HT_ 21 (some 31) (bT 24 22) ?_; refine pureU HT_ 22 (some 32) (bT 24 23) ?_; refine pureZ HT_ 23 (some 33) (bT 24 24) ?_; refine done_ (done_of HT_.out Zj) ?_
      try go_wp2
      go_ret
      exact ⟨Zk, Zd⟩
    ·rw [if_neg c3] at H
     exact absurd H (by simp)
   ·rw [if_neg c2] at H
    have c2b0 := decide_eq_false c2; clear c2; obtain rfl := Option.some.inj H
    go_wp2
    go_ret
    exact ⟨Zk, Zd⟩
def spec_l07Has.f (l0 : List (S108)) (a1 : Int) (a2 : Int) : Option (Bool) := (spec_l01In.f a1 0 (wrap64 ((l0.length : Int) - 1))).bind fun t131 => (if t131 = true then (if 0 ≤ a1 then (if a1 < (l0.length : Int) then ((spec_l01In.f a2 0 (wrap64 (((rd_T108 l0 a1).f0) - 1))).bind fun t133 => (some t133)) else (none)) else (none)) else (some false))
set_option maxHeartbeats 8000000 in
set_option maxRecDepth 100000 in
theorem spec_l07Has.calls (A0 : Option Addr) (c0 : Nat) (l0 : List (S108)) (a1 : Int) (a2 : Int) (r : Bool) (w : World) (hr0 : Kd.C k108 w A0 l0.length l0) (hc0 : l0.length ≤ c0) (h : spec_l07Has.f l0 a1 a2 = some r) :
  Calls Try.prog 93 #[.slice A0 l0.length c0, .int .i64 a1, .int .i64 a2] w fun e w' => e = .returned (.bool r) ∧ Drawn0 w w' := by
 have HR0 := am_ hr0; have HC0 := am_ hc0; clear hr0 hc0; have H : ((spec_l01In.f a1 0 (wrap64 ((l0.length : Int) - 1))).bind fun t131 => (if t131 = true then (if 0 ≤ a1 then (if a1 < (l0.length : Int) then ((spec_l01In.f a2 0 (wrap64 (((rd_T108 l0 a1).f0) - 1))).bind fun t133 => (some t133)) else (none)) else (none)) else (some false))) = some r := h; clear h; replace H := Option.bind_eq_some_iff.mp H; obtain ⟨t131, A40, H⟩ := H; have A4 := am_ A40; clear A40
 by_cases c5 : t131 = true
 ·subst c5
  have H1 : (if 0 ≤ a1 then (if a1 < (l0.length : Int) then ((spec_l01In.f a2 0 (wrap64 (((rd_T108 l0 a1).f0) - 1))).bind fun t133 => (some t133)) else (none)) else (none)) = some r := by rw [if_pos rfl] at H; exact H
  clear H; have H := H1; clear H1
  by_cases c6 : 0 ≤ a1
  ·rw [if_pos c6] at H
   have c6b0 := decide_eq_true c6; clear c6
   by_cases c7 : a1 < (l0.length : Int)
   ·rw [if_pos c7] at H
    have c7b0 := decide_eq_true c7; clear c7; replace H := Option.bind_eq_some_iff.mp H; obtain ⟨t133, A80, H⟩ := H; have A8 := am_ A80; clear A80; obtain rfl := Option.some.inj H
    go_enter Try.func93, Try.ntmps93
    go_wp2_with (first | ((with_reducible refine gate_callee (f := 68) rfl ?_); refine goesL_ (some 11) rfl rfl Try.func68 Zj rfl #[.int .i64 a1, .int .i64 0, .int .i64 (wrap64 ((l0.length : Int) - 1))] rfl Zo ?_; (with_reducible refine (spec_l01In.calls a1 0 (wrap64 ((l0.length : Int) - 1)) true _ A4.out).mono ?_); rintro e w' ⟨rfl, ⟨nd, rfl⟩⟩; refine ⟨_, rfl, ?_⟩; have p132 : 0 ≤ (a1 : Int) := of_decide_eq_true Zp; have q132 : a1 < (l0.length : Int) := of_decide_eq_true Zp; obtain ⟨ad132, e132, hx132_0, hx132_1⟩ := at_T108 HR0.out a1 p132 q132; cases e132; replace p132 := eq_true p132; replace q132 := eq_true q132) | (go_at_call 68; (with_reducible refine (spec_l01In.calls a2 0 (wrap64 (((rd_T108 l0 a1).f0) - 1)) t133 _ A8.out).mono ?_); rintro e w' ⟨rfl, ⟨nd, rfl⟩⟩))
    go_ret
    exact ⟨Za, Zb⟩
   ·rw [if_neg c7] at H
    exact absurd H (by simp)
  ·rw [if_neg c6] at H
   exact absurd H (by simp)
 ·replace c5 := Bool.eq_false_iff.mpr c5
  subst c5
  have H1 : (some false) = some r := by rw [if_neg (show ¬ (false = true) by decide)] at H; exact H
  clear H; have H := H1; clear H1; obtain rfl := Option.some.inj H
  go_enter Try.func93, Try.ntmps93
  go_wp2_with (first | ((with_reducible refine gate_callee (f := 68) rfl ?_); refine goesL_ (some 11) rfl rfl Try.func68 Zj rfl #[.int .i64 a1, .int .i64 0, .int .i64 (wrap64 ((l0.length : Int) - 1))] rfl Zo ?_; (with_reducible refine (spec_l01In.calls a1 0 (wrap64 ((l0.length : Int) - 1)) false _ A4.out).mono ?_); rintro e w' ⟨rfl, ⟨nd, rfl⟩⟩; refine ⟨_, rfl, ?_⟩))
  go_ret
  exact ⟨Za, Zb⟩
def spec_l03Find.l0 : Nat → List (S92) → ByteArray → Int → Option (Int)
 | 0, _, _, _ => none
 | k + 1, x0, x1, x5 => if x5 < (x0.length : Int) then (if 0 ≤ x5 then (if ((rd_T92 x0 x5).f0).toList = x1.toList then (some x5) else (spec_l03Find.l0 k x0 x1 (wrap64 (x5 + 1)))) else (none)) else (some (-1))
def spec_l03Find.f (k : Nat) (l0 : List (S92)) (a1 : ByteArray) : Option (Int) := spec_l03Find.l0 k l0 a1 0
set_option maxHeartbeats 8000000 in
set_option maxRecDepth 100000 in
theorem spec_l03Find.calls (k : Nat) (A0 : Option Addr) (c0 : Nat) (l0 : List (S92)) (a1 : ByteArray) (r : Int) (w : World) (hr0 : Kd.C k92 w A0 l0.length l0) (hc0 : l0.length ≤ c0) (h : spec_l03Find.f k l0 a1 = some r) :
  Calls Try.prog 94 #[.slice A0 l0.length c0, .string a1] w fun e w' => e = .returned (.int .i64 r) ∧ Drawn0 w w' := by
 have HR0 := am_ hr0; have HC0 := am_ hc0; clear hr0 hc0; have H : (spec_l03Find.l0 k l0 a1 0) = some r := h; clear h; have H' := am_ H; clear H
 go_enter Try.func94, Try.ntmps94
 go_wp2
 go_loopg [5] k (fun kq v5 w' => ∃ (x5_1 : Int), v5 = .int .i64 x5_1 ∧ Aside0 (spec_l03Find.l0 kq l0 a1 x5_1 = some r) ∧ Aside0 (kq ≤ k) ∧ Drawn0 w w')
 case atStart => exact ⟨(0), Za, H', ⟨Nat.le_refl _⟩, Zb⟩
 case round =>
  clear H'
  try clear p2
  obtain ⟨x5_1, rfl, HA, HK1, ⟨m1, rfl⟩⟩ := hrel
  cases gk with
  | zero => exact absurd HA.out (by simp [spec_l03Find.l0])
  | succ k1 =>
   have H := HA.out; clear HA; simp only [spec_l03Find.l0] at H
   by_cases c3 : x5_1 < (l0.length : Int)
   ·rw [if_pos c3] at H
    have c3b0 := decide_eq_true c3; clear c3
    by_cases c4 : 0 ≤ x5_1
    ·rw [if_pos c4] at H
     have c4b0 := decide_eq_true c4; clear c4
     by_cases c5 : ((rd_T92 l0 x5_1).f0).toList = a1.toList
     ·rw [if_pos c5] at H
      have c5b0 := beq_iff_eq.mpr c5; have c5b1 := bne_eq_false_iff_eq.mpr c5; clear c5; obtain rfl := Option.some.inj H; have p134 : 0 ≤ (x5_1 : Int) := of_decide_eq_true Zp; have q134 : x5_1 < (l0.length : Int) := of_decide_eq_true Zp; obtain ⟨ad134, e134, hx134_0, hx134_1, hx134_2, hx134_3, hx134_4, hx134_5, hx134_6, hx134_7, hx134_8⟩ := at_T92 HR0.out x5_1 p134 q134
      cases e134
      replace p134 := eq_true p134; replace q134 := eq_true q134
      go_wp2
      go_ret
      exact ⟨Za, Zb⟩
     ·rw [if_neg c5] at H
      have c5b0 := beq_eq_false_iff_ne.mpr c5; have c5b1 := bne_iff_ne.mpr c5; have H' := am_ H; clear H; have p134 : 0 ≤ (x5_1 : Int) := of_decide_eq_true Zp; have q134 : x5_1 < (l0.length : Int) := of_decide_eq_true Zp; obtain ⟨ad134, e134, hx134_0, hx134_1, hx134_2, hx134_3, hx134_4, hx134_5, hx134_6, hx134_7, hx134_8⟩ := at_T92 HR0.out x5_1 p134 q134
      cases e134
      replace p134 := eq_true p134; replace q134 := eq_true q134
      go_wp2
      go_roundg k1
      case measure => have := HK1.out; omega
      case rel => exact ⟨(wrap64 (x5_1 + 1)), Za, H', ⟨Zt⟩, Zb⟩
    ·rw [if_neg c4] at H
     exact absurd H (by simp)
   ·rw [if_neg c3] at H
    have c3b0 := decide_eq_false c3; clear c3; obtain rfl := Option.some.inj H
    go_wp2
    go_ret
    exact ⟨Za, Zb⟩
def spec_l07Time.l0 : Nat → List (S108) → Int → Int → Int → Int → Option (Int)
 | 0, _, _, _, _, _ => none
 | k + 1, x0, x1, x2, x7, x8 => if x8 < x1 then (if 0 ≤ x8 then (if x8 < (x0.length : Int) then (spec_l07Time.l0 k x0 x1 x2 (wrap64 (x7 + (wrap64 (((rd_T108 x0 x8).f0) * ((rd_T108 x0 x8).f1))))) (wrap64 (x8 + 1))) else (none)) else (none)) else (if 0 ≤ x1 then (if x1 < (x0.length : Int) then (some (wrap64 (x7 + (wrap64 (x2 * ((rd_T108 x0 x1).f1)))))) else (none)) else (none))
def spec_l07Time.f (k : Nat) (l0 : List (S108)) (a1 : Int) (a2 : Int) : Option (Int) := spec_l07Time.l0 k l0 a1 a2 0 0
set_option maxHeartbeats 8000000 in
set_option maxRecDepth 100000 in
theorem spec_l07Time.calls (k : Nat) (A0 : Option Addr) (c0 : Nat) (l0 : List (S108)) (a1 : Int) (a2 : Int) (r : Int) (w : World) (hr0 : Kd.C k108 w A0 l0.length l0) (hc0 : l0.length ≤ c0) (h : spec_l07Time.f k l0 a1 a2 = some r) :
  Calls Try.prog 128 #[.slice A0 l0.length c0, .int .i64 a1, .int .i64 a2] w fun e w' => e = .returned (.int .i64 r) ∧ Drawn0 w w' := by
 have HR0 := am_ hr0; have HC0 := am_ hc0; clear hr0 hc0; have H : (spec_l07Time.l0 k l0 a1 a2 0 0) = some r := h; clear h; have H' := am_ H; clear H
 go_enter Try.func128, Try.ntmps128
 go_wp2
 repeat (go_quiet (fail); try go_wp2)
 go_loopg [7, 8] k (fun kq v7 v8 w' => ∃ (x7_1 : Int) (x8_1 : Int), v7 = .int .i64 x7_1 ∧ v8 = .int .i64 x8_1 ∧ Aside0 (spec_l07Time.l0 kq l0 a1 a2 x7_1 x8_1 = some r) ∧ Aside0 (kq ≤ k) ∧ Drawn0 w w')
 case atStart => exact ⟨(0), (0), Za, Za, H', ⟨Nat.le_refl _⟩, Zb⟩
 case round =>
  clear H'
  try clear c1
  try clear p2
  obtain ⟨x7_1, x8_1, rfl, rfl, HA, HK1, ⟨m1, rfl⟩⟩ := hrel
  cases gk with
  | zero => exact absurd HA.out (by simp [spec_l07Time.l0])
  | succ k1 =>
   have H := HA.out; clear HA; simp only [spec_l07Time.l0] at H
   by_cases c4 : x8_1 < a1
   ·rw [if_pos c4] at H
    have c4b0 := decide_eq_true c4; clear c4
    by_cases c5 : 0 ≤ x8_1
    ·rw [if_pos c5] at H
     have c5b0 := decide_eq_true c5; clear c5
     by_cases c6 : x8_1 < (l0.length : Int)
     ·rw [if_pos c6] at H
      have c6b0 := decide_eq_true c6; clear c6; have H' := am_ H; clear H; have p135 : 0 ≤ (x8_1 : Int) := of_decide_eq_true Zp; have q135 : x8_1 < (l0.length : Int) := of_decide_eq_true Zp; obtain ⟨ad135, e135, hx135_0, hx135_1⟩ := at_T108 HR0.out x8_1 p135 q135
      cases e135
      replace p135 := eq_true p135; replace q135 := eq_true q135; have p136 : 0 ≤ (x8_1 : Int) := of_decide_eq_true Zp; have q136 : x8_1 < (l0.length : Int) := of_decide_eq_true Zp; obtain ⟨ad136, e136, hx136_0, hx136_1⟩ := at_T108 HR0.out x8_1 p136 q136; obtain rfl : ad135 = ad136 := (by injection e136); replace p136 := eq_true p136; replace q136 := eq_true q136
      go_wp2
      repeat (go_quiet (fail); try go_wp2)
      go_roundg k1
      case measure => have := HK1.out; omega
      case rel => exact ⟨(wrap64 (x7_1 + (wrap64 (((rd_T108 l0 x8_1).f0) * ((rd_T108 l0 x8_1).f1))))), (wrap64 (x8_1 + 1)), Za, Za, H', ⟨Zt⟩, Zb⟩
     ·rw [if_neg c6] at H
      exact absurd H (by simp)
    ·rw [if_neg c5] at H
     exact absurd H (by simp)
   ·rw [if_neg c4] at H
    have c4b0 := decide_eq_false c4; clear c4
    by_cases c7 : 0 ≤ a1
    ·rw [if_pos c7] at H
     have c7b0 := decide_eq_true c7; clear c7
     by_cases c8 : a1 < (l0.length : Int)
     ·rw [if_pos c8] at H
      have c8b0 := decide_eq_true c8; clear c8; obtain rfl := Option.some.inj H; have p137 : 0 ≤ (a1 : Int) := of_decide_eq_true Zp; have q137 : a1 < (l0.length : Int) := of_decide_eq_true Zp; obtain ⟨ad137, e137, hx137_0, hx137_1⟩ := at_T108 HR0.out a1 p137 q137
      cases e137
      replace p137 := eq_true p137; replace q137 := eq_true q137
      go_wp2
      repeat (go_quiet (fail); try go_wp2)
      go_ret
      exact ⟨Za, Zb⟩
     ·rw [if_neg c8] at H
      exact absurd H (by simp)
    ·rw [if_neg c7] at H
     exact absurd H (by simp)
def spec_l08Time.f (k : Nat) (l0_0 : List (S108)) (l0_1 : List (S92)) (l0_2 : List (S43)) (a1_0 : Int) (a1_1 : Int) (a1_2 : ByteArray) (a1_3 : Int) : Option (Int) := (spec_l07Time.f k l0_0 a1_0 a1_1).bind fun t140 => ((spec_l03Find.f k l0_1 a1_2).bind fun t141 => (if 0 ≤ t141 then (if t141 < (l0_1.length : Int) then (some (wrap64 (t140 - ((rd_T92 l0_1 t141).f3)))) else (none)) else (none)))
set_option maxHeartbeats 8000000 in
set_option maxRecDepth 100000 in
theorem spec_l08Time.calls (k : Nat) (A0_0 : Option Addr) (c0_0 : Nat) (l0_0 : List (S108)) (A0_1 : Option Addr) (c0_1 : Nat) (l0_1 : List (S92)) (A0_2 : Option Addr) (c0_2 : Nat) (l0_2 : List (S43)) (a1_0 : Int) (a1_1 : Int) (a1_2 : ByteArray) (a1_3 : Int) (r : Int) (w : World) (hr0_0 : Kd.C k108 w A0_0 l0_0.length l0_0) (hc0_0 : l0_0.length ≤ c0_0) (hr0_1 : Kd.C k92 w A0_1 l0_1.length l0_1) (hc0_1 : l0_1.length ≤ c0_1) (hr0_2 : Kd.C k43 w A0_2 l0_2.length l0_2) (hc0_2 : l0_2.length ≤ c0_2) (h : spec_l08Time.f k l0_0 l0_1 l0_2 a1_0 a1_1 a1_2 a1_3 = some r) :
  Calls Try.prog 95 #[.agg #[.slice A0_0 l0_0.length c0_0, .slice A0_1 l0_1.length c0_1, .slice A0_2 l0_2.length c0_2], .agg #[.int .i64 a1_0, .int .i64 a1_1, .string a1_2, .int .i64 a1_3]] w fun e w' => e = .returned (.int .i64 r) ∧ Below w.heap.size w w' := by
 have hu32 := Try.underlying32; have hu43 := Try.underlying43; have HR0_0 := am_ hr0_0; have HC0_0 := am_ hc0_0; clear hr0_0 hc0_0; have HR0_1 := am_ hr0_1; have HC0_1 := am_ hc0_1; clear hr0_1 hc0_1; have HR0_2 := am_ hr0_2; have HC0_2 := am_ hc0_2; clear hr0_2 hc0_2; have HB := am_ (Below.refl w.heap.size w); have H : ((spec_l07Time.f k l0_0 a1_0 a1_1).bind fun t140 => ((spec_l03Find.f k l0_1 a1_2).bind fun t141 => (if 0 ≤ t141 then (if t141 < (l0_1.length : Int) then (some (wrap64 (t140 - ((rd_T92 l0_1 t141).f3)))) else (none)) else (none)))) = some r := h; clear h; replace H := Option.bind_eq_some_iff.mp H; obtain ⟨t140, A30, H⟩ := H; have A3 := am_ A30; clear A30; replace H := Option.bind_eq_some_iff.mp H; obtain ⟨t141, A40, H⟩ := H; have A4 := am_ A40; clear A40
 by_cases c5 : 0 ≤ t141
 ·rw [if_pos c5] at H
  have c5b0 := decide_eq_true c5; clear c5
  by_cases c6 : t141 < (l0_1.length : Int)
  ·rw [if_pos c6] at H
   have c6b0 := decide_eq_true c6; clear c6; obtain rfl := Option.some.inj H
   go_enter Try.func95, Try.ntmps95
   go_wp2_with (first | ((with_reducible refine gate_dst (N := 2) rfl ?_); refine boxZ 2 #[.slice A0_0 l0_0.length c0_0, .slice A0_1 l0_1.length c0_1, .slice A0_2 l0_2.length c0_2] 32 ?_; intro gb138 hg w7 hbox hb; replace BK138 := am_ (hbox); replace GW138 := am_ ((Zc : w.heap.size ≤ gb138)); replace GE138 := GW138; replace HB := (bsZ Zd hb); clear hb hbox hg) | ((with_reducible refine gate_dst (N := 3) rfl ?_); refine boxZ 3 #[.int .i64 a1_0, .int .i64 a1_1, .string a1_2, .int .i64 a1_3] 43 ?_; intro gb139 hg w8 hbox hb; replace BK139 := am_ (hbox); replace GW139 := am_ (((have z0_ := GE138; Ze) : w.heap.size ≤ gb139)); replace GE139 := GW139; replace HB := (bsZ (have z0_ := GE138; Zf) hb); replace NB138_139 := am_ (((have z0_ := BK138; Zaq) : gb138 ≠ gb139)); replace NB139_138 := am_ (((have z0_ := BK138; Zar) : gb139 ≠ gb138)); replace BK138 := (have z0_ := BK138; bkZ hb); clear hb hbox hg; have hnb9 := NB138_139.out; have hnc9 := NB139_138.out; obtain ⟨hcz10_0, hcz10_1, hcz10_2, hfz10_0, hfz10_1, hfz10_2⟩ := cz3 BK138; obtain ⟨hcz11_0, hcz11_1, hcz11_2, hcz11_3, hfz11_0, hfz11_1, hfz11_2, hfz11_3⟩ := cz4 BK139) | (go_at_call 128; (with_reducible refine (spec_l07Time.calls k _ _ l0_0 a1_0 a1_1 t140 _ ?side1 ?side2 A3.out).mono ?_); (case side1 => exact (have z0_ := HR0_0; Zae)); (case side2 => exact HC0_0.out); rintro e w' ⟨rfl, ⟨nd, rfl⟩⟩; (try first | exact ⟨rfl, _, World.drewN_drewN _ _ _⟩ | exact ⟨rfl, _, Eq.trans (World.drewN_drewN _ _ _) (congrArg (World.drewN _) (Nat.add_assoc _ _ _))⟩)) | (go_at_call 94; (with_reducible refine (spec_l03Find.calls k _ _ l0_1 a1_2 t141 _ ?side1 ?side2 A4.out).mono ?_); (case side1 => repeat (first | exact (Kd.C_below HR0_1.out (have z0_ := GE138; have z1_ := GE139; Zi)) | (with_reducible refine Kd.C_alloc ?_ _) | (with_reducible refine Kd.C_drewN ?_ _) | (with_reducible refine Kd.C_drew ?_))); (case side2 => exact HC0_1.out); rintro e w' ⟨rfl, ⟨nd, rfl⟩⟩; (try first | exact ⟨rfl, _, World.drewN_drewN _ _ _⟩ | exact ⟨rfl, _, Eq.trans (World.drewN_drewN _ _ _) (congrArg (World.drewN _) (Nat.add_assoc _ _ _))⟩); have p142 : 0 ≤ (t141 : Int) := of_decide_eq_true Zp; have q142 : t141 < (l0_1.length : Int) := of_decide_eq_true Zp; obtain ⟨ad142, e142, hx142_0, hx142_1, hx142_2, hx142_3, hx142_4, hx142_5, hx142_6, hx142_7, hx142_8⟩ := at_T92 HR0_1.out t141 p142 q142; cases e142; replace hx142_0 := cbH HB hx142_0; replace hx142_1 := cbH HB hx142_1; replace hx142_2 := cbH HB hx142_2; replace hx142_3 := cbH HB hx142_3; replace hx142_4 := cbH HB hx142_4; replace hx142_5 := cbH HB hx142_5; replace hx142_6 := cbH HB hx142_6; replace hx142_7 := cbH HB hx142_7; replace hx142_8 := cbH HB hx142_8; replace p142 := eq_true p142; replace q142 := eq_true q142))
   repeat (go_quiet (first | ((with_reducible refine gate_dst (N := 2) rfl ?_); refine boxZ 2 #[.slice A0_0 l0_0.length c0_0, .slice A0_1 l0_1.length c0_1, .slice A0_2 l0_2.length c0_2] 32 ?_; intro gb138 hg w7 hbox hb; replace BK138 := am_ (hbox); replace GW138 := am_ ((Zc : w.heap.size ≤ gb138)); replace GE138 := GW138; replace HB := (bsZ Zd hb); clear hb hbox hg) | ((with_reducible refine gate_dst (N := 3) rfl ?_); refine boxZ 3 #[.int .i64 a1_0, .int .i64 a1_1, .string a1_2, .int .i64 a1_3] 43 ?_; intro gb139 hg w8 hbox hb; replace BK139 := am_ (hbox); replace GW139 := am_ (((have z0_ := GE138; Ze) : w.heap.size ≤ gb139)); replace GE139 := GW139; replace HB := (bsZ (have z0_ := GE138; Zf) hb); replace NB138_139 := am_ (((have z0_ := BK138; Zaq) : gb138 ≠ gb139)); replace NB139_138 := am_ (((have z0_ := BK138; Zar) : gb139 ≠ gb138)); replace BK138 := (have z0_ := BK138; bkZ hb); clear hb hbox hg; have hnb9 := NB138_139.out; have hnc9 := NB139_138.out; obtain ⟨hcz10_0, hcz10_1, hcz10_2, hfz10_0, hfz10_1, hfz10_2⟩ := cz3 BK138; obtain ⟨hcz11_0, hcz11_1, hcz11_2, hcz11_3, hfz11_0, hfz11_1, hfz11_2, hfz11_3⟩ := cz4 BK139) | (go_at_call 128; (with_reducible refine (spec_l07Time.calls k _ _ l0_0 a1_0 a1_1 t140 _ ?side1 ?side2 A3.out).mono ?_); (case side1 => exact (have z0_ := HR0_0; Zae)); (case side2 => exact HC0_0.out); rintro e w' ⟨rfl, ⟨nd, rfl⟩⟩; (try first | exact ⟨rfl, _, World.drewN_drewN _ _ _⟩ | exact ⟨rfl, _, Eq.trans (World.drewN_drewN _ _ _) (congrArg (World.drewN _) (Nat.add_assoc _ _ _))⟩)) | (go_at_call 94; (with_reducible refine (spec_l03Find.calls k _ _ l0_1 a1_2 t141 _ ?side1 ?side2 A4.out).mono ?_); (case side1 => repeat (first | exact (Kd.C_below HR0_1.out (have z0_ := GE138; have z1_ := GE139; Zi)) | (with_reducible refine Kd.C_alloc ?_ _) | (with_reducible refine Kd.C_drewN ?_ _) | (with_reducible refine Kd.C_drew ?_))); (case side2 => exact HC0_1.out); rintro e w' ⟨rfl, ⟨nd, rfl⟩⟩; (try first | exact ⟨rfl, _, World.drewN_drewN _ _ _⟩ | exact ⟨rfl, _, Eq.trans (World.drewN_drewN _ _ _) (congrArg (World.drewN _) (Nat.add_assoc _ _ _))⟩); have p142 : 0 ≤ (t141 : Int) := of_decide_eq_true Zp; have q142 : t141 < (l0_1.length : Int) := of_decide_eq_true Zp; obtain ⟨ad142, e142, hx142_0, hx142_1, hx142_2, hx142_3, hx142_4, hx142_5, hx142_6, hx142_7, hx142_8⟩ := at_T92 HR0_1.out t141 p142 q142; cases e142; replace hx142_0 := cbH HB hx142_0; replace hx142_1 := cbH HB hx142_1; replace hx142_2 := cbH HB hx142_2; replace hx142_3 := cbH HB hx142_3; replace hx142_4 := cbH HB hx142_4; replace hx142_5 := cbH HB hx142_5; replace hx142_6 := cbH HB hx142_6; replace hx142_7 := cbH HB hx142_7; replace hx142_8 := cbH HB hx142_8; replace p142 := eq_true p142; replace q142 := eq_true q142)); try go_wp2_with (first | ((with_reducible refine gate_dst (N := 2) rfl ?_); refine boxZ 2 #[.slice A0_0 l0_0.length c0_0, .slice A0_1 l0_1.length c0_1, .slice A0_2 l0_2.length c0_2] 32 ?_; intro gb138 hg w7 hbox hb; replace BK138 := am_ (hbox); replace GW138 := am_ ((Zc : w.heap.size ≤ gb138)); replace GE138 := GW138; replace HB := (bsZ Zd hb); clear hb hbox hg) | ((with_reducible refine gate_dst (N := 3) rfl ?_); refine boxZ 3 #[.int .i64 a1_0, .int .i64 a1_1, .string a1_2, .int .i64 a1_3] 43 ?_; intro gb139 hg w8 hbox hb; replace BK139 := am_ (hbox); replace GW139 := am_ (((have z0_ := GE138; Ze) : w.heap.size ≤ gb139)); replace GE139 := GW139; replace HB := (bsZ (have z0_ := GE138; Zf) hb); replace NB138_139 := am_ (((have z0_ := BK138; Zaq) : gb138 ≠ gb139)); replace NB139_138 := am_ (((have z0_ := BK138; Zar) : gb139 ≠ gb138)); replace BK138 := (have z0_ := BK138; bkZ hb); clear hb hbox hg; have hnb9 := NB138_139.out; have hnc9 := NB139_138.out; obtain ⟨hcz10_0, hcz10_1, hcz10_2, hfz10_0, hfz10_1, hfz10_2⟩ := cz3 BK138; obtain ⟨hcz11_0, hcz11_1, hcz11_2, hcz11_3, hfz11_0, hfz11_1, hfz11_2, hfz11_3⟩ := cz4 BK139) | (go_at_call 128; (with_reducible refine (spec_l07Time.calls k _ _ l0_0 a1_0 a1_1 t140 _ ?side1 ?side2 A3.out).mono ?_); (case side1 => exact (have z0_ := HR0_0; Zae)); (case side2 => exact HC0_0.out); rintro e w' ⟨rfl, ⟨nd, rfl⟩⟩; (try first | exact ⟨rfl, _, World.drewN_drewN _ _ _⟩ | exact ⟨rfl, _, Eq.trans (World.drewN_drewN _ _ _) (congrArg (World.drewN _) (Nat.add_assoc _ _ _))⟩)) | (go_at_call 94; (with_reducible refine (spec_l03Find.calls k _ _ l0_1 a1_2 t141 _ ?side1 ?side2 A4.out).mono ?_); (case side1 => repeat (first | exact (Kd.C_below HR0_1.out (have z0_ := GE138; have z1_ := GE139; Zi)) | (with_reducible refine Kd.C_alloc ?_ _) | (with_reducible refine Kd.C_drewN ?_ _) | (with_reducible refine Kd.C_drew ?_))); (case side2 => exact HC0_1.out); rintro e w' ⟨rfl, ⟨nd, rfl⟩⟩; (try first | exact ⟨rfl, _, World.drewN_drewN _ _ _⟩ | exact ⟨rfl, _, Eq.trans (World.drewN_drewN _ _ _) (congrArg (World.drewN _) (Nat.add_assoc _ _ _))⟩); have p142 : 0 ≤ (t141 : Int) := of_decide_eq_true Zp; have q142 : t141 < (l0_1.length : Int) := of_decide_eq_true Zp; obtain ⟨ad142, e142, hx142_0, hx142_1, hx142_2, hx142_3, hx142_4, hx142_5, hx142_6, hx142_7, hx142_8⟩ := at_T92 HR0_1.out t141 p142 q142; cases e142; replace hx142_0 := cbH HB hx142_0; replace hx142_1 := cbH HB hx142_1; replace hx142_2 := cbH HB hx142_2; replace hx142_3 := cbH HB hx142_3; replace hx142_4 := cbH HB hx142_4; replace hx142_5 := cbH HB hx142_5; replace hx142_6 := cbH HB hx142_6; replace hx142_7 := cbH HB hx142_7; replace hx142_8 := cbH HB hx142_8; replace p142 := eq_true p142; replace q142 := eq_true q142)))
   go_ret
   exact ⟨by first | rfl | (simp only [i64_w]; done) | (simp only [i64_w]; rfl) | (simp [errW_none, errW_some] <;> rfl) | (simp [*, errW_none, errW_some] <;> rfl), (have z0_ := GE138; have z1_ := GE139; Zi)⟩
  ·rw [if_neg c6] at H
   exact absurd H (by simp)
 ·rw [if_neg c5] at H
  exact absurd H (by simp)
mutual
def spec_IsShow.j0 : Nat → Bool → List (S108) → List (S92) → List (S43) → Option (Bool)
 | 0, _, _, _, _ => none
 | k + 1, x20, x144000, x144001, x144002 => if x20 = true then (some false) else (spec_IsShow.l0 k 0 x144000 x144001 x144002)
def spec_IsShow.l0 : Nat → Int → List (S108) → List (S92) → List (S43) → Option (Bool)
 | 0, _, _, _, _ => none
 | k + 1, x3, x144000, x144001, x144002 => if x3 < (x144002.length : Int) then (if 0 ≤ x3 then ((spec_l07Has.f x144000 ((rd_T43 x144002 x3).f0) ((rd_T43 x144002 x3).f1)).bind fun t148 => (if t148 = true then ((spec_l03Find.f k x144001 ((rd_T43 x144002 x3).f2)).bind fun t149 => (if t149 < 0 then (some false) else ((spec_l01In.f ((rd_T43 x144002 x3).f3) 0 11).bind fun t150 => (if t150 = true then ((spec_l08Time.f k x144000 x144001 x144002 ((rd_T43 x144002 x3).f0) ((rd_T43 x144002 x3).f1) ((rd_T43 x144002 x3).f2) ((rd_T43 x144002 x3).f3)).bind fun t151 => (if t151 < 0 then (some false) else (spec_IsShow.l0 k (wrap64 (x3 + 1)) x144000 x144001 x144002))) else (some false))))) else (some false))) else (none)) else (some true)
end
def spec_IsShow.f (k : Nat) (l0_0 : List (S108)) (l0_1 : List (S92)) (l0_2 : List (S43)) : Option (Bool) := (spec_IsScore.f k l0_0).bind fun t144 => (if t144 = true then ((spec_AreArticles.f k l0_1).bind fun t145 => (if t145 = true then (spec_IsShow.j0 k (decide ((l0_2.length : Int) > 20)) l0_0 l0_1 l0_2) else (spec_IsShow.j0 k true l0_0 l0_1 l0_2))) else (spec_IsShow.j0 k true l0_0 l0_1 l0_2))
set_option maxHeartbeats 8000000 in
set_option maxRecDepth 100000 in
theorem spec_IsShow.calls (k : Nat) (A0_0 : Option Addr) (c0_0 : Nat) (l0_0 : List (S108)) (A0_1 : Option Addr) (c0_1 : Nat) (l0_1 : List (S92)) (A0_2 : Option Addr) (c0_2 : Nat) (l0_2 : List (S43)) (r : Bool) (w : World) (hr0_0 : Kd.C k108 w A0_0 l0_0.length l0_0) (hc0_0 : l0_0.length ≤ c0_0) (hr0_1 : Kd.C k92 w A0_1 l0_1.length l0_1) (hc0_1 : l0_1.length ≤ c0_1) (hr0_2 : Kd.C k43 w A0_2 l0_2.length l0_2) (hc0_2 : l0_2.length ≤ c0_2) (h : spec_IsShow.f k l0_0 l0_1 l0_2 = some r) :
  Calls Try.prog 36 #[.agg #[.slice A0_0 l0_0.length c0_0, .slice A0_1 l0_1.length c0_1, .slice A0_2 l0_2.length c0_2]] w fun e w' => e = .returned (.bool r) ∧ Below w.heap.size w w' := by
 have hu32 := Try.underlying32; have hu43 := Try.underlying43; have HR0_0 := am_ hr0_0; have HC0_0 := am_ hc0_0; clear hr0_0 hc0_0; have HR0_1 := am_ hr0_1; have HC0_1 := am_ hc0_1; clear hr0_1 hc0_1; have HR0_2 := am_ hr0_2; have HC0_2 := am_ hc0_2; clear hr0_2 hc0_2; have HB := am_ (Below.refl w.heap.size w); have H : ((spec_IsScore.f k l0_0).bind fun t144 => (if t144 = true then ((spec_AreArticles.f k l0_1).bind fun t145 => (if t145 = true then (spec_IsShow.j0 k (decide ((l0_2.length : Int) > 20)) l0_0 l0_1 l0_2) else (spec_IsShow.j0 k true l0_0 l0_1 l0_2))) else (spec_IsShow.j0 k true l0_0 l0_1 l0_2))) = some r := h; clear h; have HC2 := am_ H; clear H
 go_enter Try.func36, Try.ntmps36
 go_upto_region 1 with (first | ((with_reducible refine gate_dst (N := 1) rfl ?_); (try (refine gate_guard (by rfl) ?_; dsimp only)); refine boxZ 1 #[.slice A0_0 l0_0.length c0_0, .slice A0_1 l0_1.length c0_1, .slice A0_2 l0_2.length c0_2] 32 ?_; intro gb143 hg w3 hbox hb; replace BK143 := am_ (hbox); replace GW143 := am_ ((Zc : w.heap.size ≤ gb143)); replace GE143 := GW143; replace HB := (bsZ Zd hb); clear hb hbox hg))
 (try simp only [Act.put, List.setIfInBounds_toArray, List.set_cons_zero, List.set_cons_succ])
 go_cut [20] (fun v20 wc => ∃ (kq : Nat) (x20_1 : Bool), v20 = .bool x20_1 ∧ Aside0 (spec_IsShow.j0 kq x20_1 l0_0 l0_1 l0_2 = some r) ∧ Aside0 (kq ≤ k) ∧ Aside0 (wc.heap[gb143]? = some (.cells #[(.slice A0_0 l0_0.length c0_0), (.slice A0_1 l0_1.length c0_1), (.slice A0_2 l0_2.length c0_2)] 32 (0, 0))) ∧ Aside0 (Below w.heap.size w wc))
 case first =>
  have H := HC2.out; clear HC2; replace H := Option.bind_eq_some_iff.mp H; obtain ⟨t144, A40, H⟩ := H; have A4 := am_ A40; clear A40
  by_cases c5 : t144 = true
  ·subst c5
   have H1 : ((spec_AreArticles.f k l0_1).bind fun t145 => (if t145 = true then (spec_IsShow.j0 k (decide ((l0_2.length : Int) > 20)) l0_0 l0_1 l0_2) else (spec_IsShow.j0 k true l0_0 l0_1 l0_2))) = some r := by rw [if_pos rfl] at H; exact H
   clear H; have H := H1; clear H1; replace H := Option.bind_eq_some_iff.mp H; obtain ⟨t145, A60, H⟩ := H; have A6 := am_ A60; clear A60
   by_cases c7 : t145 = true
   ·subst c7
    have H1 : (spec_IsShow.j0 k (decide ((l0_2.length : Int) > 20)) l0_0 l0_1 l0_2) = some r := by rw [if_pos rfl] at H; exact H
    clear H; have H := H1; clear H1; have H' := am_ H; clear H; obtain ⟨hcz8_0, hcz8_1, hcz8_2, hfz8_0, hfz8_1, hfz8_2⟩ := cz3 BK143
    go_wp2_with (first | ((with_reducible refine gate_callee (f := 91) rfl ?_); refine goesL_ (some 7) rfl rfl Try.func91 Zj rfl #[.slice A0_0 l0_0.length c0_0] rfl Zo ?_; (with_reducible refine (spec_IsScore.calls k _ _ l0_0 true _ ?side1 ?side2 A4.out).mono ?_); (case side1 => exact (have z0_ := HR0_0; Zae)); (case side2 => exact HC0_0.out); rintro e w' ⟨rfl, ⟨nd, rfl⟩⟩; refine ⟨_, rfl, ?_⟩) | (go_at_call 92; (with_reducible refine (spec_AreArticles.calls k _ _ l0_1 true _ ?side1 ?side2 A6.out).mono ?_); (case side1 => repeat (first | exact (Kd.C_below HR0_1.out (have z0_ := GE143; Zf)) | (with_reducible refine Kd.C_alloc ?_ _) | (with_reducible refine Kd.C_drewN ?_ _) | (with_reducible refine Kd.C_drew ?_))); (case side2 => exact HC0_1.out); rintro e w9 ⟨rfl, hb⟩; replace BK143 := (have z0_ := BK143; bkZ hb); replace HB := (bsZ (have z0_ := GE143; Zf) hb); (try clear hb); (try clear hb2); (try clear hk); (try clear hi); obtain ⟨hcz10_0, hcz10_1, hcz10_2, hfz10_0, hfz10_1, hfz10_2⟩ := cz3 BK143))
    go_meet
    case rel => exact ⟨_, (decide ((l0_2.length : Int) > 20)), Za, H', ⟨Zm⟩, ⟨(have z0_ := BK143; Zg)⟩, ⟨(have z0_ := GE143; Zf)⟩⟩
   ·replace c7 := Bool.eq_false_iff.mpr c7
    subst c7
    have H1 : (spec_IsShow.j0 k true l0_0 l0_1 l0_2) = some r := by rw [if_neg (show ¬ (false = true) by decide)] at H; exact H
    clear H; have H := H1; clear H1; have H' := am_ H; clear H; obtain ⟨hcz11_0, hcz11_1, hcz11_2, hfz11_0, hfz11_1, hfz11_2⟩ := cz3 BK143
    go_wp2_with (first | ((with_reducible refine gate_callee (f := 91) rfl ?_); refine goesL_ (some 7) rfl rfl Try.func91 Zj rfl #[.slice A0_0 l0_0.length c0_0] rfl Zo ?_; (with_reducible refine (spec_IsScore.calls k _ _ l0_0 true _ ?side1 ?side2 A4.out).mono ?_); (case side1 => exact (have z0_ := HR0_0; Zae)); (case side2 => exact HC0_0.out); rintro e w' ⟨rfl, ⟨nd, rfl⟩⟩; refine ⟨_, rfl, ?_⟩) | (go_at_call 92; (with_reducible refine (spec_AreArticles.calls k _ _ l0_1 false _ ?side1 ?side2 A6.out).mono ?_); (case side1 => repeat (first | exact (Kd.C_below HR0_1.out (have z0_ := GE143; Zf)) | (with_reducible refine Kd.C_alloc ?_ _) | (with_reducible refine Kd.C_drewN ?_ _) | (with_reducible refine Kd.C_drew ?_))); (case side2 => exact HC0_1.out); rintro e w12 ⟨rfl, hb⟩; replace BK143 := (have z0_ := BK143; bkZ hb); replace HB := (bsZ (have z0_ := GE143; Zf) hb); (try clear hb); (try clear hb2); (try clear hk); (try clear hi)))
    go_meet
    case rel => exact ⟨_, (true), Za, H', ⟨Zm⟩, ⟨(have z0_ := BK143; Zg)⟩, ⟨(have z0_ := GE143; Zf)⟩⟩
  ·replace c5 := Bool.eq_false_iff.mpr c5
   subst c5
   have H1 : (spec_IsShow.j0 k true l0_0 l0_1 l0_2) = some r := by rw [if_neg (show ¬ (false = true) by decide)] at H; exact H
   clear H; have H := H1; clear H1; have H' := am_ H; clear H; obtain ⟨hcz13_0, hcz13_1, hcz13_2, hfz13_0, hfz13_1, hfz13_2⟩ := cz3 BK143
   go_wp2_with (first | ((with_reducible refine gate_callee (f := 91) rfl ?_); refine goesL_ (some 7) rfl rfl Try.func91 Zj rfl #[.slice A0_0 l0_0.length c0_0] rfl Zo ?_; (with_reducible refine (spec_IsScore.calls k _ _ l0_0 false _ ?side1 ?side2 A4.out).mono ?_); (case side1 => exact (have z0_ := HR0_0; Zae)); (case side2 => exact HC0_0.out); rintro e w' ⟨rfl, ⟨nd, rfl⟩⟩; refine ⟨_, rfl, ?_⟩))
   go_meet
   case rel => exact ⟨_, (true), Za, H', ⟨Zm⟩, ⟨(have z0_ := BK143; Zg)⟩, ⟨(have z0_ := GE143; Zf)⟩⟩
 case rest =>
  clear HC2
  try clear p2
  try clear c3
  try clear c5
  try clear c7
  try clear c9
  try clear hcz10_0
  try clear hcz10_1
  try clear hcz10_2
  try clear hcz11_0
  try clear hcz11_1
  try clear hcz11_2
  try clear hcz13_0
  try clear hcz13_1
  try clear hcz13_2
  try clear hcz8_0
  try clear hcz8_1
  try clear hcz8_2
  try clear hfz10_0
  try clear hfz10_1
  try clear hfz10_2
  try clear hfz11_0
  try clear hfz11_1
  try clear hfz11_2
  try clear hfz13_0
  try clear hfz13_1
  try clear hfz13_2
  try clear hfz8_0
  try clear hfz8_1
  try clear hfz8_2
  obtain ⟨kq, x20_1, rfl, HA, HJ1, BK143, HB⟩ := hcut
  cases kq with
  | zero => exact absurd HA.out (by simp [spec_IsShow.j0])
  | succ kj1 =>
   have H := HA.out; clear HA; simp only [spec_IsShow.j0] at H
   by_cases c14 : x20_1 = true
   ·subst c14
    have H1 : (some false) = some r := by rw [if_pos rfl] at H; exact H
    clear H; have H := H1; clear H1; obtain rfl := Option.some.inj H
    go_wp2
    go_ret
    exact ⟨Zk, (have z0_ := GE143; Zf)⟩
   ·replace c14 := Bool.eq_false_iff.mpr c14
    subst c14
    have H1 : (spec_IsShow.l0 kj1 0 l0_0 l0_1 l0_2) = some r := by rw [if_neg (show ¬ (false = true) by decide)] at H; exact H
    clear H; have H := H1; clear H1; have H' := am_ H; clear H
    go_wp2
    go_loopg [3] kj1 (fun kq v3 w' => ∃ (x3_2 : Int), v3 = .int .i64 x3_2 ∧ Aside0 (spec_IsShow.l0 kq x3_2 l0_0 l0_1 l0_2 = some r) ∧ Aside0 (kq ≤ kj1) ∧ Aside0 (w'.heap[gb143]? = some (.cells #[(.slice A0_0 l0_0.length c0_0), (.slice A0_1 l0_1.length c0_1), (.slice A0_2 l0_2.length c0_2)] 32 (0, 0))) ∧ Aside0 (Below w.heap.size w w'))
    case atStart => exact ⟨(0), Za, H', ⟨Nat.le_refl _⟩, ⟨(have z0_ := BK143; Zg)⟩, ⟨(have z0_ := GE143; Zf)⟩⟩
    case round =>
     clear H'
     try clear c1
     try clear p2
     try clear c3
     try clear c5
     try clear c7
     try clear c9
     try clear c14
     try clear hcz10_0
     try clear hcz10_1
     try clear hcz10_2
     try clear hcz11_0
     try clear hcz11_1
     try clear hcz11_2
     try clear hcz13_0
     try clear hcz13_1
     try clear hcz13_2
     try clear hcz8_0
     try clear hcz8_1
     try clear hcz8_2
     try clear hfz10_0
     try clear hfz10_1
     try clear hfz10_2
     try clear hfz11_0
     try clear hfz11_1
     try clear hfz11_2
     try clear hfz13_0
     try clear hfz13_1
     try clear hfz13_2
     try clear hfz8_0
     try clear hfz8_1
     try clear hfz8_2
     try clear p2
     obtain ⟨x3_2, rfl, HA, HK2, BK143, HB⟩ := hrel
     cases gk with
     | zero => exact absurd HA.out (by simp [spec_IsShow.l0])
     | succ k2 =>
      have H := HA.out; clear HA; simp only [spec_IsShow.l0] at H
      by_cases c15 : x3_2 < (l0_2.length : Int)
      ·rw [if_pos c15] at H
       have c15b0 := decide_eq_true c15; clear c15
       by_cases c16 : 0 ≤ x3_2
       ·rw [if_pos c16] at H
        have c16b0 := decide_eq_true c16; clear c16; replace H := Option.bind_eq_some_iff.mp H; obtain ⟨t148, A170, H⟩ := H; have A17 := am_ A170; clear A170
        by_cases c18 : t148 = true
        ·subst c18
         have H1 : ((spec_l03Find.f k2 l0_1 ((rd_T43 l0_2 x3_2).f2)).bind fun t149 => (if t149 < 0 then (some false) else ((spec_l01In.f ((rd_T43 l0_2 x3_2).f3) 0 11).bind fun t150 => (if t150 = true then ((spec_l08Time.f k2 l0_0 l0_1 l0_2 ((rd_T43 l0_2 x3_2).f0) ((rd_T43 l0_2 x3_2).f1) ((rd_T43 l0_2 x3_2).f2) ((rd_T43 l0_2 x3_2).f3)).bind fun t151 => (if t151 < 0 then (some false) else (spec_IsShow.l0 k2 (wrap64 (x3_2 + 1)) l0_0 l0_1 l0_2))) else (some false))))) = some r := by rw [if_pos rfl] at H; exact H
         clear H; have H := H1; clear H1; replace H := Option.bind_eq_some_iff.mp H; obtain ⟨t149, A190, H⟩ := H; have A19 := am_ A190; clear A190
         by_cases c20 : t149 < 0
         ·rw [if_pos c20] at H
          have c20b0 := decide_eq_true c20; clear c20; obtain rfl := Option.some.inj H; refine ci3 BK143 ?_; intros; have p146 : 0 ≤ (x3_2 : Int) := of_decide_eq_true Zp; have q146 : x3_2 < (l0_2.length : Int) := of_decide_eq_true Zp; obtain ⟨ad146, e146, hx146_0, hx146_1, hx146_2, hx146_3⟩ := at_T43 HR0_2.out x3_2 p146 q146
          cases e146
          replace hx146_0 := cbH HB hx146_0; replace hx146_1 := cbH HB hx146_1; replace hx146_2 := cbH HB hx146_2; replace hx146_3 := cbH HB hx146_3; replace p146 := eq_true p146; replace q146 := eq_true q146
          go_wp2_with (first | ((with_reducible refine gate_dst (N := 4) rfl ?_); (try (refine gate_guard (by rfl) ?_; dsimp only)); refine boxZ 4 #[.int .i64 0, .int .i64 0, .string (⟨#[]⟩ : ByteArray), .int .i64 0] 43 ?_; intro gb147 hg w22 hbox hb; replace BK147 := am_ (hbox); replace GW147 := am_ (((have z0_ := GE143; Ze) : w.heap.size ≤ gb147)); replace GE147 := GW147; replace HB := (bsZ (have z0_ := GE143; Zf) hb); replace NB143_147 := am_ (((have z0_ := BK143; Zas) : gb143 ≠ gb147)); replace NB147_143 := am_ (((have z0_ := BK143; Zat) : gb147 ≠ gb143)); replace BK143 := (have z0_ := BK143; bkZ hb); clear hb hbox hg; have hnb23 := NB147_143.out; have hnc23 := NB143_147.out; refine ci4 BK147 ?_; intros; refine ci3 BK143 ?_; intros) | ((with_reducible refine gate_callee (f := 93) rfl ?_); refine goesL_ (some 39) rfl rfl Try.func93 Zj rfl #[.slice A0_0 l0_0.length c0_0, .int .i64 ((rd_T43 l0_2 x3_2).f0), .int .i64 ((rd_T43 l0_2 x3_2).f1)] rfl Zo ?_; (with_reducible refine (spec_l07Has.calls _ _ l0_0 ((rd_T43 l0_2 x3_2).f0) ((rd_T43 l0_2 x3_2).f1) true _ ?side1 ?side2 A17.out).mono ?_); (case side1 => exact Kd.C_below HR0_0.out (have z0_ := GE143; have z1_ := GE147; Zi)); (case side2 => exact HC0_0.out); rintro e w' ⟨rfl, ⟨nd, rfl⟩⟩; refine ⟨_, rfl, ?_⟩) | (go_at_call 94; (with_reducible refine (spec_l03Find.calls k2 _ _ l0_1 ((rd_T43 l0_2 x3_2).f2) t149 _ ?side1 ?side2 A19.out).mono ?_); (case side1 => exact Kd.C_below HR0_1.out (have z0_ := GE143; have z1_ := GE147; Zi)); (case side2 => exact HC0_1.out); rintro e w' ⟨rfl, ⟨nd, rfl⟩⟩))
          go_ret
          exact ⟨Zk, (have z0_ := GE143; have z1_ := GE147; Zi)⟩
         ·rw [if_neg c20] at H
          have c20b0 := decide_eq_false c20; clear c20; replace H := Option.bind_eq_some_iff.mp H; obtain ⟨t150, A260, H⟩ := H; have A26 := am_ A260; clear A260
          by_cases c27 : t150 = true
          ·subst c27
           have H1 : ((spec_l08Time.f k2 l0_0 l0_1 l0_2 ((rd_T43 l0_2 x3_2).f0) ((rd_T43 l0_2 x3_2).f1) ((rd_T43 l0_2 x3_2).f2) ((rd_T43 l0_2 x3_2).f3)).bind fun t151 => (if t151 < 0 then (some false) else (spec_IsShow.l0 k2 (wrap64 (x3_2 + 1)) l0_0 l0_1 l0_2))) = some r := by rw [if_pos rfl] at H; exact H
           clear H; have H := H1; clear H1; replace H := Option.bind_eq_some_iff.mp H; obtain ⟨t151, A280, H⟩ := H; have A28 := am_ A280; clear A280
           by_cases c29 : t151 < 0
           ·rw [if_pos c29] at H
            have c29b0 := decide_eq_true c29; clear c29; obtain rfl := Option.some.inj H; refine ci3 BK143 ?_; intros; have p146 : 0 ≤ (x3_2 : Int) := of_decide_eq_true Zp; have q146 : x3_2 < (l0_2.length : Int) := of_decide_eq_true Zp; obtain ⟨ad146, e146, hx146_0, hx146_1, hx146_2, hx146_3⟩ := at_T43 HR0_2.out x3_2 p146 q146
            cases e146
            replace hx146_0 := cbH HB hx146_0; replace hx146_1 := cbH HB hx146_1; replace hx146_2 := cbH HB hx146_2; replace hx146_3 := cbH HB hx146_3; replace p146 := eq_true p146; replace q146 := eq_true q146
            go_wp2_with (first | ((with_reducible refine gate_dst (N := 4) rfl ?_); (try (refine gate_guard (by rfl) ?_; dsimp only)); refine boxZ 4 #[.int .i64 0, .int .i64 0, .string (⟨#[]⟩ : ByteArray), .int .i64 0] 43 ?_; intro gb147 hg w31 hbox hb; replace BK147 := am_ (hbox); replace GW147 := am_ (((have z0_ := GE143; Ze) : w.heap.size ≤ gb147)); replace GE147 := GW147; replace HB := (bsZ (have z0_ := GE143; Zf) hb); replace NB143_147 := am_ (((have z0_ := BK143; Zas) : gb143 ≠ gb147)); replace NB147_143 := am_ (((have z0_ := BK143; Zat) : gb147 ≠ gb143)); replace BK143 := (have z0_ := BK143; bkZ hb); clear hb hbox hg; have hnb32 := NB147_143.out; have hnc32 := NB143_147.out; refine ci4 BK147 ?_; intros; refine ci3 BK143 ?_; intros) | ((with_reducible refine gate_callee (f := 93) rfl ?_); refine goesL_ (some 39) rfl rfl Try.func93 Zj rfl #[.slice A0_0 l0_0.length c0_0, .int .i64 ((rd_T43 l0_2 x3_2).f0), .int .i64 ((rd_T43 l0_2 x3_2).f1)] rfl Zo ?_; (with_reducible refine (spec_l07Has.calls _ _ l0_0 ((rd_T43 l0_2 x3_2).f0) ((rd_T43 l0_2 x3_2).f1) true _ ?side1 ?side2 A17.out).mono ?_); (case side1 => exact Kd.C_below HR0_0.out (have z0_ := GE143; have z1_ := GE147; Zi)); (case side2 => exact HC0_0.out); rintro e w' ⟨rfl, ⟨nd, rfl⟩⟩; refine ⟨_, rfl, ?_⟩) | (go_at_call 94; (with_reducible refine (spec_l03Find.calls k2 _ _ l0_1 ((rd_T43 l0_2 x3_2).f2) t149 _ ?side1 ?side2 A19.out).mono ?_); (case side1 => exact Kd.C_below HR0_1.out (have z0_ := GE143; have z1_ := GE147; Zi)); (case side2 => exact HC0_1.out); rintro e w' ⟨rfl, ⟨nd, rfl⟩⟩) | (go_at_call 68; (with_reducible refine (spec_l01In.calls ((rd_T43 l0_2 x3_2).f3) 0 11 true _ A26.out).mono ?_); rintro e w' ⟨rfl, ⟨nd, rfl⟩⟩) | (go_at_call 95; (with_reducible refine (spec_l08Time.calls k2 _ _ l0_0 _ _ l0_1 _ _ l0_2 ((rd_T43 l0_2 x3_2).f0) ((rd_T43 l0_2 x3_2).f1) ((rd_T43 l0_2 x3_2).f2) ((rd_T43 l0_2 x3_2).f3) t151 _ ?side1 ?side2 ?side3 ?side4 ?side5 ?side6 A28.out).mono ?_); (case side1 => exact Kd.C_below HR0_0.out (have z0_ := GE143; have z1_ := GE147; Zi)); (case side2 => exact HC0_0.out); (case side3 => exact Kd.C_below HR0_1.out (have z0_ := GE143; have z1_ := GE147; Zi)); (case side4 => exact HC0_1.out); (case side5 => exact Kd.C_below HR0_2.out (have z0_ := GE143; have z1_ := GE147; Zi)); (case side6 => exact HC0_2.out); rintro e w35 ⟨rfl, hb⟩; replace BK143 := am_ (blk_below (g := gb143) (o := .cells #[.slice A0_0 l0_0.length c0_0, .slice A0_1 l0_1.length c0_1, .slice (some ad146) l0_2.length c0_2] 32 (0, 0)) (have z0_ := NB143_147; have z1_ := BK143; Zau) hb); replace BK147 := am_ (blk_below (g := gb147) (o := .cells #[.int .i64 ((rd_T43 l0_2 x3_2).f0), .int .i64 ((rd_T43 l0_2 x3_2).f1), .string ((rd_T43 l0_2 x3_2).f2), .int .i64 ((rd_T43 l0_2 x3_2).f3)] 43 (0, 0)) (have z0_ := BK147; Zav) hb); replace HB := (bsZ (have z0_ := GE143; have z1_ := GE147; Zi) hb); (try clear hb); (try clear hb2); (try clear hk); (try clear hi)))
            go_ret
            exact ⟨Zk, (have z0_ := GE143; have z1_ := GE147; Zi)⟩
           ·rw [if_neg c29] at H
            have c29b0 := decide_eq_false c29; clear c29; have H' := am_ H; clear H; refine ci3 BK143 ?_; intros; have p146 : 0 ≤ (x3_2 : Int) := of_decide_eq_true Zp; have q146 : x3_2 < (l0_2.length : Int) := of_decide_eq_true Zp; obtain ⟨ad146, e146, hx146_0, hx146_1, hx146_2, hx146_3⟩ := at_T43 HR0_2.out x3_2 p146 q146
            cases e146
            replace hx146_0 := cbH HB hx146_0; replace hx146_1 := cbH HB hx146_1; replace hx146_2 := cbH HB hx146_2; replace hx146_3 := cbH HB hx146_3; replace p146 := eq_true p146; replace q146 := eq_true q146
            go_wp2_with (first | ((with_reducible refine gate_dst (N := 4) rfl ?_); (try (refine gate_guard (by rfl) ?_; dsimp only)); refine boxZ 4 #[.int .i64 0, .int .i64 0, .string (⟨#[]⟩ : ByteArray), .int .i64 0] 43 ?_; intro gb147 hg w37 hbox hb; replace BK147 := am_ (hbox); replace GW147 := am_ (((have z0_ := GE143; Ze) : w.heap.size ≤ gb147)); replace GE147 := GW147; replace HB := (bsZ (have z0_ := GE143; Zf) hb); replace NB143_147 := am_ (((have z0_ := BK143; Zas) : gb143 ≠ gb147)); replace NB147_143 := am_ (((have z0_ := BK143; Zat) : gb147 ≠ gb143)); replace BK143 := (have z0_ := BK143; bkZ hb); clear hb hbox hg; have hnb38 := NB147_143.out; have hnc38 := NB143_147.out; refine ci4 BK147 ?_; intros; refine ci3 BK143 ?_; intros) | ((with_reducible refine gate_callee (f := 93) rfl ?_); refine goesL_ (some 39) rfl rfl Try.func93 Zj rfl #[.slice A0_0 l0_0.length c0_0, .int .i64 ((rd_T43 l0_2 x3_2).f0), .int .i64 ((rd_T43 l0_2 x3_2).f1)] rfl Zo ?_; (with_reducible refine (spec_l07Has.calls _ _ l0_0 ((rd_T43 l0_2 x3_2).f0) ((rd_T43 l0_2 x3_2).f1) true _ ?side1 ?side2 A17.out).mono ?_); (case side1 => exact Kd.C_below HR0_0.out (have z0_ := GE143; have z1_ := GE147; Zi)); (case side2 => exact HC0_0.out); rintro e w' ⟨rfl, ⟨nd, rfl⟩⟩; refine ⟨_, rfl, ?_⟩) | (go_at_call 94; (with_reducible refine (spec_l03Find.calls k2 _ _ l0_1 ((rd_T43 l0_2 x3_2).f2) t149 _ ?side1 ?side2 A19.out).mono ?_); (case side1 => exact Kd.C_below HR0_1.out (have z0_ := GE143; have z1_ := GE147; Zi)); (case side2 => exact HC0_1.out); rintro e w' ⟨rfl, ⟨nd, rfl⟩⟩) | (go_at_call 68; (with_reducible refine (spec_l01In.calls ((rd_T43 l0_2 x3_2).f3) 0 11 true _ A26.out).mono ?_); rintro e w' ⟨rfl, ⟨nd, rfl⟩⟩) | (go_at_call 95; (with_reducible refine (spec_l08Time.calls k2 _ _ l0_0 _ _ l0_1 _ _ l0_2 ((rd_T43 l0_2 x3_2).f0) ((rd_T43 l0_2 x3_2).f1) ((rd_T43 l0_2 x3_2).f2) ((rd_T43 l0_2 x3_2).f3) t151 _ ?side1 ?side2 ?side3 ?side4 ?side5 ?side6 A28.out).mono ?_); (case side1 => exact Kd.C_below HR0_0.out (have z0_ := GE143; have z1_ := GE147; Zi)); (case side2 => exact HC0_0.out); (case side3 => exact Kd.C_below HR0_1.out (have z0_ := GE143; have z1_ := GE147; Zi)); (case side4 => exact HC0_1.out); (case side5 => exact Kd.C_below HR0_2.out (have z0_ := GE143; have z1_ := GE147; Zi)); (case side6 => exact HC0_2.out); rintro e w41 ⟨rfl, hb⟩; replace BK143 := am_ (blk_below (g := gb143) (o := .cells #[.slice A0_0 l0_0.length c0_0, .slice A0_1 l0_1.length c0_1, .slice (some ad146) l0_2.length c0_2] 32 (0, 0)) (have z0_ := NB143_147; have z1_ := BK143; Zau) hb); replace BK147 := am_ (blk_below (g := gb147) (o := .cells #[.int .i64 ((rd_T43 l0_2 x3_2).f0), .int .i64 ((rd_T43 l0_2 x3_2).f1), .string ((rd_T43 l0_2 x3_2).f2), .int .i64 ((rd_T43 l0_2 x3_2).f3)] 43 (0, 0)) (have z0_ := BK147; Zav) hb); replace HB := (bsZ (have z0_ := GE143; have z1_ := GE147; Zi) hb); (try clear hb); (try clear hb2); (try clear hk); (try clear hi)))
            go_roundg k2
            case measure => have := HJ1.out; have := HK2.out; omega
            case rel => exact ⟨(wrap64 (x3_2 + 1)), Za, H', ⟨by have := HJ1.out; have := HK2.out; omega⟩, ⟨(have z0_ := BK143; Zg)⟩, ⟨(have z0_ := GE143; have z1_ := GE147; Zi)⟩⟩
          ·replace c27 := Bool.eq_false_iff.mpr c27
           subst c27
           have H1 : (some false) = some r := by rw [if_neg (show ¬ (false = true) by decide)] at H; exact H
           clear H; have H := H1; clear H1; obtain rfl := Option.some.inj H; refine ci3 BK143 ?_; intros; have p146 : 0 ≤ (x3_2 : Int) := of_decide_eq_true Zp; have q146 : x3_2 < (l0_2.length : Int) := of_decide_eq_true Zp; obtain ⟨ad146, e146, hx146_0, hx146_1, hx146_2, hx146_3⟩ := at_T43 HR0_2.out x3_2 p146 q146
           cases e146
           replace hx146_0 := cbH HB hx146_0; replace hx146_1 := cbH HB hx146_1; replace hx146_2 := cbH HB hx146_2; replace hx146_3 := cbH HB hx146_3; replace p146 := eq_true p146; replace q146 := eq_true q146
           go_wp2_with (first | ((with_reducible refine gate_dst (N := 4) rfl ?_); (try (refine gate_guard (by rfl) ?_; dsimp only)); refine boxZ 4 #[.int .i64 0, .int .i64 0, .string (⟨#[]⟩ : ByteArray), .int .i64 0] 43 ?_; intro gb147 hg w43 hbox hb; replace BK147 := am_ (hbox); replace GW147 := am_ (((have z0_ := GE143; Ze) : w.heap.size ≤ gb147)); replace GE147 := GW147; replace HB := (bsZ (have z0_ := GE143; Zf) hb); replace NB143_147 := am_ (((have z0_ := BK143; Zas) : gb143 ≠ gb147)); replace NB147_143 := am_ (((have z0_ := BK143; Zat) : gb147 ≠ gb143)); replace BK143 := (have z0_ := BK143; bkZ hb); clear hb hbox hg; have hnb44 := NB147_143.out; have hnc44 := NB143_147.out; refine ci4 BK147 ?_; intros; refine ci3 BK143 ?_; intros) | ((with_reducible refine gate_callee (f := 93) rfl ?_); refine goesL_ (some 39) rfl rfl Try.func93 Zj rfl #[.slice A0_0 l0_0.length c0_0, .int .i64 ((rd_T43 l0_2 x3_2).f0), .int .i64 ((rd_T43 l0_2 x3_2).f1)] rfl Zo ?_; (with_reducible refine (spec_l07Has.calls _ _ l0_0 ((rd_T43 l0_2 x3_2).f0) ((rd_T43 l0_2 x3_2).f1) true _ ?side1 ?side2 A17.out).mono ?_); (case side1 => exact Kd.C_below HR0_0.out (have z0_ := GE143; have z1_ := GE147; Zi)); (case side2 => exact HC0_0.out); rintro e w' ⟨rfl, ⟨nd, rfl⟩⟩; refine ⟨_, rfl, ?_⟩) | (go_at_call 94; (with_reducible refine (spec_l03Find.calls k2 _ _ l0_1 ((rd_T43 l0_2 x3_2).f2) t149 _ ?side1 ?side2 A19.out).mono ?_); (case side1 => exact Kd.C_below HR0_1.out (have z0_ := GE143; have z1_ := GE147; Zi)); (case side2 => exact HC0_1.out); rintro e w' ⟨rfl, ⟨nd, rfl⟩⟩) | (go_at_call 68; (with_reducible refine (spec_l01In.calls ((rd_T43 l0_2 x3_2).f3) 0 11 false _ A26.out).mono ?_); rintro e w' ⟨rfl, ⟨nd, rfl⟩⟩))
           go_ret
           exact ⟨Zk, (have z0_ := GE143; have z1_ := GE147; Zi)⟩
        ·replace c18 := Bool.eq_false_iff.mpr c18
         subst c18
         have H1 : (some false) = some r := by rw [if_neg (show ¬ (false = true) by decide)] at H; exact H
         clear H; have H := H1; clear H1; obtain rfl := Option.some.inj H; refine ci3 BK143 ?_; intros; have p146 : 0 ≤ (x3_2 : Int) := of_decide_eq_true Zp; have q146 : x3_2 < (l0_2.length : Int) := of_decide_eq_true Zp; obtain ⟨ad146, e146, hx146_0, hx146_1, hx146_2, hx146_3⟩ := at_T43 HR0_2.out x3_2 p146 q146
         cases e146
         replace hx146_0 := cbH HB hx146_0; replace hx146_1 := cbH HB hx146_1; replace hx146_2 := cbH HB hx146_2; replace hx146_3 := cbH HB hx146_3; replace p146 := eq_true p146; replace q146 := eq_true q146
         go_wp2_with (first | ((with_reducible refine gate_dst (N := 4) rfl ?_); (try (refine gate_guard (by rfl) ?_; dsimp only)); refine boxZ 4 #[.int .i64 0, .int .i64 0, .string (⟨#[]⟩ : ByteArray), .int .i64 0] 43 ?_; intro gb147 hg w48 hbox hb; replace BK147 := am_ (hbox); replace GW147 := am_ (((have z0_ := GE143; Ze) : w.heap.size ≤ gb147)); replace GE147 := GW147; replace HB := (bsZ (have z0_ := GE143; Zf) hb); replace NB143_147 := am_ (((have z0_ := BK143; Zas) : gb143 ≠ gb147)); replace NB147_143 := am_ (((have z0_ := BK143; Zat) : gb147 ≠ gb143)); replace BK143 := (have z0_ := BK143; bkZ hb); clear hb hbox hg; have hnb49 := NB147_143.out; have hnc49 := NB143_147.out; refine ci4 BK147 ?_; intros; refine ci3 BK143 ?_; intros) | ((with_reducible refine gate_callee (f := 93) rfl ?_); refine goesL_ (some 39) rfl rfl Try.func93 Zj rfl #[.slice A0_0 l0_0.length c0_0, .int .i64 ((rd_T43 l0_2 x3_2).f0), .int .i64 ((rd_T43 l0_2 x3_2).f1)] rfl Zo ?_; (with_reducible refine (spec_l07Has.calls _ _ l0_0 ((rd_T43 l0_2 x3_2).f0) ((rd_T43 l0_2 x3_2).f1) false _ ?side1 ?side2 A17.out).mono ?_); (case side1 => exact Kd.C_below HR0_0.out (have z0_ := GE143; have z1_ := GE147; Zi)); (case side2 => exact HC0_0.out); rintro e w' ⟨rfl, ⟨nd, rfl⟩⟩; refine ⟨_, rfl, ?_⟩))
         go_ret
         exact ⟨Zk, (have z0_ := GE143; have z1_ := GE147; Zi)⟩
       ·rw [if_neg c16] at H
        exact absurd H (by simp)
      ·rw [if_neg c15] at H
       have c15b0 := decide_eq_false c15; clear c15; obtain rfl := Option.some.inj H; refine ci3 BK143 ?_; intros
       go_wp2
       go_ret
       exact ⟨Zk, (have z0_ := GE143; Zf)⟩
end Go.Proofs.Ytnlbaflbhicooaa.F
