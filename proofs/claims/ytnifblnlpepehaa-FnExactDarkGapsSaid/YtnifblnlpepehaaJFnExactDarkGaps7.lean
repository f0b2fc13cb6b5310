import Derived.Test.YtnifblnlpepehaaJFnExactDarkGaps6
import Derived.Below
import Derived.Deep.Draws
import Derived.Deep.AppendLies
import Derived.Maps.AppendAt
import Derived.OwnWalk
import Derived.Laws.BytesArg
import Derived.Laws.MakeOwn
import Derived.Laws.OwnMore
import Derived.Deep.OwnRows
import Derived.Tactics
import Derived.Lib.ConvBytes
import Derived.Laws.Slices
import Derived.WalkKit
import Derived.KernelRfl
import Derived.RowKit3
import Derived.Deep.LoopGhost
import Derived.Deep.QuietTactic
import Derived.BigQuiet
import Derived.WideLaws
import Derived.Deep.DeepCutAuto
import Derived.Deep.CutBlock
import Derived.Deep.RegionHeld3
import Derived.Laws.Rows
import Derived.Lib.AppendStr
import Derived.ArgAppend
import Derived.Laws.IdiomCopy
import Derived.RowKit
import Derived.OrdersHeld
import Derived.Laws.BitsLemmas
import Derived.Laws.StructEq
import Derived.Test.YtnifblnlpepehaaProg
import Derived.ChangeSlices
import Derived.OpenShut
import Derived.Laws.Cover1
import Derived.Test.YtnifblnlpepehaaRows
import Derived.Test.YtnifblnlpepehaaGcFnExactDarkGaps
import Derived.ProofKit
import Derived.ShutString
import Derived.ChangeOld
import Derived.SizedLaws
namespace Go.Proofs.Ytnifblnlpepehaa.F
open Go.RowKit Go.Proofs.YtnifblnlpepehaaW.PrintWords Go.Proofs.YtnifblnlpepehaaW.PrintLast Go.Proofs.YtnifblnlpepehaaW.PrintMore
set_option linter.unusedVariables false
set_option linter.unusedSimpArgs false
def gW (W : List (List Int)) (o : Int) : List Int := rd_L5 W o
def srtW (W : List (List Int)) (i : Nat) : List (List Int) := (ordF (starts W) i).map (gW W)
theorem starts_len (W : List (List Int)) : (starts W).length = W.length := by unfold starts; rw [List.length_map]
theorem srtW_len (W : List (List Int)) (i : Nat) : (srtW W i).length = i := by unfold srtW; rw [List.length_map, (ordF_ord _ _).l]
theorem rdL_srt (W : List (List Int)) (m : Nat) {j : Nat} (hj : j < m) : rd_L5 (srtW W m) (j : Int) = rd_L5 W ((ordF (starts W) m).getD j 0) := by
 have hl := (ordF_ord (starts W) m).l
 unfold srtW
 have h1 : j < ((ordF (starts W) m).map (gW W)).length := by rw [List.length_map]; omega
 rw [rdL_get h1, List.getElem_map, List.getD_eq_getElem?_getD, List.getElem?_eq_getElem (show j < (ordF (starts W) m).length by omega)]
 rfl
def lo (S : List (List Int)) (j : Nat) : Int := rd (rd_L5 S (j : Int)) 0
def hi (S : List (List Int)) (j : Nat) : Int := rd (rd_L5 S (j : Int)) 1
theorem lo_srt {W : List (List Int)} {m : Nat} (hm : m ≤ W.length) {j : Nat} (hj : j < m) : lo (srtW W m) j = rd (starts W) ((ordF (starts W) m).getD j 0) := by
 have hr := (ordF_ord (starts W) m).r j hj
 unfold lo
 rw [rdL_srt W m hj]; obtain ⟨n, hn⟩ : ∃ n : Nat, (ordF (starts W) m).getD j 0 = (n : Int) := ⟨((ordF (starts W) m).getD j 0).toNat, by omega⟩; rw [hn, rd_starts W n (by omega)]
def mxF (S : List (List Int)) : Nat → Int
 | 0 => 0
 | i + 1 => if i = 0 then hi S 0 else mx (mxF S i) (hi S i)
def gapF (S : List (List Int)) (least : Int) : Nat → List (List Int)
 | 0 => []
 | i + 1 => gapF S least i ++ (if 0 < i ∧ lo S i - mxF S i - 1 ≥ least then [[mxF S i + 1, lo S i - 1]] else [])
def Rng (S : List (List Int)) : Prop := S.length ≤ 1000 ∧ ∀ j, j < S.length → 2 ≤ (rd_L5 S (j : Int)).length ∧ 0 ≤ lo S j ∧ lo S j ≤ hi S j ∧ hi S j ≤ 3000000
theorem mxF_range {S : List (List Int)} (h : Rng S) : ∀ i, i ≤ S.length → 0 ≤ mxF S i ∧ mxF S i ≤ 3000000
 | 0, _ => by unfold mxF; omega
 | i + 1, hi_ => by
  have a := mxF_range h i (by omega); have b := h.2 i (by omega)
  unfold mxF
  by_cases z : i = 0
  ·subst z; rw [if_pos rfl]; omega
  ·rw [if_neg z]; unfold mx; split <;> omega
theorem gapF_len (S : List (List Int)) (least : Int) : ∀ i, (gapF S least i).length ≤ i
 | 0 => Nat.le_refl _
 | i + 1 => by
  have := gapF_len S least i
  unfold gapF
  rw [List.length_append]
  split
  ·show _ + 1 ≤ _; omega
  ·show _ + 0 ≤ _; omega
theorem gapF_rows (S : List (List Int)) (least : Int) : ∀ i, ∀ x ∈ gapF S least i, x.length ≤ 3
 | 0, x, hx => absurd hx List.not_mem_nil
 | i + 1, x, hx => by
  unfold gapF at hx
  rw [List.mem_append] at hx
  rcases hx with h | h
  ·exact gapF_rows S least i x h
  ·split at h
   ·rw [List.mem_singleton.1 h]; show 2 ≤ 3; omega
   ·exact absurd h List.not_mem_nil
theorem allW_rng {A : List S87} {B : List S91} {C : List S80} (h : isShow A B C = true) : Rng (allW A B C C.length) := by
 have hC := (isShow_true h).2.2.1; refine ⟨by have := allW_len h C.length (Nat.le_refl _); omega, fun i hi_ => ?_⟩; obtain ⟨a, j, h1, h2, e⟩ := (allW_mem _ _).1 (rdL_mem hi_); have := w_range h h1 h2
 unfold lo hi
 rw [e, rd_0, rd_1]; exact ⟨by show 2 ≤ 3; omega, this.1, this.2.1, this.2.2.1⟩
theorem srtW_rng {W : List (List Int)} (h : Rng W) {m : Nat} (hm : m ≤ W.length) : Rng (srtW W m) := by
 refine ⟨by rw [srtW_len]; have := h.1; omega, fun j hj => ?_⟩; rw [srtW_len] at hj; have hr := (ordF_ord (starts W) m).r j hj; obtain ⟨n, hn⟩ : ∃ n : Nat, (ordF (starts W) m).getD j 0 = (n : Int) := ⟨((ordF (starts W) m).getD j 0).toNat, by omega⟩; have := h.2 n (by omega)
 unfold lo hi at *
 rw [rdL_srt W m hj, hn]; exact this
theorem spec_starts {W : List (List Int)} (h : Rng W) (least : Int) : ∀ d i, W.length - i = d → i ≤ W.length → ∀ k, spec_DarkGaps.l0 (k + (d + 1)) least W [] ((starts W).take i) (i : Int) = (spec_l08Order.f k (starts W)).bind fun t => spec_DarkGaps.l1 k least W [] t 0 0 := by
 have hl := h.1; have hs := starts_len W; intro d
 induction d with
 | zero =>
  intro i hd hi_ k; show spec_DarkGaps.l0 (k + 1) least W [] ((starts W).take i) (i : Int) = _
  unfold spec_DarkGaps.l0
  rw [if_neg (by omega), List.take_of_length_le (by omega)]
 | succ d ih =>
  intro i hd hi_ k; have e := ih (i + 1) (by omega) (by omega) k; have hr := (h.2 i (by omega)).1; rw [List.take_succ_eq_append_getElem (show i < (starts W).length by omega)] at e
  have es : (starts W)[i]'(by omega) = rd (rd_L5 W (i : Int)) 0 := by
   rw [← rd_starts W i (by omega)]; show _ = (starts W).getD ((i : Int)).toNat 0; rw [Int.toNat_natCast, List.getD_eq_getElem?_getD, List.getElem?_eq_getElem (by omega)]; rfl
  rw [es] at e; rw [show k + (d + 1 + 1) = (k + (d + 1)) + 1 by omega]
  have hT : ((starts W).take i).length < 17592186044416 := by rw [List.length_take]; omega
  revert e
  generalize (spec_l08Order.f k (starts W)).bind (fun t => spec_DarkGaps.l1 k least W [] t 0 0) = Z; generalize k + (d + 1) = q; intro e
  unfold spec_DarkGaps.l0
  rw [if_pos (by omega), if_pos (by omega), if_pos (by omega), if_pos hT, w64 (n := (i : Int) + 1) (by omega)]; exact e
theorem spec_gaps {W : List (List Int)} (h : Rng W) {least : Int} (hle : 1 ≤ least ∧ least ≤ 10000000) : ∀ d i, W.length - i = d → i ≤ W.length → ∀ k, d + 1 ≤ k → spec_DarkGaps.l1 k least W (gapF (srtW W W.length) least i) (ordF (starts W) W.length) (mxF (srtW W W.length) i) (i : Int) = some (gapF (srtW W W.length) least W.length, 0) := by
 have hl := h.1; have ho := ordF_ord (starts W) W.length; have hS := srtW_rng h (Nat.le_refl W.length); have hSl := srtW_len W W.length; intro d
 induction d with
 | zero =>
  intro i hd hi_ k hk; obtain ⟨k, rfl⟩ : ∃ m, k = m + 1 := ⟨k - 1, by omega⟩
  have e : i = W.length := by omega
  have hol := ho.l
  unfold spec_DarkGaps.l1
  rw [if_neg (by omega), e]
 | succ d ih =>
  intro i hd hi_ k hk; obtain ⟨k, rfl⟩ : ∃ m, k = m + 1 := ⟨k - 1, by omega⟩; have e := ih (i + 1) (by omega) (by omega) k (by omega); have hol := ho.l; have hor := ho.r i (by omega); have hr := hS.2 i (by omega); have hm := mxF_range hS i (by omega); have hg := gapF_len (srtW W W.length) least i
  have hrow : rd_L5 W (rd (ordF (starts W) W.length) (i : Int)) = rd_L5 (srtW W W.length) (i : Int) := by
   rw [rd_nat, ← rdL_srt W W.length (by omega)]
  have hor2 : 0 ≤ rd (ordF (starts W) W.length) (i : Int) ∧ rd (ordF (starts W) W.length) (i : Int) < (W.length : Int) := by rw [rd_nat]; exact hor
  have hlo : rd (rd_L5 (srtW W W.length) (i : Int)) 0 = lo (srtW W W.length) i := rfl; have hhi : rd (rd_L5 (srtW W W.length) (i : Int)) 1 = hi (srtW W W.length) i := rfl; have eg : gapF (srtW W W.length) least (i + 1) = gapF (srtW W W.length) least i ++ (if 0 < i ∧ lo (srtW W W.length) i - mxF (srtW W W.length) i - 1 ≥ least then [[mxF (srtW W W.length) i + 1, lo (srtW W W.length) i - 1]] else []) := rfl; have em : mxF (srtW W W.length) (i + 1) = if i = 0 then hi (srtW W W.length) 0 else mx (mxF (srtW W W.length) i) (hi (srtW W W.length) i) := rfl; have hwi : ∀ _ : Unit, wrap64 ((i : Int) + 1) = ((i + 1 : Nat) : Int) := fun _ => w64 (by omega); rw [eg, em] at e; generalize gapF (srtW W W.length) least i = G at e hg ⊢; generalize gapF (srtW W W.length) least W.length = GG at e ⊢; generalize mxF (srtW W W.length) i = M at e hm ⊢
  have c2 : 0 < (((rd_L5 (srtW W W.length) (i : Int)).length : Nat) : Int) := by omega
  have c3 : 1 < (((rd_L5 (srtW W W.length) (i : Int)).length : Nat) : Int) := by omega
  unfold spec_DarkGaps.l1
  simp only [hrow, hlo, hhi]
  by_cases z : i = 0
  ·subst z
   rw [if_neg (show ¬ (0 < 0 ∧ lo (srtW W W.length) 0 - M - 1 ≥ least) by omega), if_pos rfl, List.append_nil] at e; rw [if_pos (by omega), if_pos (by omega), if_pos hor2.1, if_pos hor2.2, if_neg (by omega), if_pos (by omega), if_pos c3, hwi ()]; exact e
  ·rw [if_neg z] at e
   have w1 : ∀ _ : Unit, wrap64 (lo (srtW W W.length) i - M) = lo (srtW W W.length) i - M := fun _ => w64 (by omega); have w2 : ∀ _ : Unit, wrap64 (lo (srtW W W.length) i - M - 1) = lo (srtW W W.length) i - M - 1 := fun _ => w64 (by omega); have w3 : ∀ _ : Unit, wrap64 (M + 1) = M + 1 := fun _ => w64 (by omega); have w4 : ∀ _ : Unit, wrap64 (lo (srtW W W.length) i - 1) = lo (srtW W W.length) i - 1 := fun _ => w64 (by omega); rw [if_pos (by omega), if_pos (by omega), if_pos hor2.1, if_pos hor2.2, if_pos (by omega), if_pos c2, w1 (), w2 ()]
   by_cases g : lo (srtW W W.length) i - M - 1 ≥ least
   ·rw [if_pos ⟨by omega, g⟩] at e
    rw [if_pos g, if_pos (by omega), Option.bind_some, if_neg (by omega), if_pos c3, w3 (), w4 (), hwi ()]
    by_cases y : hi (srtW W W.length) i > M
    ·rw [if_pos y]; unfold mx at e; rw [if_pos (by omega)] at e; exact e
    ·rw [if_neg y]; unfold mx at e; rw [if_neg (by omega)] at e; exact e
   ·rw [if_neg (fun y => g y.2), List.append_nil] at e
    rw [if_neg g, if_neg (by omega), if_pos c3, hwi ()]
    by_cases y : hi (srtW W W.length) i > M
    ·rw [if_pos y]; unfold mx at e; rw [if_pos (by omega)] at e; exact e
    ·rw [if_neg y]; unfold mx at e; rw [if_neg (by omega)] at e; exact e
def zp (P : List (List Int)) (v : List Int) (R : List (List Int)) (k : Nat) : List (List Int) := P.take k ++ v :: (P.drop k ++ R)
theorem zp_len (P : List (List Int)) (v : List Int) (R : List (List Int)) {k : Nat} (hk : k ≤ P.length) : (zp P v R k).length = P.length + 1 + R.length := by
 unfold zp
 rw [List.length_append, List.length_cons, List.length_append, List.length_take, List.length_drop]; omega
theorem rdL_of {X : List (List Int)} {i : Nat} {v : List Int} (h : X[i]? = some v) : rd_L5 X (i : Int) = v := by
 unfold rd_L5
 rw [Int.toNat_natCast, List.getD_eq_getElem?_getD, h]; rfl
theorem zp_at (P : List (List Int)) (v : List Int) (R : List (List Int)) {k : Nat} (hk : k ≤ P.length) : rd_L5 (zp P v R k) (k : Int) = v := by
 refine rdL_of ?_
 unfold zp
 rw [List.getElem?_append_right (by rw [List.length_take]; omega), List.length_take, show k - min k P.length = 0 by omega]; rfl
theorem zp_below (P : List (List Int)) (v : List Int) (R : List (List Int)) {k j : Nat} (hk : k ≤ P.length) (hj : j < k) : rd_L5 (zp P v R k) (j : Int) = rd_L5 P (j : Int) := by
 refine rdL_of ?_
 unfold zp
 rw [List.getElem?_append_left (by rw [List.length_take]; omega), List.getElem?_take, if_pos hj, rdL_get (by omega), List.getElem?_eq_getElem (by omega)]
theorem zp_swap (P : List (List Int)) (v : List Int) (R : List (List Int)) {k : Nat} (hk : k + 1 ≤ P.length) : ((zp P v R (k + 1)).set k v).set (k + 1) (rd_L5 P (k : Int)) = zp P v R k := by
 have h1 : P.take (k + 1) = P.take k ++ [rd_L5 P (k : Int)] := by rw [rdL_get (by omega), List.take_succ_eq_append_getElem (by omega)]
 have h2 : P.drop k = rd_L5 P (k : Int) :: P.drop (k + 1) := by rw [rdL_get (by omega), List.drop_eq_getElem_cons (by omega)]
 have hl : (P.take k).length = k := by rw [List.length_take]; omega
 unfold zp
 rw [h1, h2, List.append_assoc]; generalize rd_L5 P (k : Int) = x; generalize P.take k = a at hl ⊢; subst hl; rw [List.set_append_right _ _ (by omega), Nat.sub_self]; show (a ++ v :: v :: (P.drop (a.length + 1) ++ R)).set (a.length + 1) x = _; rw [List.set_append_right _ _ (by omega), show a.length + 1 - a.length = 1 by omega]
 rfl
theorem srtW_succ (W : List (List Int)) (i : Nat) (R : List (List Int)) : srtW W (i + 1) ++ R = zp (srtW W i) (rd_L5 W (i : Int)) R (pos (starts W) (ordF (starts W) i) i) := by
 unfold srtW zp
 show (insAt (ordF (starts W) i) (pos (starts W) (ordF (starts W) i) i) (i : Int)).map (gW W) ++ R = _
 unfold insAt
 rw [List.map_append, List.map_cons, List.map_take, List.map_drop, List.append_assoc]
 rfl
theorem zp_top (W : List (List Int)) {i : Nat} (hi_ : i < W.length) : srtW W i ++ W.drop i = zp (srtW W i) (rd_L5 W (i : Int)) (W.drop (i + 1)) i := by
 have hl := srtW_len W i
 unfold zp
 rw [List.take_of_length_le (show (srtW W i).length ≤ i by omega), show (srtW W i).drop i = [] from List.drop_of_length_le (by omega), List.nil_append, List.drop_eq_getElem_cons hi_, rdL_get hi_]
theorem impl_down {W : List (List Int)} (h : Rng W) (least : Int) {i : Nat} (hi_ : i < W.length) : ∀ d k, k - pos (starts W) (ordF (starts W) i) i = d → pos (starts W) (ordF (starts W) i) i ≤ k → k ≤ i → ∀ q, impl_DarkGaps.l1 (q + (d + 1)) least (zp (srtW W i) (rd_L5 W (i : Int)) (W.drop (i + 1)) k) (k : Int) (W.length : Int) (i : Int) = impl_DarkGaps.l0 q least (srtW W (i + 1) ++ W.drop (i + 1)) (W.length : Int) ((i + 1 : Nat) : Int) := by
 have hl := h.1; have hsl := srtW_len W i; have ho := ordF_ord (starts W) i; have hr := h.2 i hi_; have hwi : ∀ _ : Unit, wrap64 ((i : Int) + 1) = ((i + 1 : Nat) : Int) := fun _ => w64 (by omega); have hP : ∀ j, j < i → 2 ≤ (rd_L5 (srtW W i) (j : Int)).length := fun j hj => ((srtW_rng h (show i ≤ W.length by omega)).2 j (by omega)).1; have hlo : ∀ j, j < i → rd (rd_L5 (srtW W i) (j : Int)) 0 = rd (starts W) ((ordF (starts W) i).getD j 0) := fun j hj => lo_srt (by omega) hj; have hv : rd (rd_L5 W (i : Int)) 0 = rd (starts W) (i : Int) := (rd_starts W i hi_).symm; intro d
 induction d with
 | zero =>
  intro k hd h1 h2 q
  have hk : k = pos (starts W) (ordF (starts W) i) i := by omega
  have hzl := zp_len (srtW W i) (rd_L5 W (i : Int)) (W.drop (i + 1)) (show k ≤ (srtW W i).length by omega); rw [List.length_drop] at hzl; show impl_DarkGaps.l1 (q + 1) least _ _ _ _ = _; rw [srtW_succ, ← hk]
  unfold impl_DarkGaps.l1
  by_cases c : (k : Int) > 0
  ·have hw : ∀ _ : Unit, wrap64 ((k : Int) - 1) = ((k - 1 : Nat) : Int) := fun _ => by rw [w64 (by omega)]; omega
   have hb := Ord.before (T := starts W) (O := ordF (starts W) i) (i := i) (j := k - 1) (by omega); have e1 := zp_below (srtW W i) (rd_L5 W (i : Int)) (W.drop (i + 1)) (show k ≤ (srtW W i).length by omega) (show k - 1 < k by omega); have e2 := zp_at (srtW W i) (rd_L5 W (i : Int)) (W.drop (i + 1)) (show k ≤ (srtW W i).length by omega); have b1 := hP (k - 1) (by omega); have b2 := hlo (k - 1) (by omega); rw [if_pos c, hw (), if_pos (by omega), if_pos (by omega), e1, e2, if_pos (by omega), if_pos (by omega), if_pos (by omega), if_pos (by omega), if_neg (by omega), hwi ()]
  ·rw [if_neg c, hwi ()]
 | succ d ih =>
  intro k hd h1 h2 q; obtain ⟨k, rfl⟩ : ∃ m, k = m + 1 := ⟨k - 1, by omega⟩; have hzl := zp_len (srtW W i) (rd_L5 W (i : Int)) (W.drop (i + 1)) (show k + 1 ≤ (srtW W i).length by omega); rw [List.length_drop] at hzl
  have hw : ∀ _ : Unit, wrap64 (((k + 1 : Nat) : Int) - 1) = (k : Int) := fun _ => by rw [w64 (by omega)]; omega
  have ha := ho.after (i := i) (j := k) (by omega) (by omega); have e1 := zp_below (srtW W i) (rd_L5 W (i : Int)) (W.drop (i + 1)) (show k + 1 ≤ (srtW W i).length by omega) (show k < k + 1 by omega); have e2 := zp_at (srtW W i) (rd_L5 W (i : Int)) (W.drop (i + 1)) (show k + 1 ≤ (srtW W i).length by omega); have b1 := hP k (by omega); have b2 := hlo k (by omega); have e := ih k (by omega) (by omega) (by omega) q; have sw := zp_swap (srtW W i) (rd_L5 W (i : Int)) (W.drop (i + 1)) (show k + 1 ≤ (srtW W i).length by omega); rw [show q + (d + 1 + 1) = (q + (d + 1)) + 1 by omega]
  revert e
  generalize q + (d + 1) = f; intro e
  unfold impl_DarkGaps.l1
  rw [if_pos (by omega), hw (), if_pos (by omega), if_pos (by omega), e1, e2, if_pos (by omega), if_pos (by omega), if_pos (by omega), if_pos (by omega), if_pos (by omega), Int.toNat_natCast, Int.toNat_natCast, sw]; exact e
theorem impl_sort {W : List (List Int)} (h : Rng W) {least : Int} {Z : Nat} {r : List (List Int) × Int} (hz : ∀ k, Z ≤ k → impl_DarkGaps.l2 k least (srtW W W.length) [] (srtW W W.length) (W.length : Int) 0 = some r) : ∀ d i, W.length - i = d → i ≤ W.length → ∀ k, Z + d * (W.length + 3) + 1 ≤ k → impl_DarkGaps.l0 k least (srtW W i ++ W.drop i) (W.length : Int) (i : Int) = some r := by
 have hl := h.1; intro d
 induction d with
 | zero =>
  intro i hd hi_ k hk; obtain ⟨k, rfl⟩ : ∃ m, k = m + 1 := ⟨k - 1, by omega⟩
  have e : i = W.length := by omega
  subst e
  unfold impl_DarkGaps.l0
  rw [if_neg (by omega), List.drop_of_length_le (Nat.le_refl _), List.append_nil, srtW_len]; exact hz k (by omega)
 | succ d ih =>
  intro i hd hi_ k hk; have hm : (d + 1) * (W.length + 3) = d * (W.length + 3) + (W.length + 3) := Nat.succ_mul _ _; have hp := pos_le (starts W) (ordF (starts W) i) i; have hol := (ordF_ord (starts W) i).l; obtain ⟨k, rfl⟩ : ∃ m, k = m + (i - pos (starts W) (ordF (starts W) i) i + 1) + 1 := ⟨k - (i - pos (starts W) (ordF (starts W) i) i + 1) - 1, by omega⟩; have e := ih (i + 1) (by omega) (by omega) k (by omega)
  unfold impl_DarkGaps.l0
  rw [if_pos (by omega), zp_top W (by omega)]; exact (impl_down h least (by omega) _ i rfl (by omega) (Nat.le_refl _) k).trans e
theorem impl_max {S : List (List Int)} (h : Rng S) {least : Int} {i : Nat} (hi0 : 0 < i) (hi_ : i < S.length) (G : List (List Int)) {K : Nat} {r : List (List Int) × Int} (hG : G.length ≤ i)
  (hn : ∀ k, K ≤ k → impl_DarkGaps.l2 k least S (G ++ (if 0 < i ∧ lo S i - mxF S i - 1 ≥ least then [[mxF S i + 1, lo S i - 1]] else [])) S (S.length : Int) ((i + 1 : Nat) : Int) = some r) : ∀ d j, i - j = d → j ≤ i → ∀ k, K + d + 1 ≤ k → impl_DarkGaps.l3 k least S G (rd_L5 S (i : Int)) (if j = 0 then hi S 0 else mxF S j) S (S.length : Int) (i : Int) (S.take i) ((S.take i).length : Int) (j : Int) = some r := by
 have hl := h.1
 have htl : (S.take i).length = i := by rw [List.length_take]; omega
 have hri := h.2 i hi_; have hm := mxF_range h i (by omega); have hwi : ∀ _ : Unit, wrap64 ((i : Int) + 1) = ((i + 1 : Nat) : Int) := fun _ => w64 (by omega); have hlo : rd (rd_L5 S (i : Int)) 0 = lo S i := rfl; intro d
 induction d with
 | zero =>
  intro j hd hj k hk; obtain ⟨k, rfl⟩ : ∃ m, k = m + 1 := ⟨k - 1, by omega⟩
  have e : j = i := by omega
  subst e; have w1 : ∀ _ : Unit, wrap64 (lo S j - mxF S j) = lo S j - mxF S j := fun _ => w64 (by omega); have w2 : ∀ _ : Unit, wrap64 (lo S j - mxF S j - 1) = lo S j - mxF S j - 1 := fun _ => w64 (by omega); have w3 : ∀ _ : Unit, wrap64 (mxF S j + 1) = mxF S j + 1 := fun _ => w64 (by omega); have w4 : ∀ _ : Unit, wrap64 (lo S j - 1) = lo S j - 1 := fun _ => w64 (by omega); have e := hn k (by omega)
  unfold impl_DarkGaps.l3
  rw [if_neg (show ¬ j = 0 by omega), htl, if_neg (by omega), hlo, if_pos (by omega), w1 (), w2 ()]
  by_cases g : lo S j - mxF S j - 1 ≥ least
  ·rw [if_pos ⟨hi0, g⟩] at e
   rw [if_pos g, if_pos (by omega), w3 (), w4 (), hwi ()]; exact e
  ·rw [if_neg (fun y => g y.2), List.append_nil] at e
   rw [if_neg g, hwi ()]; exact e
 | succ d ih =>
  intro j hd hj k hk; obtain ⟨k, rfl⟩ : ∃ m, k = m + 1 := ⟨k - 1, by omega⟩; have hrj := h.2 j (by omega)
  have hrow : rd_L5 (S.take i) (j : Int) = rd_L5 S (j : Int) := by
   refine rdL_of ?_; rw [List.getElem?_take, if_pos (by omega), rdL_get (by omega), List.getElem?_eq_getElem (by omega)]
  have hhi : rd (rd_L5 S (j : Int)) 1 = hi S j := rfl
  have hmx : mx (if j = 0 then hi S 0 else mxF S j) (hi S j) = (if j + 1 = 0 then hi S 0 else mxF S (j + 1)) := by
   rw [if_neg (show ¬ j + 1 = 0 by omega)]; show _ = (if j = 0 then hi S 0 else mx (mxF S j) (hi S j))
   by_cases z : j = 0
   ·subst z; rw [if_pos rfl, if_pos rfl]; unfold mx; split <;> rfl
   ·rw [if_neg z, if_neg z]
  have e := ih (j + 1) (by omega) (by omega) k (by omega)
  unfold impl_DarkGaps.l3
  rw [htl, if_pos (by omega), if_pos (by omega), if_pos (by omega), hrow, if_pos (by omega), hhi, hmx, w64 (n := (j : Int) + 1) (by omega)]; rw [htl] at e; exact e
theorem impl_gaps {S : List (List Int)} (h : Rng S) {least : Int} : ∀ d i, S.length - i = d → i ≤ S.length → ∀ k, d * (S.length + 3) + 1 ≤ k → impl_DarkGaps.l2 k least S (gapF S least i) S (S.length : Int) (i : Int) = some (gapF S least S.length, 0) := by
 have hl := h.1; intro d
 induction d with
 | zero =>
  intro i hd hi_ k hk; obtain ⟨k, rfl⟩ : ∃ m, k = m + 1 := ⟨k - 1, by omega⟩
  have e : i = S.length := by omega
  unfold impl_DarkGaps.l2
  rw [if_neg (by omega), e]
 | succ d ih =>
  intro i hd hi_ k hk; have hm : (d + 1) * (S.length + 3) = d * (S.length + 3) + (S.length + 3) := Nat.succ_mul _ _; obtain ⟨k, rfl⟩ : ∃ m, k = m + 1 := ⟨k - 1, by omega⟩; have hg := gapF_len S least i
  by_cases z : i = 0
  ·subst z
   have e := ih 1 (by omega) (by omega) k (by omega)
   have e2 : gapF S least 1 = gapF S least 0 := by
    show gapF S least 0 ++ _ = _; rw [if_neg (fun y => Nat.lt_irrefl 0 y.1), List.append_nil]
   rw [e2] at e
   unfold impl_DarkGaps.l2
   rw [if_pos (by omega), if_pos (by omega), if_pos (by omega), if_pos (by omega), w64 (n := ((0 : Nat) : Int) + 1) (by omega)]; exact e
  ·have hr0 := (h.2 0 (by omega)).1
   have hr0' : 2 ≤ (rd_L5 S 0).length := hr0
   unfold impl_DarkGaps.l2
   rw [if_pos (by omega), if_pos (by omega), if_pos (by omega), if_neg (by omega), if_pos (by omega), if_pos (by omega), if_pos (by omega), Option.bind_some, Int.toNat_natCast]; exact impl_max h (by omega) (by omega) (gapF S least i) hg (fun k hk => ih (i + 1) (by omega) (by omega) k hk) i 0 (by omega) (by omega) k (by omega)
def darkR (A : List S87) (B : List S91) (C : List S80) (least : Int) : List (List Int) × Int := if isShow A B C = true then (if inB least 1 10000000 = true then (gapF (srtW (allW A B C C.length) (allW A B C C.length).length) least (allW A B C C.length).length, 0) else ([], 2)) else ([], 1)
theorem dark_ok (n0 : Nat) {A : List S87} {B : List S91} {C : List S80} (hF : Frame n0 A B C) (least : Int) : Evt (fun k => spec_DarkGaps.f k A B C least = some (darkR A B C least)) ∧ Evt (fun k => impl_DarkGaps.f k A B C least = some (darkR A B C least)) := by
 by_cases h : isShow A B C = true
 ·by_cases g : inB least 1 10000000 = true
  ·have hW := allW_rng h
   have hl := hW.1; have gg := inB_true.1 g; obtain ⟨K, hK⟩ := impl_all h
   have hR : darkR A B C least = (gapF (srtW (allW A B C C.length) (allW A B C C.length).length) least (allW A B C C.length).length, 0) := by unfold darkR; rw [if_pos h, if_pos g]
   rw [hR]; have hsl := starts_len (allW A B C C.length)
   have hb : (starts (allW A B C C.length)).length * ((starts (allW A B C C.length)).length + 3) ≤ 1003000 := by
    rw [hsl]; have := Nat.mul_le_mul hl (show (allW A B C C.length).length + 3 ≤ 1003 by omega)
    omega
   refine ⟨⟨36893488147419103528 + 2000000, fun k hk => ?_⟩, ⟨36893488147419103528 + 3000000 + K, fun k hk => ?_⟩⟩
   ·show spec_DarkGaps.f k A B C least = _
    unfold spec_DarkGaps.f
    rw [ss_ok hF k (by omega), Option.bind_some, if_pos h, In_eq, Option.bind_some, if_pos g, spec_all h k (by omega), Option.bind_some]; generalize allW A B C C.length = W at hW hl hsl hb; obtain ⟨k, rfl⟩ : ∃ m, k = m + (W.length + 1) := ⟨k - (W.length + 1), by omega⟩; have e := spec_starts hW least W.length 0 (by omega) (by omega) k; rw [List.take_zero] at e; refine e.trans ?_; rw [spec_order (starts W) (by omega) k (by omega), Option.bind_some, hsl]; exact spec_gaps hW gg W.length 0 (by omega) (by omega) k (by omega)
   ·show impl_DarkGaps.f k A B C least = _
    unfold impl_DarkGaps.f
    rw [si_ok hF k (by omega), Option.bind_some, if_pos h, Wi_eq, Option.bind_some, if_pos g, show impl_windowsOf.f k A B C = _ from hK k (by omega), Option.bind_some]; clear hK; generalize allW A B C C.length = W at hW hl hsl hb; have hS := srtW_rng hW (Nat.le_refl W.length); have hSl := srtW_len W W.length
    have hb2 : W.length * (W.length + 3) ≤ 1003000 := by
     have := Nat.mul_le_mul hl (show W.length + 3 ≤ 1003 by omega)
     omega
    refine impl_sort hW (least := least) (Z := W.length * (W.length + 3) + 1) (fun k hk => ?_) W.length 0 (by omega) (by omega) k (by omega); have e := impl_gaps hS (least := least) (srtW W W.length).length 0 (by omega) (by omega) k (by rw [hSl]; omega); rw [hSl] at e; exact e
  ·have hR : darkR A B C least = ([], 2) := by unfold darkR; rw [if_pos h, if_neg g]
   rw [hR]; refine ⟨⟨36893488147419103528, fun k hk => ?_⟩, ⟨36893488147419103528, fun k hk => ?_⟩⟩
   ·show spec_DarkGaps.f k A B C least = _
    unfold spec_DarkGaps.f
    rw [ss_ok hF k (by omega), Option.bind_some, if_pos h, In_eq, Option.bind_some, if_neg g]
   ·show impl_DarkGaps.f k A B C least = _
    unfold impl_DarkGaps.f
    rw [si_ok hF k (by omega), Option.bind_some, if_pos h, Wi_eq, Option.bind_some, if_neg g]
 ·have hR : darkR A B C least = ([], 1) := by unfold darkR; rw [if_neg h]
  rw [hR]; refine ⟨⟨36893488147419103528, fun k hk => ?_⟩, ⟨36893488147419103528, fun k hk => ?_⟩⟩
  ·show spec_DarkGaps.f k A B C least = _
   unfold spec_DarkGaps.f
   rw [ss_ok hF k (by omega), Option.bind_some, if_neg h]
  ·show impl_DarkGaps.f k A B C least = _
   unfold impl_DarkGaps.f
   rw [si_ok hF k (by omega), Option.bind_some, if_neg h]
theorem darkR_len {A : List S87} {B : List S91} {C : List S80} {least : Int} : (darkR A B C least).1.length ≤ 1000 ∧ ∀ x ∈ (darkR A B C least).1, x.length ≤ 3 := by
 unfold darkR
 by_cases h : isShow A B C = true
 ·rw [if_pos h]
  by_cases g : inB least 1 10000000 = true
  ·rw [if_pos g]
   have hl := (allW_rng h).1; have := gapF_len (srtW (allW A B C C.length) (allW A B C C.length).length) least (allW A B C C.length).length; exact ⟨by show (gapF _ _ _).length ≤ _; omega, gapF_rows _ _ _⟩
  ·rw [if_neg g]; exact ⟨Nat.zero_le _, fun x hx => absurd hx List.not_mem_nil⟩
 ·rw [if_neg h]; exact ⟨Nat.zero_le _, fun x hx => absurd hx List.not_mem_nil⟩
theorem main_FnExactDarkGaps (A : List S87) (B : List S91) (C : List S80) (a1 : Int) (hA : A.length ≤ 1000000) (hB : B.length ≤ 1000000) (hC : C.length ≤ 1000000) (hS : ∀ x ∈ B, x.f0.size ≤ 1000000) (_ : ∀ x ∈ C, x.f2.size ≤ 1000000) (_ : I64 a1) : ∃ q1 q2, (q1.length ≤ 1000 ∧ ∀ x ∈ q1, x.length ≤ 3) ∧ Evt (fun k => spec_DarkGaps.f k A B C a1 = some (q1, q2)) ∧ Evt (fun k => impl_DarkGaps.f k A B C a1 = some (q1, q2)) :=
 ⟨(darkR A B C a1).1, (darkR A B C a1).2, darkR_len, dark_ok 1000000 ⟨by omega, by omega, by omega, by decide, hS⟩ a1⟩
theorem pure_FnExactDarkGaps : Pure_FnExactDarkGaps := by
 intro l0_0 l0_1 l0_2 a1 n0_0 p0_0 n0_1 p0_1 n0_2 p0_2 b1; obtain ⟨s1, zs1, z1⟩ := sz_Show l0_0 l0_1 l0_2 n0_0 n0_1 (fun x hx => (p0_1 x hx).1) n0_2 (fun x hx => (p0_2 x hx).2.2.1)
 rcases z1 with z1 | ⟨z1, z1b, u0, ⟨u1, v1⟩, u2, v2⟩
 ·obtain ⟨k, hk⟩ := zs1.ex
  exact ⟨k, s1, hk, Or.inl z1⟩
 obtain ⟨L0_0, t0_0, ne0_0, tk0_0, ln0_0, le0_0, rm0_0, jn0_0, fa0_0, ta0_0⟩ := to_BarS l0_0 (by omega); have eq0_0 := eq_BarS L0_0 (by omega); obtain ⟨L0_1, t0_1, ne0_1, tk0_1, ln0_1, le0_1, rm0_1, jn0_1, fa0_1, ta0_1⟩ := to_ArticleS l0_1 (by omega); have eq0_1 := eq_ArticleS L0_1 (by omega); obtain ⟨L0_2, t0_2, ne0_2, tk0_2, ln0_2, le0_2, rm0_2, jn0_2, fa0_2, ta0_2⟩ := to_CueS l0_2 (by omega); have eq0_2 := eq_CueS L0_2 (by omega); have fu0 := full_Show fa0_0 fa0_1 fa0_2; have to0 := bare_Show ta0_0 ta0_1 ta0_2; obtain ⟨q1, q2, ql, sp, im⟩ := main_FnExactDarkGaps (l0_0.map conv_BarS) (l0_1.map conv_ArticleS) (l0_2.map conv_CueS) a1 (by rw [ln0_0]; omega) (by rw [ln0_1]; omega) (by rw [ln0_2]; omega) (fun x hx => by obtain ⟨y, hy, rfl⟩ := List.mem_map.1 hx; exact v1 y hy) (fun x hx => by obtain ⟨y, hy, rfl⟩ := List.mem_map.1 hx; exact v2 y hy) b1; have er := eq_Int64SS q1 ql; have mk1 := mark_Show (l0_0.map conv_BarS) (l0_1.map conv_ArticleS) (l0_2.map conv_CueS) (101) (by omega) (by omega) (by omega) (by omega) (by omega); have tq := tot_SS_le q1 ql.2; have mg := mark_Int64SS q1 ql 101 (by omega) (by omega); have hd := held_Int64SS q1 ql 101 (by omega) (by omega); obtain ⟨k, hzs1, heq0_0, heq0_1, heq0_2, hfu0, hto0, hsp, him, her, hmk1, hmg, hhd⟩ := (zs1.and (eq0_0.and (eq0_1.and (eq0_2.and (fu0.and (to0.and (sp.and (im.and (er.and (mk1.and (mg.and hd))))))))))).ex; exact ⟨k, ⟨s1, hzs1, Or.inr ⟨z1, ⟨L0_0, _, t0_0, L0_1, _, t0_1, L0_2, _, t0_2, q1, q2, _, _, _, _, _, _, { ne0_0 := ne0_0, tk0_0 := tk0_0, ln0_0 := ln0_0, rm0_0 := rm0_0, jn0_0 := jn0_0, eq0_0 := heq0_0, ne0_1 := ne0_1, tk0_1 := tk0_1, ln0_1 := ln0_1, rm0_1 := rm0_1, jn0_1 := jn0_1, eq0_1 := heq0_1, ne0_2 := ne0_2, tk0_2 := tk0_2, ln0_2 := ln0_2, rm0_2 := rm0_2, jn0_2 := jn0_2, eq0_2 := heq0_2, fu0 := hfu0, to0 := hto0, sp := hsp, im := him, er := her, mk1 := hmk1, mk10 := (by omega), mg := hmg, mg0 := (by omega), hd := hhd, hl := seq_Int64SS_len _ _ }⟩⟩⟩⟩
end Go.Proofs.Ytnifblnlpepehaa.F
namespace Go.Proofs.Ytnifblnlpepehaa.fnExactDarkGaps
open Go.ChangeShapes Go.WideShapes Go.ChangeAt Go.RowKit Go.Proofs.Ytnifblnlpepehaa.F Go.Proofs.YtnifblnlpepehaaW.PrintWords
open Go.ChangeMaps (open_string shut_string)
set_option linter.unusedVariables false
theorem own : ownKnob Try.prog.godebug = none := by kernel_rfl
theorem laidOut : laidOutB Try.prog = true := by kernel_rfl
set_option maxRecDepth 100000 in
theorem lifted (os : Os) (started : os.Started) (H : Type) (enc : TypeId × Value → H) :
  ReturnsInHanded {} Try.checked os 3 .any (Rows.fnExactDarkGapsSpec.pre6 enc Try.prog Try.f3 Rows.fnExactDarkGapsRow.domain false) (Rows.fnExactDarkGapsSpec.post enc Try.prog Try.f3 false true false false) := by
 refine returnsInHanded_of_change_sized (C := Try.checked) own started (by kernel_rfl) Try.func3
  (ChangeSpec.witness6 (enc := enc) (C := Try.checked) false ⟨#[], #[.agg #[.slice none 0 0, .slice none 0 0, .slice none 0 0], .int .i64 0], []⟩ 8 (by kernel_rfl) (by kernel_rfl) (by kernel_rfl) (by kernel_rfl)) ?_
 intro W base args ds gs before hval0 hW hcnd hsz0 _
 have hval : ∀ (j : Nat) t v, Try.f3.params[j]? = some t → args[j]? = some v → Value.okWide Try.prog W .any base t v := hval0
 have hW' := hW
 obtain ⟨p, q, hA0, hV, rfl, hfz, hnd⟩ := hW
 have hA : DataW.TrodAll enc Try.prog W 0 (fun _ => true) true Try.f3.params.toList args.toList ds p := hA0
 rw [Try.params3] at hA hval
 obtain ⟨v0, vs0, d0, ds0, p0, q0, hargs, rfl, rfl, h0, r0⟩ := trodAll_cons hA
 obtain ⟨v1, vs1, d1, ds1, p1, q1, rfl, rfl, rfl, h1, r1⟩ := trodAll_cons r0
 obtain ⟨rfl, rfl, rfl⟩ := trodAll_nil r1
 obtain rfl : args = #[v0, v1] := by cases args; simp_all
 obtain ⟨rfl, rfl⟩ := trodVars_none hV
 have k0 := h0
 have lt0 : ∀ x ∈ p0, x.block < W.heap.size := by obtain ⟨m, hm⟩ := k0; exact DataW.trod_lt m _ _ _ hm
 obtain ⟨cs0, rfl, _⟩ := okWide_struct Try.underlying26 (hval 0 26 v0 rfl rfl)
 obtain ⟨A0_0, c0_0, l0_0, A0_1, c0_1, l0_1, A0_2, c0_2, l0_2, rfl, ⟨lc0_0, lm0_0, hC0_0, hP0_0⟩, ⟨lc0_1, lm0_1, hC0_1, hP0_1⟩, ⟨lc0_2, lm0_2, hC0_2, hP0_2⟩⟩ : ∃ (A0_0 : Option Addr) (c0_0 : Nat) (l0_0 : List S89) (A0_1 : Option Addr) (c0_1 : Nat) (l0_1 : List S74) (A0_2 : Option Addr) (c0_2 : Nat) (l0_2 : List S77), cs0 = #[.slice A0_0 l0_0.length c0_0, .slice A0_1 l0_1.length c0_1, .slice A0_2 l0_2.length c0_2] ∧ (l0_0.length ≤ c0_0 ∧ c0_0 ≤ maxLen ∧ Kd.C k89 W A0_0 l0_0.length l0_0 ∧ ∀ x ∈ l0_0, Pr89 x) ∧ (l0_1.length ≤ c0_1 ∧ c0_1 ≤ maxLen ∧ Kd.C k74 W A0_1 l0_1.length l0_1 ∧ ∀ x ∈ l0_1, Pr74 x) ∧ (l0_2.length ≤ c0_2 ∧ c0_2 ≤ maxLen ∧ Kd.C k77 W A0_2 l0_2.length l0_2 ∧ ∀ x ∈ l0_2, Pr77 x) := by
  obtain ⟨fuel, hf⟩ := h0
  obtain ⟨z0_0, y0_0, x0_0, z0_1, y0_1, x0_1, z0_2, y0_2, x0_2, hcs, hp⟩ := open_V26 hf
  simp only [Value.cells] at hcs
  exact ⟨z0_0, y0_0, x0_0, z0_1, y0_1, x0_1, z0_2, y0_2, x0_2, by rw [← hcs], hp⟩
 obtain ⟨a1, rfl, rfl, rfl, w1⟩ := open_int Try.underlying2 (hval 1 2 v1 rfl rfl) h1
 obtain ⟨k, hk⟩ := pure_FnExactDarkGaps l0_0 l0_1 l0_2 a1 (by omega) hP0_0 (by omega) hP0_1 (by omega) hP0_2 (I64_of w1)
 refine (law_FnExactDarkGaps k A0_0 c0_0 l0_0 A0_1 c0_1 l0_1 A0_2 c0_2 l0_2 a1 W hC0_0 lc0_0 hC0_1 lc0_1 hC0_2 lc0_2 hk).mono fun e W' ⟨he, bel⟩ => ?_
 subst he
 exact ⟨_, rfl, _, _, _, [], _, [], hW', trodAll_mk1 (shut_bool Try.underlying4 _), (trodAll_cons_mk (Below.trod laidOut (by kernel_rfl) (of_decide_eq_true (by kernel_rfl)) k0 bel lt0) (trodAll_cons_mk (shut_int Try.underlying2 w1) trodAll_mk0)), rfl, bel.frame _, fun h => by cases h⟩
theorem over : Rows.fnExactDarkGapsRow.holds Try.pinned (OpenSpec.ofChange Rows.fnExactDarkGapsSpec) :=
 OpenClaim.holds_of_wide 3 Try.f3 rfl rfl rfl rfl rfl rfl rfl ⟨rfl, rfl, rfl, rfl, rfl⟩ rfl rfl rfl rfl rfl (by kernel_rfl) Try.func3 GcFnExactDarkGaps.closed
  (of_decide_eq_true (by kernel_rfl)) (by unfold Func.isWrapper; first | (rw [if_pos (by decide +kernel)]; kernel_rfl) | (rw [if_neg (by decide +kernel)]; exact ⟨rfl, rfl⟩))
  (fun os started H enc _ => lifted os started H enc)
theorem proved : Rows.FnExactDarkGapsSaid := over
end Go.Proofs.Ytnifblnlpepehaa.fnExactDarkGaps
namespace Go.Proofs.Ytnifblnlpepehaa
theorem fnExactDarkGaps_holds : Rows.FnExactDarkGapsSaid := fnExactDarkGaps.proved
#print axioms fnExactDarkGaps_holds
end Go.Proofs.Ytnifblnlpepehaa
