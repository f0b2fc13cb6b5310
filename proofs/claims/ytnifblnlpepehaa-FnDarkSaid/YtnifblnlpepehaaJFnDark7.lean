import Derived.Test.YtnifblnlpepehaaJFnDark6
import Derived.Below
import Derived.Deep.Draws
import Derived.Deep.AppendLies
import Derived.Maps.AppendAt
import Derived.OwnWalk
import Derived.Laws.BytesArg
import Derived.Laws.MakeOwn
import Derived.Laws.OwnMore
import Derived.Tactics
import Derived.Lib.ConvBytes
import Derived.Laws.Slices
import Derived.WalkKit
import Derived.KernelRfl
import Derived.RowKit3
import Derived.Deep.LoopGhost
import Derived.Deep.QuietTactic
import Derived.BigQuiet
import Derived.WideLaws
import Derived.Deep.DeepCutAuto
import Derived.Deep.CutBlock
import Derived.Deep.RegionHeld3
import Derived.Lib.AppendStr
import Derived.ArgAppend
import Derived.Laws.IdiomCopy
import Derived.RowKit
import Derived.OrdersHeld
import Derived.Laws.BitsLemmas
import Derived.Laws.StructEq
import Derived.Test.YtnifblnlpepehaaProg
import Derived.Laws.Cover1
import Derived.ChangeSlices
import Derived.OpenShut
namespace Go.Proofs.Ytnifblnlpepehaa.F
open Go.RowKit Go.Proofs.YtnifblnlpepehaaW.PrintWords Go.Proofs.YtnifblnlpepehaaW.PrintLast Go.Proofs.YtnifblnlpepehaaW.PrintMore
set_option linter.unusedVariables false
set_option linter.unusedSimpArgs false
set_option maxHeartbeats 8000000
set_option maxRecDepth 100000
theorem mem_rd {α : Type} {xs : List α} {z : α} {i : Int} (h0 : 0 ≤ i) (h1 : i < (xs.length : Int)) : xs.getD i.toNat z ∈ xs := by
 rw [List.getD_eq_getElem?_getD, List.getElem?_eq_getElem (show i.toNat < xs.length by omega)]; exact List.getElem_mem _
def SmallArts (B : List S91) : Prop := ∀ x ∈ B, x.f0.size ≤ 100
theorem good_l1 {c : List Int} (hc : Code c) {A : List S87} (hA : GoodBars A) (hA1 : 1 ≤ A.length) (hA6 : A.length ≤ 6) {B : List S91} (hB : B.length ≤ 20) (hS : SmallArts B) :
  ∀ m (C : List S80), C.length + m ≤ 20 → ∀ {a s : Int}, St c a s → ∃ C' a' s', (∀ k, 36893488147419103600 + 2 * m ≤ k → spec_l08Good.l1 k (m : Int) c a s A B C = some (A, B, C', a', s')) ∧ St c a' s' ∧ C'.length ≤ 20 := by
 intro m
 induction m with
 | zero =>
  intro C hC a s h; refine ⟨C, a, s, fun k hk => ?_, h, by omega⟩; obtain ⟨k, rfl⟩ : ∃ m, k = m + 2 := ⟨k - 2, by omega⟩; simp only [spec_l08Good.l1]; rw [if_neg (by omega)]; simp only [spec_l08Good.j2]; rw [if_neg (by decide)]
 | succ m ih =>
  intro C hC a s h
  by_cases hb : (B.length : Int) > 0
  ·obtain ⟨r1, a1, s1, e1, h1, p1, q1⟩ := next_ok hc h (A.length : Int) (by omega)
   have hm := hA _ (mem_rd (z := z87) p1 (show r1 < (A.length : Int) by omega)); obtain ⟨r2, a2, s2, e2, h2, _⟩ := next_ok hc h1 (rd_T87 A r1).f0 (by unfold rd_T87; omega); obtain ⟨r3, a3, s3, e3, h3, p3, q3⟩ := next_ok hc h2 (B.length : Int) (by omega); obtain ⟨r4, a4, s4, e4, h4, _⟩ := next_ok hc h3 12 (by decide); have ha := fun k hk => add_spec 100 (A := A) (B := B) (C := C) ⟨by omega, by omega, by omega, by decide, hS⟩ ⟨by omega, by omega, by omega⟩ r1 r2 (rd_T91 B r3).f0 r4 k hk
   have hw : wrap64 (((m + 1 : Nat) : Int) - 1) = (m : Int) := by rw [w64 (by omega)]; omega
   have run : ∀ k, 36893488147419103600 + 2 * (m + 1) ≤ k + 2 → spec_l08Good.l1 (k + 2) ((m + 1 : Nat) : Int) c a s A B C = if (addR A B C ⟨r1, r2, (rd_T91 B r3).f0, r4⟩).2.2.2 = 0 then spec_l08Good.l1 k (m : Int) c a4 s4 (addR A B C ⟨r1, r2, (rd_T91 B r3).f0, r4⟩).1 (addR A B C ⟨r1, r2, (rd_T91 B r3).f0, r4⟩).2.1 (addR A B C ⟨r1, r2, (rd_T91 B r3).f0, r4⟩).2.2.1 else spec_l08Good.l1 k (m : Int) c a4 s4 A B C := by
    intro k hk; simp only [spec_l08Good.l1]; rw [if_pos (by omega)]; simp only [spec_l08Good.j2]; rw [if_pos (by rw [decide_eq_true_iff]; exact hb), e1, Option.bind_some]; dsimp only; rw [if_pos p1, if_pos (by omega), e2, Option.bind_some]; dsimp only; rw [e3, Option.bind_some]; dsimp only; rw [if_pos p3, if_pos (by omega), e4, Option.bind_some]; dsimp only; rw [ha k (by omega), Option.bind_some, hw]
   by_cases g : isShow A B C = true ∧ ¬ (C.length : Int) = 20 ∧ isShow A B (C ++ [⟨r1, r2, (rd_T91 B r3).f0, r4⟩]) = true
   ·have hR : addR A B C ⟨r1, r2, (rd_T91 B r3).f0, r4⟩ = (A, B, C ++ [⟨r1, r2, (rd_T91 B r3).f0, r4⟩], 0) := by
     unfold addR; rw [if_pos g.1, if_neg g.2.1, if_pos g.2.2]
    obtain ⟨C', a', s', e, hs, hl⟩ := ih (C ++ [⟨r1, r2, (rd_T91 B r3).f0, r4⟩]) Zdp h4; refine ⟨C', a', s', fun k hk => ?_, hs, hl⟩; obtain ⟨k, rfl⟩ : ∃ m, k = m + 2 := ⟨k - 2, by omega⟩; rw [run k hk, hR, if_pos rfl]; exact e k (by omega)
   ·have hR : (addR A B C ⟨r1, r2, (rd_T91 B r3).f0, r4⟩).2.2.2 ≠ 0 := by
     unfold addR
     by_cases g1 : isShow A B C = true
     ·rw [if_pos g1]
      by_cases g2 : (C.length : Int) = 20
      ·rw [if_pos g2]; decide
      ·rw [if_neg g2, if_neg (fun g3 => g ⟨g1, g2, g3⟩)]; decide
     ·rw [if_neg g1]; decide
    obtain ⟨C', a', s', e, hs, hl⟩ := ih C (by omega) h4; refine ⟨C', a', s', fun k hk => ?_, hs, hl⟩; obtain ⟨k, rfl⟩ : ∃ m, k = m + 2 := ⟨k - 2, by omega⟩; rw [run k hk, if_neg hR]; exact e k (by omega)
  ·refine ⟨C, a, s, fun k hk => ?_, h, by omega⟩
   obtain ⟨k, rfl⟩ : ∃ m, k = m + 2 := ⟨k - 2, by omega⟩; simp only [spec_l08Good.l1]; rw [if_pos (by omega)]; simp only [spec_l08Good.j2]; rw [if_neg (by rw [decide_eq_true_iff]; exact hb)]
theorem good_l0 {c : List Int} (hc : Code c) {A : List S87} (hA : GoodBars A) (hA1 : 1 ≤ A.length) (hA6 : A.length ≤ 6) {nm : List ByteArray} (hn : ∀ x ∈ nm, x.size ≤ 100) (hn6 : nm.length ≤ 6) :
  ∀ d i (B : List S91), nm.length - i = d → i ≤ nm.length → B.length + d ≤ 20 → SmallArts B → ∀ {a s : Int}, St c a s → ∃ B' C' a' s', (∀ k, 36893488147419104000 + d ≤ k → spec_l08Good.l0 k nm (i : Int) c a s A B [] = some (A, B', C', a', s')) ∧ St c a' s' ∧ B'.length ≤ 20 ∧ SmallArts B' ∧ C'.length ≤ 20 := by
 intro d
 induction d with
 | zero =>
  intro i B hd hi hB hS a s h; obtain ⟨r, a1, s1, e1, h1, p1, q1⟩ := next_ok hc h 9 (by decide); obtain ⟨C', a', s', e, hs, hl⟩ := good_l1 hc hA hA1 hA6 (B := B) (by omega) hS r.toNat [] (by simp only [List.length_nil]; omega) h1; refine ⟨B, C', a', s', fun k hk => ?_, hs, by omega, hS, hl⟩; obtain ⟨k, rfl⟩ : ∃ m, k = m + 1 := ⟨k - 1, by omega⟩; simp only [spec_l08Good.l0]; rw [if_neg (by omega), e1, Option.bind_some]; dsimp only; have := e k (by omega); rw [show ((r.toNat : Nat) : Int) = r by omega] at this; exact this
 | succ d ih =>
  intro i B hd hi hB hS a s h; obtain ⟨r, a1, s1, e1, h1, p1, q1⟩ := next_ok hc h 3 (by decide)
  have hw : wrap64 ((i : Int) + 1) = ((i + 1 : Nat) : Int) := by rw [w64 (by omega)]; omega
  by_cases g : r > 0
  ·obtain ⟨q2, q3, q4, q5, q6, q7, q8, q9, a2, s2, e2, h2⟩ := good_art hc h1 (rdOf ByteArray.empty nm (i : Int))
   have hz : (rdOf ByteArray.empty nm (i : Int)).size ≤ 100 := hn _ (by unfold rdOf; exact mem_rd (by omega) (by omega))
   obtain ⟨B', C', a', s', e, hs, hb, hS', hl⟩ := ih (i + 1) (B ++ [⟨rdOf ByteArray.empty nm (i : Int), q2, q3, Int.tmod q4 3000, mn q5 (Int.tmod q4 3000), q6, q7, q8, q9⟩]) (by omega) (by omega) Zdp (fun x hx => by
    rcases List.mem_append.mp hx with y | y
    ·exact hS x y
    ·rw [List.mem_singleton] at y; subst y; exact hz) h2
   refine ⟨B', C', a', s', fun k hk => ?_, hs, hb, hS', hl⟩; obtain ⟨k, rfl⟩ : ∃ m, k = m + 1 := ⟨k - 1, by omega⟩; simp only [spec_l08Good.l0]; rw [if_pos (by omega), e1, Option.bind_some]; dsimp only; rw [if_pos g, if_pos (by omega), e2, Option.bind_some]; dsimp only; rw [if_pos (by omega), hw]; exact e k (by omega)
  ·obtain ⟨B', C', a', s', e, hs, hb, hS', hl⟩ := ih (i + 1) B (by omega) (by omega) (by omega) hS h1
   refine ⟨B', C', a', s', fun k hk => ?_, hs, hb, hS', hl⟩; obtain ⟨k, rfl⟩ : ∃ m, k = m + 1 := ⟨k - 1, by omega⟩; simp only [spec_l08Good.l0]; rw [if_pos (by omega), e1, Option.bind_some]; dsimp only; rw [if_neg g, hw]; exact e k (by omega)
theorem good_show {c : List Int} (hc : Code c) {a s : Int} (h : St c a s) : ∃ A B C a' s', (∀ k, 36893488147419104010 ≤ k → spec_l08Good.f k c a s = some (A, B, C, a', s')) ∧ St c a' s' ∧ 1 ≤ A.length ∧ A.length ≤ 6 ∧ B.length ≤ 20 ∧ SmallArts B ∧ C.length ≤ 20 := by
 obtain ⟨A, a1, s1, e1, h1, hA1, hA6, hA⟩ := score_good hc h; obtain ⟨nm, en, hn, hn6⟩ : ∃ nm, spec_l03Names.f = some nm ∧ (∀ x ∈ nm, x.size ≤ 100) ∧ nm.length ≤ 6 := ⟨_, rfl, by decide, by decide⟩; obtain ⟨B, C, a', s', e, hs, hb, hS, hl⟩ := good_l0 hc hA hA1 hA6 hn hn6 nm.length 0 [] (by omega) (by omega) (by simp only [List.length_nil]; omega) (fun x hx => by simp at hx) h1; refine ⟨A, B, C, a', s', fun k hk => ?_, hs, hA1, hA6, hb, hS, hl⟩
 unfold spec_l08Good.f
 rw [e1 k (by omega), Option.bind_some]; dsimp only; rw [en, Option.bind_some]; exact e k (by omega)
theorem draw_art {c : List Int} (hc : Code c) {a s : Int} (h : St c a s) (nm : ByteArray) (hn : nm.size ≤ 100) (hW : ∀ {a s : Int}, St c a s → ∃ w a' s', spec_l01DrawWord.f c a s = some (w, a', s') ∧ St c a' s' ∧ w.size ≤ 100) : ∃ q1 q2 q3 q4 q5 q6 q7 q8 q9 a' s', spec_l03Draw.f c a s nm = some (q1, q2, q3, q4, q5, q6, q7, q8, q9, a', s') ∧ St c a' s' ∧ q1.size ≤ 100 := by
 obtain ⟨q2, q3, q4, q5, q6, q7, q8, q9, a1, s1, e1, h1⟩ := good_art hc h nm; obtain ⟨r, a2, s2, e2, h2, _⟩ := next_ok hc h1 60 (by decide)
 unfold spec_l03Draw.f
 rw [e1, Option.bind_some]; dsimp only; rw [e2, Option.bind_some]; dsimp only
 by_cases g0 : r = 0
 ·obtain ⟨p, a3, s3, e3, h3, _⟩ := pick_ok hc h2 [19, 20, 300, 301] (by simp) (by simp)
  rw [if_pos g0, e3, Option.bind_some]; exact ⟨_, _, _, _, _, _, _, _, _, _, _, rfl, h3, hn⟩
 rw [if_neg g0]
 by_cases g1 : r = 1
 ·obtain ⟨p, a3, s3, e3, h3, _⟩ := pick_ok hc h2 [q4, wrap64 (q4 + 1), (-1)] (by simp) (by simp)
  rw [if_pos g1, e3, Option.bind_some]; exact ⟨_, _, _, _, _, _, _, _, _, _, _, rfl, h3, hn⟩
 rw [if_neg g1]
 by_cases g2 : r = 2
 ·obtain ⟨p, a3, s3, e3, h3, _⟩ := pick_ok hc h2 [0, 50, 51] (by simp) (by simp)
  rw [if_pos g2, e3, Option.bind_some]; exact ⟨_, _, _, _, _, _, _, _, _, _, _, rfl, h3, hn⟩
 rw [if_neg g2]
 by_cases g3 : r = 3
 ·obtain ⟨w, a3, s3, e3, h3, hw⟩ := hW h2
  rw [if_pos g3, e3, Option.bind_some]; exact ⟨_, _, _, _, _, _, _, _, _, _, _, rfl, h3, hw⟩
 rw [if_neg g3]
 by_cases g4 : r = 4
 ·obtain ⟨p, a3, s3, e3, h3, _⟩ := pick_ok hc h2 [0, 100000, 100001] (by simp) (by simp)
  rw [if_pos g4, e3, Option.bind_some]; exact ⟨_, _, _, _, _, _, _, _, _, _, _, rfl, h3, hn⟩
 rw [if_neg g4]; exact ⟨_, _, _, _, _, _, _, _, _, _, _, rfl, h2, hn⟩
theorem word_key {c : List Int} (hc : Code c) {a s : Int} (h : St c a s) (n : Int) (hn : n ≤ 100) (L : List ByteArray) (hL : ∀ x ∈ L, x.size ≤ 100) (hl : (L.length : Int) = n) (h1 : 1 ≤ n) :
  ∃ w a' s', ((some L).bind fun y => (spec_l01Next.f c a s n).bind fun bt => (if 0 ≤ bt.1 then (if bt.1 < (y.length : Int) then (some (rdOf ByteArray.empty y bt.1, bt.2.1, bt.2.2)) else (none)) else (none))) = some (w, a', s') ∧ St c a' s' ∧ w.size ≤ 100 := by
 obtain ⟨r, a1, s1, e1, h2, p1, q1⟩ := next_ok hc h n (by omega); rw [Option.bind_some, e1, Option.bind_some]; dsimp only; rw [if_pos p1, if_pos (by omega)]; exact ⟨_, _, _, rfl, h2, hL _ (by unfold rdOf; exact mem_rd p1 (by omega))⟩
theorem word_draw {c : List Int} (hc : Code c) {a s : Int} (h : St c a s) : ∃ w a' s', spec_l01DrawWord.f c a s = some (w, a', s') ∧ St c a' s' ∧ w.size ≤ 100 := by
 obtain ⟨r, a1, s1, e1, h1, _⟩ := next_ok hc h 24 (by decide)
 unfold spec_l01DrawWord.f
 rw [e1, Option.bind_some]; dsimp only
 by_cases g : r = 0
 ·rw [if_pos g]
  exact word_key hc h1 6 (by decide) _ (by decide) rfl (by decide)
 ·rw [if_neg g]
  obtain ⟨w, a2, s2, e2, h2, hw⟩ : ∃ w a' s', spec_l01Good.f c a1 s1 = some (w, a', s') ∧ St c a' s' ∧ w.size ≤ 100 := by
   unfold spec_l01Good.f
   exact word_key hc h1 12 (by decide) _ (by decide) rfl (by decide)
  rw [e2, Option.bind_some]; exact ⟨w, a2, s2, rfl, h2, hw⟩
theorem draw_loop {c : List Int} (hc : Code c) (A : List S87) (B : List S91) (q : S80) : ∀ d (C : List S80), 30 - C.length = d → C.length ≤ 30 → ∀ {a s : Int}, St c a s → ∃ C' a' s', (∀ k, d + 2 ≤ k → spec_l08Draw.l0 k c a s A B C q.f0 q.f1 q.f2 q.f3 = some (A, B, C', a', s')) ∧ St c a' s' ∧ C'.length ≤ 30 := by
 intro d
 induction d with
 | zero =>
  intro C hd hC a s h; obtain ⟨r, a1, s1, e1, h1, p1, q1⟩ := next_ok hc h 2 (by decide); refine ⟨C, a1, s1, fun k hk => ?_, h1, hC⟩; obtain ⟨k, rfl⟩ : ∃ m, k = m + 1 := ⟨k - 1, by omega⟩; simp only [spec_l08Draw.l0]; rw [e1, Option.bind_some]; dsimp only; rw [w64 (by omega), if_neg (by omega)]
 | succ d ih =>
  intro C hd hC a s h; obtain ⟨r, a1, s1, e1, h1, p1, q1⟩ := next_ok hc h 2 (by decide)
  by_cases g : (C.length : Int) < 20 + r
  ·obtain ⟨C', a', s', e, hs, hl⟩ := ih (C ++ [⟨q.f0, q.f1, q.f2, q.f3⟩]) Zdp Zdp h1
   refine ⟨C', a', s', fun k hk => ?_, hs, hl⟩; obtain ⟨k, rfl⟩ : ∃ m, k = m + 1 := ⟨k - 1, by omega⟩; simp only [spec_l08Draw.l0]; rw [e1, Option.bind_some]; dsimp only; rw [w64 (by omega), if_pos g, if_pos (by omega)]; exact e k (by omega)
  ·refine ⟨C, a1, s1, fun k hk => ?_, h1, hC⟩
   obtain ⟨k, rfl⟩ : ∃ m, k = m + 1 := ⟨k - 1, by omega⟩; simp only [spec_l08Draw.l0]; rw [e1, Option.bind_some]; dsimp only; rw [w64 (by omega), if_neg g]
theorem small_snoc {B : List S91} (hB : SmallArts B) {x : S91} (hx : x.f0.size ≤ 100) : SmallArts (B ++ [x]) := fun y hy => by
 rcases List.mem_append.mp hy with z | z
 ·exact hB y z
 ·rw [List.mem_singleton] at z; subst z; exact hx
theorem list_l1 {c : List Int} (hc : Code c) : ∀ d (i : Nat) (B : List S91), 14 - i = d → i ≤ 14 → B.length + d ≤ 60 → SmallArts B → ∀ {a s : Int}, St c a s → ∃ B' a' s', (∀ k, d + 2 ≤ k → spec_l03List.l1 k B (i : Int) c a s = some (B', a', s')) ∧ St c a' s' ∧ B'.length ≤ 60 ∧ SmallArts B' := by
 intro d
 induction d with
 | zero =>
  intro i B hd hi hB hS a s h; obtain ⟨r, a1, s1, e1, h1, p1, q1⟩ := next_ok hc h 2 (by decide); refine ⟨B, a1, s1, fun k hk => ?_, h1, by omega, hS⟩; obtain ⟨k, rfl⟩ : ∃ m, k = m + 1 := ⟨k - 1, by omega⟩; simp only [spec_l03List.l1]; rw [e1, Option.bind_some]; dsimp only
  by_cases g : (B.length : Int) < wrap64 (12 + r)
  ·rw [if_pos g, if_neg (by omega)]
  ·rw [if_neg g]
 | succ d ih =>
  intro i B hd hi hB hS a s h; obtain ⟨r, a1, s1, e1, h1, p1, q1⟩ := next_ok hc h 2 (by decide)
  by_cases g : (B.length : Int) < wrap64 (12 + r)
  ·have hw : wrap64 ((i : Int) + 1) = ((i + 1 : Nat) : Int) := by rw [w64 (by omega)]; omega
   have hz : ((⟨#[97, 98, 99, 100, 101, 102, 103, 104, 105, 106, 107, 108, 109, 110]⟩ : ByteArray).extract (i : Int).toNat ((i + 1 : Nat) : Int).toNat).size ≤ 14 := by
    rw [ByteArray.size_extract]; have : (⟨#[97, 98, 99, 100, 101, 102, 103, 104, 105, 106, 107, 108, 109, 110]⟩ : ByteArray).size = 14 := rfl
    omega
   obtain ⟨q2, q3, q4, q5, q6, q7, q8, q9, a2, s2, e2, h2⟩ := good_art hc h1 ((⟨#[120]⟩ : ByteArray) ++ ((⟨#[97, 98, 99, 100, 101, 102, 103, 104, 105, 106, 107, 108, 109, 110]⟩ : ByteArray).extract (i : Int).toNat ((i + 1 : Nat) : Int).toNat))
   have hx : ((⟨#[120]⟩ : ByteArray) ++ ((⟨#[97, 98, 99, 100, 101, 102, 103, 104, 105, 106, 107, 108, 109, 110]⟩ : ByteArray).extract (i : Int).toNat ((i + 1 : Nat) : Int).toNat)).size ≤ 100 := by
    rw [ByteArray.size_append]; have : (⟨#[120]⟩ : ByteArray).size = 1 := rfl
    omega
   obtain ⟨B', a', s', e, hs, hl, hS'⟩ := ih (i + 1) (B ++ [⟨_, q2, q3, q4, q5, q6, q7, q8, q9⟩]) (by omega) (by omega) Zdp (small_snoc hS hx) h2; refine ⟨B', a', s', fun k hk => ?_, hs, hl, hS'⟩; obtain ⟨k, rfl⟩ : ∃ m, k = m + 1 := ⟨k - 1, by omega⟩; simp only [spec_l03List.l1]; rw [e1, Option.bind_some]; dsimp only; rw [if_pos g, hw, if_pos (by omega), if_pos (by omega), if_pos (by omega), if_pos (by omega), if_pos (by omega), e2, Option.bind_some]; dsimp only; rw [if_pos (by omega)]; exact e k (by omega)
  ·refine ⟨B, a1, s1, fun k hk => ?_, h1, by omega, hS⟩
   obtain ⟨k, rfl⟩ : ∃ m, k = m + 1 := ⟨k - 1, by omega⟩; simp only [spec_l03List.l1]; rw [e1, Option.bind_some]; dsimp only; rw [if_neg g]
theorem list_l0 {c : List Int} (hc : Code c) {nm : List ByteArray} (hn : ∀ x ∈ nm, x.size ≤ 100) (hn6 : nm.length ≤ 6) : ∀ d (i : Nat) (B : List S91), nm.length - i = d → i ≤ nm.length → B.length + d ≤ 40 → SmallArts B → ∀ {a s : Int}, St c a s → ∃ B' a' s', (∀ k, d + 30 ≤ k → spec_l03List.l0 k B nm (i : Int) c a s = some (B', a', s')) ∧ St c a' s' ∧ B'.length ≤ 60 ∧ SmallArts B' := by
 intro d
 induction d with
 | zero =>
  intro i B hd hi hB hS a s h; obtain ⟨r, a1, s1, e1, h1, p1, q1⟩ := next_ok hc h 30 (by decide)
  by_cases g0 : r = 0
  ·obtain ⟨q2, q3, q4, q5, q6, q7, q8, q9, a2, s2, e2, h2⟩ := good_art hc h1 (⟨#[97, 115, 116, 101, 114]⟩ : ByteArray)
   refine ⟨B ++ [⟨_, q2, q3, q4, q5, q6, q7, q8, q9⟩], a2, s2, fun k hk => ?_, h2, Zdp, small_snoc hS (show (⟨#[97, 115, 116, 101, 114]⟩ : ByteArray).size ≤ 100 by decide)⟩; obtain ⟨k, rfl⟩ : ∃ m, k = m + 1 := ⟨k - 1, by omega⟩; simp only [spec_l03List.l0]; rw [if_neg (by omega), e1, Option.bind_some]; dsimp only; rw [if_pos g0, e2, Option.bind_some]; dsimp only; rw [if_pos (by omega)]
  ·by_cases g1 : r = 1
   ·obtain ⟨B', a', s', e, hs, hl, hS'⟩ := list_l1 hc 14 0 B (by omega) (by omega) (by omega) hS h1
    refine ⟨B', a', s', fun k hk => ?_, hs, hl, hS'⟩; obtain ⟨k, rfl⟩ : ∃ m, k = m + 1 := ⟨k - 1, by omega⟩; simp only [spec_l03List.l0]; rw [if_neg (by omega), e1, Option.bind_some]; dsimp only; rw [if_neg g0, if_pos g1]; exact e k (by omega)
   ·refine ⟨B, a1, s1, fun k hk => ?_, h1, by omega, hS⟩
    obtain ⟨k, rfl⟩ : ∃ m, k = m + 1 := ⟨k - 1, by omega⟩; simp only [spec_l03List.l0]; rw [if_neg (by omega), e1, Option.bind_some]; dsimp only; rw [if_neg g0, if_neg g1]
 | succ d ih =>
  intro i B hd hi hB hS a s h; obtain ⟨r, a1, s1, e1, h1, p1, q1⟩ := next_ok hc h 3 (by decide)
  have hw : wrap64 ((i : Int) + 1) = ((i + 1 : Nat) : Int) := by rw [w64 (by omega)]; omega
  by_cases g : r > 0
  ·have hz : (rdOf ByteArray.empty nm (i : Int)).size ≤ 100 := hn _ (by unfold rdOf; exact mem_rd (by omega) (by omega))
   obtain ⟨q1_, q2, q3, q4, q5, q6, q7, q8, q9, a2, s2, e2, h2, hx⟩ := draw_art hc h1 (rdOf ByteArray.empty nm (i : Int)) hz (fun h => word_draw hc h); obtain ⟨B', a', s', e, hs, hb, hS'⟩ := ih (i + 1) (B ++ [⟨q1_, q2, q3, q4, q5, q6, q7, q8, q9⟩]) (by omega) (by omega) Zdp (small_snoc hS hx) h2; refine ⟨B', a', s', fun k hk => ?_, hs, hb, hS'⟩; obtain ⟨k, rfl⟩ : ∃ m, k = m + 1 := ⟨k - 1, by omega⟩; simp only [spec_l03List.l0]; rw [if_pos (by omega), e1, Option.bind_some]; dsimp only; rw [if_pos g, if_pos (by omega), e2, Option.bind_some]; dsimp only; rw [if_pos (by omega), hw]; exact e k (by omega)
  ·obtain ⟨B', a', s', e, hs, hb, hS'⟩ := ih (i + 1) B (by omega) (by omega) (by omega) hS h1
   refine ⟨B', a', s', fun k hk => ?_, hs, hb, hS'⟩; obtain ⟨k, rfl⟩ : ∃ m, k = m + 1 := ⟨k - 1, by omega⟩; simp only [spec_l03List.l0]; rw [if_pos (by omega), e1, Option.bind_some]; dsimp only; rw [if_neg g, hw]; exact e k (by omega)
theorem list_draw {c : List Int} (hc : Code c) {a s : Int} (h : St c a s) : ∃ B a' s', (∀ k, 40 ≤ k → spec_l03List.f k c a s = some (B, a', s')) ∧ St c a' s' ∧ B.length ≤ 60 ∧ SmallArts B := by
 obtain ⟨nm, en, hn, hn6⟩ : ∃ nm, spec_l03Names.f = some nm ∧ (∀ x ∈ nm, x.size ≤ 100) ∧ nm.length ≤ 6 := ⟨_, rfl, by decide, by decide⟩; obtain ⟨B, a', s', e, hs, hb, hS⟩ := list_l0 hc hn hn6 nm.length 0 [] (by omega) (by omega) (by simp only [List.length_nil]; omega) (fun x hx => by simp at hx) h; refine ⟨B, a', s', fun k hk => ?_, hs, hb, hS⟩
 unfold spec_l03List.f
 rw [en, Option.bind_some]; exact e k (by omega)
theorem show_draw {c : List Int} (hc : Code c) {a s : Int} (h : St c a s) : ∃ A B C a' s', (∀ k, 36893488147419104010 ≤ k → spec_l08Draw.f k c a s = some (A, B, C, a', s')) ∧ St c a' s' ∧ A.length ≤ 60 ∧ B.length ≤ 60 ∧ SmallArts B ∧ C.length ≤ 60 := by
 obtain ⟨A, B, C, a1, s1, e1, h1, hA1, hA6, hB, hS, hC⟩ := good_show hc h; obtain ⟨r, a2, s2, e2, h2, _⟩ := next_ok hc h1 40 (by decide)
 by_cases g0 : r = 0
 ·obtain ⟨A', a3, s3, e3, h3, hl⟩ := score_draw hc h2
  refine ⟨A', B, C, a3, s3, fun k hk => ?_, h3, by omega, by omega, hS, by omega⟩
  unfold spec_l08Draw.f
  rw [e1 k hk, Option.bind_some]; dsimp only; rw [e2, Option.bind_some]; dsimp only; rw [if_pos g0, e3 k (by omega), Option.bind_some]
 by_cases g1 : r = 1
 ·obtain ⟨B', a3, s3, e3, h3, hl, hS'⟩ := list_draw hc h2
  refine ⟨A, B', C, a3, s3, fun k hk => ?_, h3, by omega, by omega, hS', by omega⟩
  unfold spec_l08Draw.f
  rw [e1 k hk, Option.bind_some]; dsimp only; rw [e2, Option.bind_some]; dsimp only; rw [if_neg g0, if_pos g1, e3 k (by omega), Option.bind_some]
 by_cases g2 : r = 2
 ·obtain ⟨r3, a3, s3, e3, h3, _⟩ := next_ok hc h2 8 (by decide)
  obtain ⟨r4, a4, s4, e4, h4, _⟩ := next_ok hc h3 5 (by decide); obtain ⟨r5, a5, s5, e5, h5, _⟩ := next_ok hc h4 14 (by decide); refine ⟨A, B, C ++ [⟨wrap64 (r3 - 1), r4, (⟨#[112, 101, 111, 110, 121]⟩ : ByteArray), wrap64 (r5 - 1)⟩], a5, s5, fun k hk => ?_, h5, by omega, by omega, hS, Zdp⟩
  unfold spec_l08Draw.f
  rw [e1 k hk, Option.bind_some]; dsimp only; rw [e2, Option.bind_some]; dsimp only; rw [if_neg g0, if_neg g1, if_pos g2, e3, Option.bind_some]; dsimp only; rw [e4, Option.bind_some]; dsimp only; rw [e5, Option.bind_some]; dsimp only; rw [if_pos (by omega)]
 by_cases g3 : r = 3
 ·by_cases g4 : (C.length : Int) > 0
  ·obtain ⟨C', a3, s3, e3, h3, hl⟩ := draw_loop hc A B (rd_T80 C 0) (30 - C.length) C rfl (by omega) h2
   refine ⟨A, B, C', a3, s3, fun k hk => ?_, h3, by omega, by omega, hS, by omega⟩
   unfold spec_l08Draw.f
   rw [e1 k hk, Option.bind_some]; dsimp only; rw [e2, Option.bind_some]; dsimp only; rw [if_neg g0, if_neg g1, if_neg g2, if_pos g3, if_pos g4, if_pos (by omega)]; exact e3 k (by omega)
  ·refine ⟨A, B, C, a2, s2, fun k hk => ?_, h2, by omega, by omega, hS, by omega⟩
   unfold spec_l08Draw.f
   rw [e1 k hk, Option.bind_some]; dsimp only; rw [e2, Option.bind_some]; dsimp only; rw [if_neg g0, if_neg g1, if_neg g2, if_pos g3, if_neg g4]
 ·refine ⟨A, B, C, a2, s2, fun k hk => ?_, h2, by omega, by omega, hS, by omega⟩
  unfold spec_l08Draw.f
  rw [e1 k hk, Option.bind_some]; dsimp only; rw [e2, Option.bind_some]; dsimp only; rw [if_neg g0, if_neg g1, if_neg g2, if_neg g3]
theorem like_ints_s (X : List Int) (hX : X.length ≤ 4000000) (k : Nat) (hk : X.length < k) : laws_likeInts.f k X X = some true := by
 have loop : ∀ d i k, X.length - i = d → i ≤ X.length → d < k → laws_likeInts.l0 k X X (i : Int) = some true := by
  intro d
  induction d with
  | zero =>
   intro i k hd hi hk; obtain ⟨k, rfl⟩ : ∃ m, k = m + 1 := ⟨k - 1, by omega⟩; simp only [laws_likeInts.l0]; rw [if_neg (by omega)]
  | succ d ih =>
   intro i k hd hi hk; obtain ⟨k, rfl⟩ : ∃ m, k = m + 1 := ⟨k - 1, by omega⟩; simp only [laws_likeInts.l0]; rw [if_pos (by omega), if_pos (by omega), if_pos (by omega), if_pos trivial, w64 (by omega)]; exact ih (i + 1) k (by omega) (by omega) (by omega)
 unfold laws_likeInts.f
 rw [if_pos rfl]; exact loop X.length 0 k (by omega) (by omega) hk
theorem artFor_ok {A : List S87} {B : List S91} {C : List S80} (h : isShow A B C = true) {i : Nat} (hi : i < C.length) (k : Nat) (hk : 100 ≤ k) : impl_articleFor.f k A B C (cu_at C i).f0 (cu_at C i).f1 (cu_at C i).f2 (cu_at C i).f3 = some ((arOf B (cu_at C i)).f0, (arOf B (cu_at C i)).f1, (arOf B (cu_at C i)).f2, (arOf B (cu_at C i)).f3, (arOf B (cu_at C i)).f4, (arOf B (cu_at C i)).f5, (arOf B (cu_at C i)).f6, (arOf B (cu_at C i)).f7, (arOf B (cu_at C i)).f8) := by
 obtain ⟨h1, h2, h3, _⟩ := cu_ok h hi; have hB := (areArts_true (isShow_true h).2.1).1
 unfold impl_articleFor.f
 rw [impl_find B (by omega) _ k (by omega)]; simp only [Option.bind_some]; rw [if_pos h2, if_pos h3, rd_arOf B _ h2]
theorem shot_range {a : S91} (h : art a = true) {j : Int} (h0 : 0 ≤ j) (h1 : j < a.f5) : 0 ≤ j * a.f6 ∧ j * a.f6 ≤ 490000 := by
 have ha := art_true h; have h2 : 0 ≤ j * a.f6 := Int.mul_nonneg h0 (by omega); have h3 : j * a.f6 ≤ 49 * a.f6 := Int.mul_le_mul_of_nonneg_right (by omega) (by omega)
 omega
def wlo (A : List S87) (B : List S91) (c : S80) (j : Nat) : Int := ftime A B c + (arOf B c).f3 + (j : Int) * (arOf B c).f6 - (arOf B c).f4
def whi (A : List S87) (B : List S91) (c : S80) (j : Nat) : Int := ftime A B c + (arOf B c).f3 + (j : Int) * (arOf B c).f6 + (arOf B c).f4
def wn (B : List S91) (c : S80) : Nat := (arOf B c).f5.toNat
def cueW2 (A : List S87) (B : List S91) (c : S80) : List (List Int) := (List.range (wn B c)).map (fun j => [wlo A B c j, whi A B c j])
def cueW3 (A : List S87) (B : List S91) (c : S80) (x : Int) : List (List Int) := (List.range (wn B c)).map (fun j => [wlo A B c j, whi A B c j, x])
theorem cueW2_len (A : List S87) (B : List S91) (c : S80) : (cueW2 A B c).length = wn B c := by unfold cueW2; rw [List.length_map, List.length_range]
theorem cueW3_len (A : List S87) (B : List S91) (c : S80) (x : Int) : (cueW3 A B c x).length = wn B c := by unfold cueW3; rw [List.length_map, List.length_range]
theorem rdL_map (f : Nat → List Int) (n j : Nat) (h : j < n) : rd_L5 ((List.range n).map f) (j : Int) = f j := by
 unfold rd_L5
 rw [Int.toNat_natCast, List.getD_eq_getElem?_getD, List.getElem?_map, List.getElem?_range h]; rfl
theorem rdL_cue2 (A : List S87) (B : List S91) (c : S80) {j : Nat} (h : j < wn B c) : rd_L5 (cueW2 A B c) (j : Int) = [wlo A B c j, whi A B c j] := rdL_map _ _ _ h
theorem rd_0 (a : Int) (l : List Int) : rd (a :: l) 0 = a := rfl
theorem rd_1 (a b : Int) (l : List Int) : rd (a :: b :: l) 1 = b := rfl
theorem wn_range {A : List S87} {B : List S91} {C : List S80} (h : isShow A B C = true) {i : Nat} (hi : i < C.length) : 1 ≤ wn B (cu_at C i) ∧ wn B (cu_at C i) ≤ 50 ∧ ((wn B (cu_at C i) : Nat) : Int) = (arOf B (cu_at C i)).f5 := by
 obtain ⟨h1, h2, h3, h4, h5, h6⟩ := cu_ok h hi; have ha := art_true h6
 unfold wn
 omega
theorem w_range {A : List S87} {B : List S91} {C : List S80} (h : isShow A B C = true) {i : Nat} (hi : i < C.length) {j : Nat} (hj : j < wn B (cu_at C i)) : 0 ≤ wlo A B (cu_at C i) j ∧ wlo A B (cu_at C i) j ≤ whi A B (cu_at C i) j ∧ whi A B (cu_at C i) j ≤ 3000000 ∧ 0 ≤ (j : Int) * (arOf B (cu_at C i)).f6 ∧ (j : Int) * (arOf B (cu_at C i)).f6 ≤ 490000 := by
 obtain ⟨h1, h2, h3, h4, h5, h6⟩ := cu_ok h hi; have ha := art_true h6; have hn := wn_range h hi; have hs := shot_range h6 (j := (j : Int)) (by omega) (by omega)
 unfold wlo whi
 omega
theorem spec_cue {A : List S87} {B : List S91} {C : List S80} (h : isShow A B C = true) {i : Nat} (hi : i < C.length) (k : Nat) (hk : 300 ≤ k) : spec_l09Cue.f k A B C (i : Int) = some (cueW3 A B (cu_at C i) (i : Int)) := by
 obtain ⟨h1, h2, h3, h4, h5, h6⟩ := cu_ok h hi; have hn := wn_range h hi; have ha := art_true h6; have hB := (areArts_true (isShow_true h).2.1).1; have hC := (isShow_true h).2.2.1
 unfold spec_l09Cue.f
 rw [if_pos (by omega), if_pos (by omega), rd_cue, spec_find B (by omega) _ k (by omega)]; simp only [Option.bind_some]; rw [if_pos h2, if_pos h3, rd_arOf B _ h2]
 have st : ∀ d k j, wn B (cu_at C i) - j = d → j ≤ wn B (cu_at C i) → d + 110 ≤ k → spec_l09Cue.l0 k (i : Int) ((List.range j).map (fun j => [wlo A B (cu_at C i) j, whi A B (cu_at C i) j, (i : Int)])) (j : Int) A B C (cu_at C i).f0 (cu_at C i).f1 (cu_at C i).f2 (cu_at C i).f3 (arOf B (cu_at C i)).f0 (arOf B (cu_at C i)).f1 (arOf B (cu_at C i)).f2 (arOf B (cu_at C i)).f3 (arOf B (cu_at C i)).f4 (arOf B (cu_at C i)).f5 (arOf B (cu_at C i)).f6 (arOf B (cu_at C i)).f7 (arOf B (cu_at C i)).f8 = some (cueW3 A B (cu_at C i) (i : Int)) := by
  intro d
  induction d with
  | zero =>
   intro k j hd hj hk; obtain ⟨k, rfl⟩ : ∃ m, k = m + 1 := ⟨k - 1, by omega⟩; simp only [spec_l09Cue.l0]; rw [if_neg (by omega)]
   have e : j = wn B (cu_at C i) := by omega
   subst e
   rfl
  | succ d ih =>
   intro k j hd hj hk; obtain ⟨k, rfl⟩ : ∃ m, k = m + 1 := ⟨k - 1, by omega⟩; have r := w_range h hi (show j < wn B (cu_at C i) by omega); have nx := ih k (j + 1) (by omega) (by omega) (by omega); rw [List.range_succ, List.map_append, List.map_singleton] at nx; simp only [spec_l09Cue.l0]; rw [if_pos (by omega), (cue_time h hi k (by omega)).1, w64 (n := (j : Int) + 1) (by omega)]; simp only [Option.bind_some, spec_l03Window.f]; have el : wlo A B (cu_at C i) j = ftime A B (cu_at C i) + (arOf B (cu_at C i)).f3 + (j : Int) * (arOf B (cu_at C i)).f6 - (arOf B (cu_at C i)).f4 := rfl; have eh : whi A B (cu_at C i) j = ftime A B (cu_at C i) + (arOf B (cu_at C i)).f3 + (j : Int) * (arOf B (cu_at C i)).f6 + (arOf B (cu_at C i)).f4 := rfl; rw [w64 (n := ftime A B (cu_at C i) + (arOf B (cu_at C i)).f3) (by omega), w64 (n := (j : Int) * (arOf B (cu_at C i)).f6) (by omega), w64 (n := ftime A B (cu_at C i) + (arOf B (cu_at C i)).f3 + (j : Int) * (arOf B (cu_at C i)).f6) (by omega), ← el, ← eh, w64 (n := wlo A B (cu_at C i) j) (by omega), w64 (n := whi A B (cu_at C i) j) (by omega), rd_0, rd_1]; rw [if_pos (by show (0 : Int) < ((2 : Nat) : Int); decide), if_pos (by show (1 : Int) < ((2 : Nat) : Int); decide), if_pos (by rw [List.length_map, List.length_range]; omega)]; exact nx
 exact st (wn B (cu_at C i)) k 0 (by omega) (by omega) (by omega)
theorem impl_cue {A : List S87} {B : List S91} {C : List S80} (h : isShow A B C = true) {i : Nat} (hi : i < C.length) (k : Nat) (hk : 300 ≤ k) : impl_windowsOfCue.f k A B C (cu_at C i).f0 (cu_at C i).f1 (cu_at C i).f2 (cu_at C i).f3 = some (cueW2 A B (cu_at C i)) := by
 obtain ⟨h1, h2, h3, h4, h5, h6⟩ := cu_ok h hi; have hn := wn_range h hi; have ha := art_true h6
 unfold impl_windowsOfCue.f impl_shotWindows.f
 rw [artFor_ok h hi k (by omega)]; simp only [Option.bind_some]; rw [(cue_time h hi k (by omega)).2]; simp only [Option.bind_some]
 have st : ∀ d k j, wn B (cu_at C i) - j = d → j ≤ wn B (cu_at C i) → d + 110 ≤ k → impl_shotWindows.l0 k (ftime A B (cu_at C i)) ((List.range j).map (fun j => [wlo A B (cu_at C i) j, whi A B (cu_at C i) j])) (j : Int) (arOf B (cu_at C i)).f0 (arOf B (cu_at C i)).f1 (arOf B (cu_at C i)).f2 (arOf B (cu_at C i)).f3 (arOf B (cu_at C i)).f4 (arOf B (cu_at C i)).f5 (arOf B (cu_at C i)).f6 (arOf B (cu_at C i)).f7 (arOf B (cu_at C i)).f8 = some (cueW2 A B (cu_at C i)) := by
  intro d
  induction d with
  | zero =>
   intro k j hd hj hk; obtain ⟨k, rfl⟩ : ∃ m, k = m + 1 := ⟨k - 1, by omega⟩; simp only [impl_shotWindows.l0]; rw [if_neg (by omega)]
   have e : j = wn B (cu_at C i) := by omega
   subst e
   rfl
  | succ d ih =>
   intro k j hd hj hk; obtain ⟨k, rfl⟩ : ∃ m, k = m + 1 := ⟨k - 1, by omega⟩; have r := w_range h hi (show j < wn B (cu_at C i) by omega); have nx := ih k (j + 1) (by omega) (by omega) (by omega); rw [List.range_succ, List.map_append, List.map_singleton] at nx; simp only [impl_shotWindows.l0]; have el : wlo A B (cu_at C i) j = ftime A B (cu_at C i) + (arOf B (cu_at C i)).f3 + (j : Int) * (arOf B (cu_at C i)).f6 - (arOf B (cu_at C i)).f4 := rfl; have eh : whi A B (cu_at C i) j = ftime A B (cu_at C i) + (arOf B (cu_at C i)).f3 + (j : Int) * (arOf B (cu_at C i)).f6 + (arOf B (cu_at C i)).f4 := rfl; rw [if_pos (by omega), if_pos (by rw [List.length_map, List.length_range]; omega), w64 (n := (j : Int) + 1) (by omega), w64 (n := ftime A B (cu_at C i) + (arOf B (cu_at C i)).f3) (by omega), w64 (n := (j : Int) * (arOf B (cu_at C i)).f6) (by omega), w64 (n := ftime A B (cu_at C i) + (arOf B (cu_at C i)).f3 + (j : Int) * (arOf B (cu_at C i)).f6) (by omega), ← el, ← eh, w64 (n := wlo A B (cu_at C i) j) (by omega), w64 (n := whi A B (cu_at C i) j) (by omega)]; exact nx
 rw [show impl_shotWindows.l0 k (ftime A B (cu_at C i)) ([] : List (List Int)) 0 (arOf B (cu_at C i)).f0 (arOf B (cu_at C i)).f1 (arOf B (cu_at C i)).f2 (arOf B (cu_at C i)).f3 (arOf B (cu_at C i)).f4 (arOf B (cu_at C i)).f5 (arOf B (cu_at C i)).f6 (arOf B (cu_at C i)).f7 (arOf B (cu_at C i)).f8 = some (cueW2 A B (cu_at C i)) from st (wn B (cu_at C i)) k 0 (by omega) (by omega) (by omega)]
 rfl
theorem rdL_memr {X : List (List Int)} {i : Nat} (h : i < X.length) : rd_L5 X (i : Int) ∈ X := by
 unfold rd_L5
 rw [Int.toNat_natCast, List.getD_eq_getElem?_getD, List.getElem?_eq_getElem h]; exact List.getElem_mem _
theorem like_rows_s (X : List (List Int)) (hX : X.length ≤ 4000000) (hr : ∀ x ∈ X, x.length ≤ 1000) (k : Nat) (hk : X.length + 1100 ≤ k) : laws_likeRows.f k X X = some true := by
 have loop : ∀ d i k, X.length - i = d → i ≤ X.length → d + 1001 < k → laws_likeRows.l0 k X X (i : Int) = some true := by
  intro d
  induction d with
  | zero =>
   intro i k hd hi hk; obtain ⟨k, rfl⟩ : ∃ m, k = m + 1 := ⟨k - 1, by omega⟩; simp only [laws_likeRows.l0]; rw [if_neg (by omega)]
  | succ d ih =>
   intro i k hd hi hk; obtain ⟨k, rfl⟩ : ∃ m, k = m + 1 := ⟨k - 1, by omega⟩; have hl := hr _ (rdL_memr (X := X) (i := i) (by omega)); simp only [laws_likeRows.l0]; rw [if_pos (by omega), if_pos (by omega), if_pos (by omega), like_ints_s _ (by omega) k (by omega), Option.bind_some, if_pos rfl, w64 (by omega)]; exact ih (i + 1) k (by omega) (by omega) (by omega)
 unfold laws_likeRows.f
 rw [if_pos rfl]; exact loop X.length 0 k (by omega) (by omega) (by omega)
theorem row2_eq (x : List Int) (a b : Int) : x = [a, b] ↔ (x.length : Int) = 2 ∧ rd x 0 = a ∧ rd x 1 = b := by
 constructor
 ·rintro rfl; exact ⟨rfl, rfl, rfl⟩
 ·rintro ⟨h1, h2, h3⟩
  match x, h1 with
  | [u, v], _ => rw [← h2, ← h3]; rfl
theorem has_row_s (X : List (List Int)) (hX : X.length ≤ 4000000) (a b : Int) (k : Nat) (hk : X.length < k) : laws_hasRow.f k X a b = some (decide ([a, b] ∈ X)) := by
 have loop : ∀ d i k, X.length - i = d → i ≤ X.length → d < k → laws_hasRow.l0 k X a b (i : Int) = some (decide ([a, b] ∈ X.drop i)) := by
  intro d
  induction d with
  | zero =>
   intro i k hd hi hk; obtain ⟨k, rfl⟩ : ∃ m, k = m + 1 := ⟨k - 1, by omega⟩; simp only [laws_hasRow.l0]; rw [if_neg (by omega), List.drop_eq_nil_of_le (by omega)]
   rfl
  | succ d ih =>
   intro i k hd hi hk; obtain ⟨k, rfl⟩ : ∃ m, k = m + 1 := ⟨k - 1, by omega⟩
   have hlt : i < X.length := by omega
   have e : X.drop i = rd_L5 X (i : Int) :: X.drop (i + 1) := by
    rw [List.drop_eq_getElem_cons hlt]
    unfold rd_L5
    rw [Int.toNat_natCast, List.getD_eq_getElem?_getD, List.getElem?_eq_getElem hlt]
    rfl
   have hw : wrap64 ((i : Int) + 1) = ((i + 1 : Nat) : Int) := by rw [w64 (by omega)]; omega
   have no : ¬ rd_L5 X (i : Int) = [a, b] → laws_hasRow.l0 k X a b (wrap64 ((i : Int) + 1)) = some (decide ([a, b] ∈ rd_L5 X (i : Int) :: X.drop (i + 1))) := by
    intro c; rw [hw]; refine (ih (i + 1) k (by omega) (by omega) (by omega)).trans ?_
    congr 1
    rw [Bool.eq_iff_iff, decide_eq_true_iff, decide_eq_true_iff, List.mem_cons]; exact ⟨fun x => .inr x, fun x => x.elim (fun y => absurd y.symm c) id⟩
   simp only [laws_hasRow.l0]; rw [if_pos (by omega), if_pos (by omega), e]
   by_cases c1 : ((rd_L5 X (i : Int)).length : Int) = 2
   ·rw [if_pos c1, if_pos (by omega)]
    by_cases c2 : rd (rd_L5 X (i : Int)) 0 = a
    ·rw [if_pos c2, if_pos (by omega)]
     by_cases c3 : rd (rd_L5 X (i : Int)) 1 = b
     ·rw [if_pos c3, decide_eq_true (List.mem_cons.2 (.inl ((row2_eq _ _ _).2 ⟨c1, c2, c3⟩).symm))]
     ·rw [if_neg c3]
      exact no (fun h => c3 ((row2_eq _ _ _).1 h).2.2)
    ·rw [if_neg c2]
     exact no (fun h => c2 ((row2_eq _ _ _).1 h).2.1)
   ·rw [if_neg c1]
    exact no (fun h => c1 ((row2_eq _ _ _).1 h).1)
 unfold laws_hasRow.f
 exact loop X.length 0 k (by omega) (by omega) hk
def allW (A : List S87) (B : List S91) (C : List S80) : Nat → List (List Int)
 | 0 => []
 | i + 1 => allW A B C i ++ cueW3 A B (cu_at C i) (i : Int)
theorem allW_len {A : List S87} {B : List S91} {C : List S80} (h : isShow A B C = true) : ∀ i, i ≤ C.length → (allW A B C i).length ≤ 50 * i
 | 0, _ => Nat.le_refl _
 | i + 1, hi => by
  have := allW_len h i (by omega); have := (wn_range h (show i < C.length by omega)).2.1
  unfold allW
  rw [List.length_append, cueW3_len]; omega
theorem allW_mem {A : List S87} {B : List S91} {C : List S80} : ∀ i w, w ∈ allW A B C i ↔ ∃ a j, a < i ∧ j < wn B (cu_at C a) ∧ w = [wlo A B (cu_at C a) j, whi A B (cu_at C a) j, (a : Int)]
 | 0, w => by
  unfold allW
  exact ⟨fun h => absurd h List.not_mem_nil, fun ⟨a, _, h, _⟩ => absurd h (by omega)⟩
 | i + 1, w => by
  unfold allW
  rw [List.mem_append, allW_mem i w]
  unfold cueW3
  rw [List.mem_map]; constructor
  ·rintro (⟨a, j, h1, h2⟩ | ⟨j, h1, h2⟩)
   ·exact ⟨a, j, by omega, h2⟩
   ·exact ⟨i, j, by omega, List.mem_range.1 h1, h2.symm⟩
  ·rintro ⟨a, j, h1, h2, h3⟩
   by_cases c : a = i
   ·subst c
    exact .inr ⟨j, List.mem_range.2 h2, h3.symm⟩
   ·exact .inl ⟨a, j, by omega, h2, h3⟩
theorem spec_all {A : List S87} {B : List S91} {C : List S80} (h : isShow A B C = true) (k : Nat) (hk : 500 ≤ k) : spec_l09All.f k A B C = some (allW A B C C.length) := by
 have hC := (isShow_true h).2.2.1
 have st : ∀ d k i, C.length - i = d → i ≤ C.length → d + 310 ≤ k → spec_l09All.l0 k (allW A B C i) (i : Int) A B C = some (allW A B C C.length) := by
  intro d
  induction d with
  | zero =>
   intro k i hd hi hk; obtain ⟨k, rfl⟩ : ∃ m, k = m + 1 := ⟨k - 1, by omega⟩; simp only [spec_l09All.l0]; rw [if_neg (by omega), show i = C.length by omega]
  | succ d ih =>
   intro k i hd hi hk; obtain ⟨k, rfl⟩ : ∃ m, k = m + 1 := ⟨k - 1, by omega⟩; have hl := allW_len h i hi; have hw := (wn_range h (show i < C.length by omega)).2.1; have nx := ih k (i + 1) (by omega) (by omega) (by omega); simp only [spec_l09All.l0]; rw [if_pos (by omega), spec_cue h (show i < C.length by omega) k (by omega), w64 (n := (i : Int) + 1) (by omega)]; simp only [Option.bind_some]; rw [if_pos (by rw [cueW3_len]; omega)]; exact nx
 exact st C.length k 0 (by omega) (by omega) (by omega)
theorem impl_all {A : List S87} {B : List S91} {C : List S80} (h : isShow A B C = true) : Evt (fun k => impl_windowsOf.f k A B C = some (allW A B C C.length)) := by
 have hC := (isShow_true h).2.2.1
 have inner : ∀ i, i < C.length → ∀ d j, wn B (cu_at C i) - j = d → j ≤ wn B (cu_at C i) → ∀ k, impl_windowsOf.l1 (k + (d + 1)) (allW A B C i ++ ((List.range j).map (fun j => [wlo A B (cu_at C i) j, whi A B (cu_at C i) j, (i : Int)]))) (i : Int) C (C.length : Int) (i : Int) (cueW2 A B (cu_at C i)) ((wn B (cu_at C i) : Nat) : Int) (j : Int) A B C = impl_windowsOf.l0 k (allW A B C (i + 1)) C (C.length : Int) ((i + 1 : Nat) : Int) A B C := by
  intro i hi d; have hl := allW_len h i (by omega); have hw := (wn_range h hi).2.1
  induction d with
  | zero =>
   intro j hd hj k; simp only [impl_windowsOf.l1]; rw [if_neg (by omega), w64 (n := (i : Int) + 1) (by omega), show j = wn B (cu_at C i) by omega]
   rfl
  | succ d ih =>
   intro j hd hj k; have nx := ih (j + 1) (by omega) (by omega) k; rw [List.range_succ, List.map_append, List.map_singleton, ← List.append_assoc] at nx; rw [← nx, show k + (d + 1 + 1) = (k + (d + 1)) + 1 by omega]; simp only [impl_windowsOf.l1]; rw [if_pos (by omega), if_pos (by omega), cueW2_len, if_pos (by omega), rdL_cue2 _ _ _ (show j < wn B (cu_at C i) by omega), w64 (n := (j : Int) + 1) (by omega), rd_0, rd_1, if_pos (by show (0 : Int) < ((2 : Nat) : Int); decide), if_pos (by show (1 : Int) < ((2 : Nat) : Int); decide), if_pos (by rw [List.length_append, List.length_map, List.length_range]; omega)]
   rfl
 have st : ∀ d i, C.length - i = d → i ≤ C.length → Evt (fun k => impl_windowsOf.l0 k (allW A B C i) C (C.length : Int) (i : Int) A B C = some (allW A B C C.length)) := by
  intro d
  induction d with
  | zero =>
   intro i hd hi; refine Evt.succ (Evt.of fun k => ?_); show impl_windowsOf.l0 (k + 1) _ _ _ (i : Int) _ _ _ = _; simp only [impl_windowsOf.l0]; rw [if_neg (by omega), show i = C.length by omega]
  | succ d ih =>
   intro i hd hi; have hw := (wn_range h (show i < C.length by omega)).2.1; obtain ⟨K, hK⟩ := ih (i + 1) (by omega) (by omega); refine ⟨K + 400, fun k hk => ?_⟩; obtain ⟨k, rfl⟩ : ∃ m, k = (m + (wn B (cu_at C i) + 1)) + 1 := ⟨k - wn B (cu_at C i) - 2, by omega⟩; show impl_windowsOf.l0 (k + (wn B (cu_at C i) + 1) + 1) _ _ _ (i : Int) _ _ _ = _; simp only [impl_windowsOf.l0]; rw [if_pos (by omega), if_pos (by omega), if_pos (by omega), rd_cue, impl_cue h (show i < C.length by omega) _ (by omega)]; simp only [Option.bind_some]; rw [cueW2_len]; have z := inner i (by omega) (wn B (cu_at C i)) 0 (by omega) (by omega) k; rw [show (List.range 0).map (fun j => [wlo A B (cu_at C i) j, whi A B (cu_at C i) j, (i : Int)]) = [] from rfl, List.append_nil] at z; exact z.trans (hK k (by omega))
 obtain ⟨K, hK⟩ := st C.length 0 (by omega) (by omega); exact ⟨K, fun k hk => hK k hk⟩
def winR (A : List S87) (B : List S91) (C : List S80) : List (List Int) × Int := if isShow A B C = true then (allW A B C C.length, 0) else ([], 1)
theorem win_ok (n0 : Nat) {A : List S87} {B : List S91} {C : List S80} (hF : Frame n0 A B C) : Evt (fun k => spec_WindowsOf.f k A B C = some (winR A B C)) ∧ Evt (fun k => impl_WindowsOf.f k A B C = some (winR A B C)) := by
 cases h : isShow A B C with
 | false =>
  refine ⟨⟨36893488147419103528, fun k hk => ?_⟩, ⟨36893488147419103528, fun k hk => ?_⟩⟩
  ·show spec_WindowsOf.f k A B C = _
   unfold spec_WindowsOf.f winR
   rw [ss_ok hF k (by omega), h]; rfl
  ·show impl_WindowsOf.f k A B C = _
   unfold impl_WindowsOf.f winR
   rw [si_ok hF k (by omega), h]; rfl
 | true =>
  obtain ⟨K, hK⟩ := impl_all h; refine ⟨⟨36893488147419103528, fun k hk => ?_⟩, ⟨36893488147419103528 + K, fun k hk => ?_⟩⟩
  ·show spec_WindowsOf.f k A B C = _
   unfold spec_WindowsOf.f winR
   rw [ss_ok hF k (by omega), h]; simp only [Option.bind_some, if_true]; rw [spec_all h k (by omega)]; rfl
  ·show impl_WindowsOf.f k A B C = _
   unfold impl_WindowsOf.f winR
   rw [si_ok hF k (by omega), h]; simp only [Option.bind_some, if_true]; rw [show impl_windowsOf.f k A B C = _ from hK k (by omega)]; rfl
theorem winR_len {A : List S87} {B : List S91} {C : List S80} : (winR A B C).1.length ≤ 1000 ∧ ∀ x ∈ (winR A B C).1, x.length ≤ 3 := by
 unfold winR
 by_cases h : isShow A B C = true
 ·rw [if_pos h]
  have hC := (isShow_true h).2.2.1; refine ⟨by have := allW_len h C.length (Nat.le_refl _); show (allW A B C C.length).length ≤ 1000; omega, fun x hx => ?_⟩; obtain ⟨a, j, _, _, e⟩ := (allW_mem _ _).1 hx; rw [e]; exact Nat.le_refl _
 ·rw [if_neg h]
  exact ⟨by show 0 ≤ 1000; omega, fun x hx => absurd hx List.not_mem_nil⟩
def starts (W : List (List Int)) : List Int := W.map (fun w => rd w 0)
theorem rdL_get {W : List (List Int)} {i : Nat} (h : i < W.length) : rd_L5 W (i : Int) = W[i] := by
 unfold rd_L5
 rw [Int.toNat_natCast, List.getD_eq_getElem?_getD, List.getElem?_eq_getElem h]; rfl
theorem rd_starts (W : List (List Int)) (i : Nat) (h : i < W.length) : rd (starts W) (i : Int) = rd (rd_L5 W (i : Int)) 0 := by
 rw [rdL_get h]; show (starts W).getD ((i : Int)).toNat 0 = _
 unfold starts
 rw [Int.toNat_natCast, List.getD_eq_getElem?_getD, List.getElem?_map, List.getElem?_eq_getElem h]; rfl
theorem rdL_mem {W : List (List Int)} {i : Nat} (h : i < W.length) : rd_L5 W (i : Int) ∈ W := by
 unfold rd_L5
 rw [Int.toNat_natCast, List.getD_eq_getElem?_getD, List.getElem?_eq_getElem h]; exact List.getElem_mem h
def insAt (O : List Int) (p : Nat) (i : Int) : List Int := O.take p ++ i :: O.drop p
theorem insAt_len (O : List Int) (p : Nat) (i : Int) (h : p ≤ O.length) : (insAt O p i).length = O.length + 1 := by
 unfold insAt
 rw [List.length_append, List.length_take, List.length_cons, List.length_drop]; omega
theorem insAt_get (O : List Int) (p : Nat) (i : Int) (h : p ≤ O.length) (j : Nat) : (insAt O p i).getD j 0 = if j < p then O.getD j 0 else if j = p then i else O.getD (j - 1) 0 := by
 unfold insAt
 simp only [List.getD_eq_getElem?_getD]
 have hl : (O.take p).length = p := by rw [List.length_take]; omega
 by_cases c : j < p
 ·rw [if_pos c, List.getElem?_append_left (by omega), List.getElem?_take, if_pos c]
 ·rw [if_neg c, List.getElem?_append_right (by omega), hl]
  by_cases e : j = p
  ·rw [if_pos e, e, Nat.sub_self, List.getElem?_cons_zero]; rfl
  ·rw [if_neg e, show j - p = (j - 1 - p) + 1 by omega, List.getElem?_cons_succ, List.getElem?_drop, show p + (j - 1 - p) = j - 1 by omega]
def posF (T O : List Int) (t : Int) : Nat → Nat → Nat
 | x, 0 => x
 | x, d + 1 => if rd T (O.getD x 0) ≤ t then posF T O t (x + 1) d else x
theorem posF_range (T O : List Int) (t : Int) : ∀ d x, x ≤ posF T O t x d ∧ posF T O t x d ≤ x + d
 | 0, x => by unfold posF; omega
 | d + 1, x => by
  have := posF_range T O t d (x + 1)
  unfold posF
  split <;> omega
theorem posF_before (T O : List Int) (t : Int) : ∀ d x j, x ≤ j → j < posF T O t x d → rd T (O.getD j 0) ≤ t
 | 0, x, j, h1, h2 => by unfold posF at h2; omega
 | d + 1, x, j, h1, h2 => by
  unfold posF at h2
  by_cases c : rd T (O.getD x 0) ≤ t
  ·rw [if_pos c] at h2
   by_cases e : j = x
   ·rw [e]; exact c
   ·exact posF_before T O t d (x + 1) j (by omega) h2
  ·rw [if_neg c] at h2; omega
theorem posF_at (T O : List Int) (t : Int) : ∀ d x, posF T O t x d < x + d → t < rd T (O.getD (posF T O t x d) 0)
 | 0, x, h => by unfold posF at h; omega
 | d + 1, x, h => by
  unfold posF at h ⊢
  by_cases c : rd T (O.getD x 0) ≤ t
  ·rw [if_pos c] at h ⊢
   exact posF_at T O t d (x + 1) (by omega)
  ·rw [if_neg c]; omega
def pos (T O : List Int) (i : Nat) : Nat := posF T O (rd T (i : Int)) 0 O.length
def ordF (T : List Int) : Nat → List Int
 | 0 => []
 | i + 1 => insAt (ordF T i) (pos T (ordF T i) i) (i : Int)
theorem pos_le (T O : List Int) (i : Nat) : pos T O i ≤ O.length := by
 have := posF_range T O (rd T (i : Int)) O.length 0
 unfold pos; omega
structure Ord (T O : List Int) (m : Nat) : Prop where
 l : O.length = m
 r : ∀ j, j < m → 0 ≤ O.getD j 0 ∧ O.getD j 0 < (m : Int)
 s : ∀ a b, a < b → b < m → rd T (O.getD a 0) < rd T (O.getD b 0) ∨ (rd T (O.getD a 0) = rd T (O.getD b 0) ∧ O.getD a 0 < O.getD b 0)
theorem Ord.after {T O : List Int} {m : Nat} (h : Ord T O m) {i j : Nat} (h1 : pos T O i ≤ j) (h2 : j < m) : rd T (i : Int) < rd T (O.getD j 0) := by
 have e := posF_at T O (rd T (i : Int)) O.length 0; have hl := h.l; have hp : posF T O (rd T (i : Int)) 0 O.length = pos T O i := rfl; rw [hp] at e; have e1 := e (by omega)
 by_cases c : pos T O i = j
 ·rw [← c]; exact e1
 ·have := h.s (pos T O i) j (by omega) h2
  omega
theorem Ord.before {T O : List Int} {i j : Nat} (h1 : j < pos T O i) : rd T (O.getD j 0) ≤ rd T (i : Int) := posF_before T O _ O.length 0 j (by omega) h1
theorem ordF_ord (T : List Int) : ∀ m, Ord T (ordF T m) m
 | 0 => ⟨rfl, fun j h => absurd h (by omega), fun a b _ h => absurd h (by omega)⟩
 | m + 1 => by
  have ih := ordF_ord T m; have hp := pos_le T (ordF T m) m; have hl := ih.l
  unfold ordF
  refine ⟨by rw [insAt_len _ _ _ hp]; omega, fun j hj => ?_, fun a b hab hb => ?_⟩
  ·rw [insAt_get _ _ _ hp]
   split
   ·have := ih.r j (by omega); omega
   ·split
    ·omega
    ·have := ih.r (j - 1) (by omega); omega
  ·rw [insAt_get _ _ _ hp a, insAt_get _ _ _ hp b]
   by_cases a1 : a < pos T (ordF T m) m
   ·rw [if_pos a1]
    by_cases b1 : b < pos T (ordF T m) m
    ·rw [if_pos b1]; exact ih.s a b hab (by omega)
    ·rw [if_neg b1]
     by_cases b2 : b = pos T (ordF T m) m
     ·rw [if_pos b2]
      have h1 := Ord.before (T := T) (O := ordF T m) (i := m) a1; have h2 := (ih.r a (by omega)).2
      omega
     ·rw [if_neg b2]; exact ih.s a (b - 1) (by omega) (by omega)
   ·rw [if_neg a1, if_neg (show ¬ b < pos T (ordF T m) m by omega), if_neg (show ¬ b = pos T (ordF T m) m by omega)]
    by_cases a2 : a = pos T (ordF T m) m
    ·rw [if_pos a2]
     have h1 := ih.after (i := m) (j := b - 1) (by omega) (by omega); exact .inl h1
    ·rw [if_neg a2]; exact ih.s (a - 1) (b - 1) (by omega) (by omega)
theorem spec_order_in (T : List Int) (hT : T.length ≤ 100000) (i : Nat) (hi : i < T.length) (O : List Int) (hO : O.length = i) (hr : ∀ j, j < O.length → 0 ≤ O.getD j 0 ∧ O.getD j 0 < (T.length : Int)) : ∀ d x, O.length - x = d → x ≤ O.length → ∀ k, spec_l08Order.l1 (k + (posF T O (rd T (i : Int)) x d - x + 1)) T O (i : Int) (x : Int) = spec_l08Order.l0 k T (insAt O (posF T O (rd T (i : Int)) x d) (i : Int)) ((i + 1 : Nat) : Int) := by
 have hw : wrap64 ((i : Int) + 1) = ((i + 1 : Nat) : Int) := w64 (by omega)
 have stop : ∀ (x : Nat) (k : Nat), x ≤ O.length → (([] : List Int) ++ O.take x ++ [(i : Int)] ++ O.drop x) = insAt O x (i : Int) := fun x k _ => by
  unfold insAt; rw [List.nil_append, List.append_assoc]; rfl
 have l1 : ∀ x, x ≤ O.length → (([] : List Int).length + (O.take x).length < 17592186044416) ∧ (([] : List Int) ++ O.take x).length + [(i : Int)].length < 17592186044416 ∧ (([] : List Int) ++ O.take x ++ [(i : Int)]).length + (O.drop x).length < 17592186044416 := fun x hx => by
  simp only [List.length_append, List.length_take, List.length_drop, List.length_nil, List.length_cons]; omega
 intro d
 induction d with
 | zero =>
  intro x hd hx k; show spec_l08Order.l1 (k + (x - x + 1)) T O (i : Int) (x : Int) = spec_l08Order.l0 k T (insAt O x (i : Int)) ((i + 1 : Nat) : Int); rw [show k + (x - x + 1) = k + 1 by omega]; obtain ⟨c1, c2, c3⟩ := l1 x hx
  unfold spec_l08Order.l1
  simp only [Option.bind_some]; rw [if_neg (by omega), if_pos (by omega), if_pos (by omega), Int.toNat_natCast, if_pos c1, if_pos c2, if_pos c3, stop x k hx, hw]
 | succ d ih =>
  intro x hd hx k; have hrx := hr x (by omega)
  by_cases c : rd T (O.getD x 0) ≤ rd T (i : Int)
  ·have hp : posF T O (rd T (i : Int)) x (d + 1) = posF T O (rd T (i : Int)) (x + 1) d := by
    show (if rd T (O.getD x 0) ≤ rd T (i : Int) then _ else _) = _; rw [if_pos c]
   have hg := posF_range T O (rd T (i : Int)) d (x + 1); have e := ih (x + 1) (by omega) (by omega) k; rw [hp, show k + (posF T O (rd T (i : Int)) (x + 1) d - x + 1) = (k + (posF T O (rd T (i : Int)) (x + 1) d - (x + 1) + 1)) + 1 by omega]
   revert e
   generalize k + (posF T O (rd T (i : Int)) (x + 1) d - (x + 1) + 1) = q; intro e
   unfold spec_l08Order.l1
   rw [if_pos (by omega), if_pos (by omega), rd_nat, if_pos hrx.1, if_pos hrx.2, if_pos (by omega), if_pos (by omega), if_pos c, w64 (n := (x : Int) + 1) (by omega)]; exact e
  ·have hp : posF T O (rd T (i : Int)) x (d + 1) = x := by
    show (if rd T (O.getD x 0) ≤ rd T (i : Int) then _ else _) = _; rw [if_neg c]
   rw [hp, show k + (x - x + 1) = k + 1 by omega]; obtain ⟨c1, c2, c3⟩ := l1 x hx
   unfold spec_l08Order.l1
   simp only [Option.bind_some]; rw [if_pos (by omega), if_pos (by omega), rd_nat, if_pos hrx.1, if_pos hrx.2, if_pos (by omega), if_pos (by omega), if_neg c, Int.toNat_natCast, if_pos c1, if_pos (by omega), if_pos c2, if_pos c3, stop x k hx, hw]
theorem spec_order_go (T : List Int) (hT : T.length ≤ 100000) : ∀ d i, T.length - i = d → i ≤ T.length → ∀ k, d * (T.length + 3) + 1 ≤ k → spec_l08Order.l0 k T (ordF T i) (i : Int) = some (ordF T T.length) := by
 intro d
 induction d with
 | zero =>
  intro i hd hi k hk; obtain ⟨k, rfl⟩ : ∃ m, k = m + 1 := ⟨k - 1, by omega⟩
  unfold spec_l08Order.l0
  rw [if_neg (by omega), show i = T.length by omega]
 | succ d ih =>
  intro i hd hi k hk; have ho := ordF_ord T i; have hl := ho.l; have hp := pos_le T (ordF T i) i; have hm : (d + 1) * (T.length + 3) = d * (T.length + 3) + (T.length + 3) := Nat.succ_mul _ _; obtain ⟨k, rfl⟩ : ∃ m, k = m + (pos T (ordF T i) i - 0 + 1) + 1 := ⟨k - (pos T (ordF T i) i - 0 + 1) - 1, by omega⟩
  unfold spec_l08Order.l0
  rw [if_pos (by omega)]; refine (spec_order_in T hT i (by omega) (ordF T i) hl (fun j hj => by have := ho.r j (by omega); omega) (ordF T i).length 0 (by omega) (by omega) k).trans ?_; exact ih (i + 1) (by omega) (by omega) k (by omega)
theorem spec_order (T : List Int) (hT : T.length ≤ 100000) (k : Nat) (hk : T.length * (T.length + 3) + 1 ≤ k) : spec_l08Order.f k T = some (ordF T T.length) := spec_order_go T hT T.length 0 (by omega) (by omega) k hk
def gW (W : List (List Int)) (o : Int) : List Int := rd_L5 W o
def srtW (W : List (List Int)) (i : Nat) : List (List Int) := (ordF (starts W) i).map (gW W)
theorem starts_len (W : List (List Int)) : (starts W).length = W.length := by unfold starts; rw [List.length_map]
theorem srtW_len (W : List (List Int)) (i : Nat) : (srtW W i).length = i := by unfold srtW; rw [List.length_map, (ordF_ord _ _).l]
theorem rdL_srt (W : List (List Int)) (m : Nat) {j : Nat} (hj : j < m) : rd_L5 (srtW W m) (j : Int) = rd_L5 W ((ordF (starts W) m).getD j 0) := by
 have hl := (ordF_ord (starts W) m).l
 unfold srtW
 have h1 : j < ((ordF (starts W) m).map (gW W)).length := by rw [List.length_map]; omega
 rw [rdL_get h1, List.getElem_map, List.getD_eq_getElem?_getD, List.getElem?_eq_getElem (show j < (ordF (starts W) m).length by omega)]
 rfl
def lo (S : List (List Int)) (j : Nat) : Int := rd (rd_L5 S (j : Int)) 0
def hi (S : List (List Int)) (j : Nat) : Int := rd (rd_L5 S (j : Int)) 1
theorem lo_srt {W : List (List Int)} {m : Nat} (hm : m ≤ W.length) {j : Nat} (hj : j < m) : lo (srtW W m) j = rd (starts W) ((ordF (starts W) m).getD j 0) := by
 have hr := (ordF_ord (starts W) m).r j hj
 unfold lo
 rw [rdL_srt W m hj]; obtain ⟨n, hn⟩ : ∃ n : Nat, (ordF (starts W) m).getD j 0 = (n : Int) := ⟨((ordF (starts W) m).getD j 0).toNat, by omega⟩; rw [hn, rd_starts W n (by omega)]
def mxF (S : List (List Int)) : Nat → Int
 | 0 => 0
 | i + 1 => if i = 0 then hi S 0 else mx (mxF S i) (hi S i)
def gapF (S : List (List Int)) (least : Int) : Nat → List (List Int)
 | 0 => []
 | i + 1 => gapF S least i ++ (if 0 < i ∧ lo S i - mxF S i - 1 ≥ least then [[mxF S i + 1, lo S i - 1]] else [])
def Rng (S : List (List Int)) : Prop := S.length ≤ 1000 ∧ ∀ j, j < S.length → 2 ≤ (rd_L5 S (j : Int)).length ∧ 0 ≤ lo S j ∧ lo S j ≤ hi S j ∧ hi S j ≤ 3000000
theorem mxF_range {S : List (List Int)} (h : Rng S) : ∀ i, i ≤ S.length → 0 ≤ mxF S i ∧ mxF S i ≤ 3000000
 | 0, _ => by unfold mxF; omega
 | i + 1, hi_ => by
  have a := mxF_range h i (by omega); have b := h.2 i (by omega)
  unfold mxF
  by_cases z : i = 0
  ·subst z; rw [if_pos rfl]; omega
  ·rw [if_neg z]; unfold mx; split <;> omega
theorem gapF_len (S : List (List Int)) (least : Int) : ∀ i, (gapF S least i).length ≤ i
 | 0 => Nat.le_refl _
 | i + 1 => by
  have := gapF_len S least i
  unfold gapF
  rw [List.length_append]
  split
  ·show _ + 1 ≤ _; omega
  ·show _ + 0 ≤ _; omega
theorem gapF_rows (S : List (List Int)) (least : Int) : ∀ i, ∀ x ∈ gapF S least i, x.length ≤ 3
 | 0, x, hx => absurd hx List.not_mem_nil
 | i + 1, x, hx => by
  unfold gapF at hx
  rw [List.mem_append] at hx
  rcases hx with h | h
  ·exact gapF_rows S least i x h
  ·split at h
   ·rw [List.mem_singleton.1 h]; show 2 ≤ 3; omega
   ·exact absurd h List.not_mem_nil
theorem allW_rng {A : List S87} {B : List S91} {C : List S80} (h : isShow A B C = true) : Rng (allW A B C C.length) := by
 have hC := (isShow_true h).2.2.1; refine ⟨by have := allW_len h C.length (Nat.le_refl _); omega, fun i hi_ => ?_⟩; obtain ⟨a, j, h1, h2, e⟩ := (allW_mem _ _).1 (rdL_mem hi_); have := w_range h h1 h2
 unfold lo hi
 rw [e, rd_0, rd_1]; exact ⟨by show 2 ≤ 3; omega, this.1, this.2.1, this.2.2.1⟩
theorem srtW_rng {W : List (List Int)} (h : Rng W) {m : Nat} (hm : m ≤ W.length) : Rng (srtW W m) := by
 refine ⟨by rw [srtW_len]; have := h.1; omega, fun j hj => ?_⟩; rw [srtW_len] at hj; have hr := (ordF_ord (starts W) m).r j hj; obtain ⟨n, hn⟩ : ∃ n : Nat, (ordF (starts W) m).getD j 0 = (n : Int) := ⟨((ordF (starts W) m).getD j 0).toNat, by omega⟩; have := h.2 n (by omega)
 unfold lo hi at *
 rw [rdL_srt W m hj, hn]; exact this
theorem spec_starts {W : List (List Int)} (h : Rng W) (least : Int) : ∀ d i, W.length - i = d → i ≤ W.length → ∀ k, spec_DarkGaps.l0 (k + (d + 1)) least W [] ((starts W).take i) (i : Int) = (spec_l08Order.f k (starts W)).bind fun t => spec_DarkGaps.l1 k least W [] t 0 0 := by
 have hl := h.1; have hs := starts_len W; intro d
 induction d with
 | zero =>
  intro i hd hi_ k; show spec_DarkGaps.l0 (k + 1) least W [] ((starts W).take i) (i : Int) = _
  unfold spec_DarkGaps.l0
  rw [if_neg (by omega), List.take_of_length_le (by omega)]
 | succ d ih =>
  intro i hd hi_ k; have e := ih (i + 1) (by omega) (by omega) k; have hr := (h.2 i (by omega)).1; rw [List.take_succ_eq_append_getElem (show i < (starts W).length by omega)] at e
  have es : (starts W)[i]'(by omega) = rd (rd_L5 W (i : Int)) 0 := by
   rw [← rd_starts W i (by omega)]; show _ = (starts W).getD ((i : Int)).toNat 0; rw [Int.toNat_natCast, List.getD_eq_getElem?_getD, List.getElem?_eq_getElem (by omega)]; rfl
  rw [es] at e; rw [show k + (d + 1 + 1) = (k + (d + 1)) + 1 by omega]
  have hT : ((starts W).take i).length < 17592186044416 := by rw [List.length_take]; omega
  revert e
  generalize (spec_l08Order.f k (starts W)).bind (fun t => spec_DarkGaps.l1 k least W [] t 0 0) = Z; generalize k + (d + 1) = q; intro e
  unfold spec_DarkGaps.l0
  rw [if_pos (by omega), if_pos (by omega), if_pos (by omega), if_pos hT, w64 (n := (i : Int) + 1) (by omega)]; exact e
theorem spec_gaps {W : List (List Int)} (h : Rng W) {least : Int} (hle : 1 ≤ least ∧ least ≤ 10000000) : ∀ d i, W.length - i = d → i ≤ W.length → ∀ k, d + 1 ≤ k → spec_DarkGaps.l1 k least W (gapF (srtW W W.length) least i) (ordF (starts W) W.length) (mxF (srtW W W.length) i) (i : Int) = some (gapF (srtW W W.length) least W.length, 0) := by
 have hl := h.1; have ho := ordF_ord (starts W) W.length; have hS := srtW_rng h (Nat.le_refl W.length); have hSl := srtW_len W W.length; intro d
 induction d with
 | zero =>
  intro i hd hi_ k hk; obtain ⟨k, rfl⟩ : ∃ m, k = m + 1 := ⟨k - 1, by omega⟩
  have e : i = W.length := by omega
  have hol := ho.l
  unfold spec_DarkGaps.l1
  rw [if_neg (by omega), e]
 | succ d ih =>
  intro i hd hi_ k hk; obtain ⟨k, rfl⟩ : ∃ m, k = m + 1 := ⟨k - 1, by omega⟩; have e := ih (i + 1) (by omega) (by omega) k (by omega); have hol := ho.l; have hor := ho.r i (by omega); have hr := hS.2 i (by omega); have hm := mxF_range hS i (by omega); have hg := gapF_len (srtW W W.length) least i
  have hrow : rd_L5 W (rd (ordF (starts W) W.length) (i : Int)) = rd_L5 (srtW W W.length) (i : Int) := by
   rw [rd_nat, ← rdL_srt W W.length (by omega)]
  have hor2 : 0 ≤ rd (ordF (starts W) W.length) (i : Int) ∧ rd (ordF (starts W) W.length) (i : Int) < (W.length : Int) := by rw [rd_nat]; exact hor
  have hlo : rd (rd_L5 (srtW W W.length) (i : Int)) 0 = lo (srtW W W.length) i := rfl; have hhi : rd (rd_L5 (srtW W W.length) (i : Int)) 1 = hi (srtW W W.length) i := rfl; have eg : gapF (srtW W W.length) least (i + 1) = gapF (srtW W W.length) least i ++ (if 0 < i ∧ lo (srtW W W.length) i - mxF (srtW W W.length) i - 1 ≥ least then [[mxF (srtW W W.length) i + 1, lo (srtW W W.length) i - 1]] else []) := rfl; have em : mxF (srtW W W.length) (i + 1) = if i = 0 then hi (srtW W W.length) 0 else mx (mxF (srtW W W.length) i) (hi (srtW W W.length) i) := rfl; have hwi : ∀ _ : Unit, wrap64 ((i : Int) + 1) = ((i + 1 : Nat) : Int) := fun _ => w64 (by omega); rw [eg, em] at e; generalize gapF (srtW W W.length) least i = G at e hg ⊢; generalize gapF (srtW W W.length) least W.length = GG at e ⊢; generalize mxF (srtW W W.length) i = M at e hm ⊢
  have c2 : 0 < (((rd_L5 (srtW W W.length) (i : Int)).length : Nat) : Int) := by omega
  have c3 : 1 < (((rd_L5 (srtW W W.length) (i : Int)).length : Nat) : Int) := by omega
  unfold spec_DarkGaps.l1
  simp only [hrow, hlo, hhi]
  by_cases z : i = 0
  ·subst z
   rw [if_neg (show ¬ (0 < 0 ∧ lo (srtW W W.length) 0 - M - 1 ≥ least) by omega), if_pos rfl, List.append_nil] at e; rw [if_pos (by omega), if_pos (by omega), if_pos hor2.1, if_pos hor2.2, if_neg (by omega), if_pos (by omega), if_pos c3, hwi ()]; exact e
  ·rw [if_neg z] at e
   have w1 : ∀ _ : Unit, wrap64 (lo (srtW W W.length) i - M) = lo (srtW W W.length) i - M := fun _ => w64 (by omega); have w2 : ∀ _ : Unit, wrap64 (lo (srtW W W.length) i - M - 1) = lo (srtW W W.length) i - M - 1 := fun _ => w64 (by omega); have w3 : ∀ _ : Unit, wrap64 (M + 1) = M + 1 := fun _ => w64 (by omega); have w4 : ∀ _ : Unit, wrap64 (lo (srtW W W.length) i - 1) = lo (srtW W W.length) i - 1 := fun _ => w64 (by omega); rw [if_pos (by omega), if_pos (by omega), if_pos hor2.1, if_pos hor2.2, if_pos (by omega), if_pos c2, w1 (), w2 ()]
   by_cases g : lo (srtW W W.length) i - M - 1 ≥ least
   ·rw [if_pos ⟨by omega, g⟩] at e
    rw [if_pos g, if_pos (by omega), Option.bind_some, if_neg (by omega), if_pos c3, w3 (), w4 (), hwi ()]
    by_cases y : hi (srtW W W.length) i > M
    ·rw [if_pos y]; unfold mx at e; rw [if_pos (by omega)] at e; exact e
    ·rw [if_neg y]; unfold mx at e; rw [if_neg (by omega)] at e; exact e
   ·rw [if_neg (fun y => g y.2), List.append_nil] at e
    rw [if_neg g, if_neg (by omega), if_pos c3, hwi ()]
    by_cases y : hi (srtW W W.length) i > M
    ·rw [if_pos y]; unfold mx at e; rw [if_pos (by omega)] at e; exact e
    ·rw [if_neg y]; unfold mx at e; rw [if_neg (by omega)] at e; exact e
def zp (P : List (List Int)) (v : List Int) (R : List (List Int)) (k : Nat) : List (List Int) := P.take k ++ v :: (P.drop k ++ R)
theorem zp_len (P : List (List Int)) (v : List Int) (R : List (List Int)) {k : Nat} (hk : k ≤ P.length) : (zp P v R k).length = P.length + 1 + R.length := by
 unfold zp
 rw [List.length_append, List.length_cons, List.length_append, List.length_take, List.length_drop]; omega
theorem rdL_of {X : List (List Int)} {i : Nat} {v : List Int} (h : X[i]? = some v) : rd_L5 X (i : Int) = v := by
 unfold rd_L5
 rw [Int.toNat_natCast, List.getD_eq_getElem?_getD, h]; rfl
theorem zp_at (P : List (List Int)) (v : List Int) (R : List (List Int)) {k : Nat} (hk : k ≤ P.length) : rd_L5 (zp P v R k) (k : Int) = v := by
 refine rdL_of ?_
 unfold zp
 rw [List.getElem?_append_right (by rw [List.length_take]; omega), List.length_take, show k - min k P.length = 0 by omega]; rfl
theorem zp_below (P : List (List Int)) (v : List Int) (R : List (List Int)) {k j : Nat} (hk : k ≤ P.length) (hj : j < k) : rd_L5 (zp P v R k) (j : Int) = rd_L5 P (j : Int) := by
 refine rdL_of ?_
 unfold zp
 rw [List.getElem?_append_left (by rw [List.length_take]; omega), List.getElem?_take, if_pos hj, rdL_get (by omega), List.getElem?_eq_getElem (by omega)]
theorem zp_swap (P : List (List Int)) (v : List Int) (R : List (List Int)) {k : Nat} (hk : k + 1 ≤ P.length) : ((zp P v R (k + 1)).set k v).set (k + 1) (rd_L5 P (k : Int)) = zp P v R k := by
 have h1 : P.take (k + 1) = P.take k ++ [rd_L5 P (k : Int)] := by rw [rdL_get (by omega), List.take_succ_eq_append_getElem (by omega)]
 have h2 : P.drop k = rd_L5 P (k : Int) :: P.drop (k + 1) := by rw [rdL_get (by omega), List.drop_eq_getElem_cons (by omega)]
 have hl : (P.take k).length = k := by rw [List.length_take]; omega
 unfold zp
 rw [h1, h2, List.append_assoc]; generalize rd_L5 P (k : Int) = x; generalize P.take k = a at hl ⊢; subst hl; rw [List.set_append_right _ _ (by omega), Nat.sub_self]; show (a ++ v :: v :: (P.drop (a.length + 1) ++ R)).set (a.length + 1) x = _; rw [List.set_append_right _ _ (by omega), show a.length + 1 - a.length = 1 by omega]
 rfl
theorem srtW_succ (W : List (List Int)) (i : Nat) (R : List (List Int)) : srtW W (i + 1) ++ R = zp (srtW W i) (rd_L5 W (i : Int)) R (pos (starts W) (ordF (starts W) i) i) := by
 unfold srtW zp
 show (insAt (ordF (starts W) i) (pos (starts W) (ordF (starts W) i) i) (i : Int)).map (gW W) ++ R = _
 unfold insAt
 rw [List.map_append, List.map_cons, List.map_take, List.map_drop, List.append_assoc]
 rfl
theorem zp_top (W : List (List Int)) {i : Nat} (hi_ : i < W.length) : srtW W i ++ W.drop i = zp (srtW W i) (rd_L5 W (i : Int)) (W.drop (i + 1)) i := by
 have hl := srtW_len W i
 unfold zp
 rw [List.take_of_length_le (show (srtW W i).length ≤ i by omega), show (srtW W i).drop i = [] from List.drop_of_length_le (by omega), List.nil_append, List.drop_eq_getElem_cons hi_, rdL_get hi_]
theorem impl_down {W : List (List Int)} (h : Rng W) (least : Int) {i : Nat} (hi_ : i < W.length) : ∀ d k, k - pos (starts W) (ordF (starts W) i) i = d → pos (starts W) (ordF (starts W) i) i ≤ k → k ≤ i → ∀ q, impl_DarkGaps.l1 (q + (d + 1)) least (zp (srtW W i) (rd_L5 W (i : Int)) (W.drop (i + 1)) k) (k : Int) (W.length : Int) (i : Int) = impl_DarkGaps.l0 q least (srtW W (i + 1) ++ W.drop (i + 1)) (W.length : Int) ((i + 1 : Nat) : Int) := by
 have hl := h.1; have hsl := srtW_len W i; have ho := ordF_ord (starts W) i; have hr := h.2 i hi_; have hwi : ∀ _ : Unit, wrap64 ((i : Int) + 1) = ((i + 1 : Nat) : Int) := fun _ => w64 (by omega); have hP : ∀ j, j < i → 2 ≤ (rd_L5 (srtW W i) (j : Int)).length := fun j hj => ((srtW_rng h (show i ≤ W.length by omega)).2 j (by omega)).1; have hlo : ∀ j, j < i → rd (rd_L5 (srtW W i) (j : Int)) 0 = rd (starts W) ((ordF (starts W) i).getD j 0) := fun j hj => lo_srt (by omega) hj; have hv : rd (rd_L5 W (i : Int)) 0 = rd (starts W) (i : Int) := (rd_starts W i hi_).symm; intro d
 induction d with
 | zero =>
  intro k hd h1 h2 q
  have hk : k = pos (starts W) (ordF (starts W) i) i := by omega
  have hzl := zp_len (srtW W i) (rd_L5 W (i : Int)) (W.drop (i + 1)) (show k ≤ (srtW W i).length by omega); rw [List.length_drop] at hzl; show impl_DarkGaps.l1 (q + 1) least _ _ _ _ = _; rw [srtW_succ, ← hk]
  unfold impl_DarkGaps.l1
  by_cases c : (k : Int) > 0
  ·have hw : ∀ _ : Unit, wrap64 ((k : Int) - 1) = ((k - 1 : Nat) : Int) := fun _ => by rw [w64 (by omega)]; omega
   have hb := Ord.before (T := starts W) (O := ordF (starts W) i) (i := i) (j := k - 1) (by omega); have e1 := zp_below (srtW W i) (rd_L5 W (i : Int)) (W.drop (i + 1)) (show k ≤ (srtW W i).length by omega) (show k - 1 < k by omega); have e2 := zp_at (srtW W i) (rd_L5 W (i : Int)) (W.drop (i + 1)) (show k ≤ (srtW W i).length by omega); have b1 := hP (k - 1) (by omega); have b2 := hlo (k - 1) (by omega); rw [if_pos c, hw (), if_pos (by omega), if_pos (by omega), e1, e2, if_pos (by omega), if_pos (by omega), if_pos (by omega), if_pos (by omega), if_neg (by omega), hwi ()]
  ·rw [if_neg c, hwi ()]
 | succ d ih =>
  intro k hd h1 h2 q; obtain ⟨k, rfl⟩ : ∃ m, k = m + 1 := ⟨k - 1, by omega⟩; have hzl := zp_len (srtW W i) (rd_L5 W (i : Int)) (W.drop (i + 1)) (show k + 1 ≤ (srtW W i).length by omega); rw [List.length_drop] at hzl
  have hw : ∀ _ : Unit, wrap64 (((k + 1 : Nat) : Int) - 1) = (k : Int) := fun _ => by rw [w64 (by omega)]; omega
  have ha := ho.after (i := i) (j := k) (by omega) (by omega); have e1 := zp_below (srtW W i) (rd_L5 W (i : Int)) (W.drop (i + 1)) (show k + 1 ≤ (srtW W i).length by omega) (show k < k + 1 by omega); have e2 := zp_at (srtW W i) (rd_L5 W (i : Int)) (W.drop (i + 1)) (show k + 1 ≤ (srtW W i).length by omega); have b1 := hP k (by omega); have b2 := hlo k (by omega); have e := ih k (by omega) (by omega) (by omega) q; have sw := zp_swap (srtW W i) (rd_L5 W (i : Int)) (W.drop (i + 1)) (show k + 1 ≤ (srtW W i).length by omega); rw [show q + (d + 1 + 1) = (q + (d + 1)) + 1 by omega]
  revert e
  generalize q + (d + 1) = f; intro e
  unfold impl_DarkGaps.l1
  rw [if_pos (by omega), hw (), if_pos (by omega), if_pos (by omega), e1, e2, if_pos (by omega), if_pos (by omega), if_pos (by omega), if_pos (by omega), if_pos (by omega), Int.toNat_natCast, Int.toNat_natCast, sw]; exact e
theorem impl_sort {W : List (List Int)} (h : Rng W) {least : Int} {Z : Nat} {r : List (List Int) × Int} (hz : ∀ k, Z ≤ k → impl_DarkGaps.l2 k least (srtW W W.length) [] (srtW W W.length) (W.length : Int) 0 = some r) : ∀ d i, W.length - i = d → i ≤ W.length → ∀ k, Z + d * (W.length + 3) + 1 ≤ k → impl_DarkGaps.l0 k least (srtW W i ++ W.drop i) (W.length : Int) (i : Int) = some r := by
 have hl := h.1; intro d
 induction d with
 | zero =>
  intro i hd hi_ k hk; obtain ⟨k, rfl⟩ : ∃ m, k = m + 1 := ⟨k - 1, by omega⟩
  have e : i = W.length := by omega
  subst e
  unfold impl_DarkGaps.l0
  rw [if_neg (by omega), List.drop_of_length_le (Nat.le_refl _), List.append_nil, srtW_len]; exact hz k (by omega)
 | succ d ih =>
  intro i hd hi_ k hk; have hm : (d + 1) * (W.length + 3) = d * (W.length + 3) + (W.length + 3) := Nat.succ_mul _ _; have hp := pos_le (starts W) (ordF (starts W) i) i; have hol := (ordF_ord (starts W) i).l; obtain ⟨k, rfl⟩ : ∃ m, k = m + (i - pos (starts W) (ordF (starts W) i) i + 1) + 1 := ⟨k - (i - pos (starts W) (ordF (starts W) i) i + 1) - 1, by omega⟩; have e := ih (i + 1) (by omega) (by omega) k (by omega)
  unfold impl_DarkGaps.l0
  rw [if_pos (by omega), zp_top W (by omega)]; exact (impl_down h least (by omega) _ i rfl (by omega) (Nat.le_refl _) k).trans e
theorem impl_max {S : List (List Int)} (h : Rng S) {least : Int} {i : Nat} (hi0 : 0 < i) (hi_ : i < S.length) (G : List (List Int)) {K : Nat} {r : List (List Int) × Int} (hG : G.length ≤ i)
  (hn : ∀ k, K ≤ k → impl_DarkGaps.l2 k least S (G ++ (if 0 < i ∧ lo S i - mxF S i - 1 ≥ least then [[mxF S i + 1, lo S i - 1]] else [])) S (S.length : Int) ((i + 1 : Nat) : Int) = some r) : ∀ d j, i - j = d → j ≤ i → ∀ k, K + d + 1 ≤ k → impl_DarkGaps.l3 k least S G (rd_L5 S (i : Int)) (if j = 0 then hi S 0 else mxF S j) S (S.length : Int) (i : Int) (S.take i) ((S.take i).length : Int) (j : Int) = some r := by
 have hl := h.1
 have htl : (S.take i).length = i := by rw [List.length_take]; omega
 have hri := h.2 i hi_; have hm := mxF_range h i (by omega); have hwi : ∀ _ : Unit, wrap64 ((i : Int) + 1) = ((i + 1 : Nat) : Int) := fun _ => w64 (by omega); have hlo : rd (rd_L5 S (i : Int)) 0 = lo S i := rfl; intro d
 induction d with
 | zero =>
  intro j hd hj k hk; obtain ⟨k, rfl⟩ : ∃ m, k = m + 1 := ⟨k - 1, by omega⟩
  have e : j = i := by omega
  subst e; have w1 : ∀ _ : Unit, wrap64 (lo S j - mxF S j) = lo S j - mxF S j := fun _ => w64 (by omega); have w2 : ∀ _ : Unit, wrap64 (lo S j - mxF S j - 1) = lo S j - mxF S j - 1 := fun _ => w64 (by omega); have w3 : ∀ _ : Unit, wrap64 (mxF S j + 1) = mxF S j + 1 := fun _ => w64 (by omega); have w4 : ∀ _ : Unit, wrap64 (lo S j - 1) = lo S j - 1 := fun _ => w64 (by omega); have e := hn k (by omega)
  unfold impl_DarkGaps.l3
  rw [if_neg (show ¬ j = 0 by omega), htl, if_neg (by omega), hlo, if_pos (by omega), w1 (), w2 ()]
  by_cases g : lo S j - mxF S j - 1 ≥ least
  ·rw [if_pos ⟨hi0, g⟩] at e
   rw [if_pos g, if_pos (by omega), w3 (), w4 (), hwi ()]; exact e
  ·rw [if_neg (fun y => g y.2), List.append_nil] at e
   rw [if_neg g, hwi ()]; exact e
 | succ d ih =>
  intro j hd hj k hk; obtain ⟨k, rfl⟩ : ∃ m, k = m + 1 := ⟨k - 1, by omega⟩; have hrj := h.2 j (by omega)
  have hrow : rd_L5 (S.take i) (j : Int) = rd_L5 S (j : Int) := by
   refine rdL_of ?_; rw [List.getElem?_take, if_pos (by omega), rdL_get (by omega), List.getElem?_eq_getElem (by omega)]
  have hhi : rd (rd_L5 S (j : Int)) 1 = hi S j := rfl
  have hmx : mx (if j = 0 then hi S 0 else mxF S j) (hi S j) = (if j + 1 = 0 then hi S 0 else mxF S (j + 1)) := by
   rw [if_neg (show ¬ j + 1 = 0 by omega)]; show _ = (if j = 0 then hi S 0 else mx (mxF S j) (hi S j))
   by_cases z : j = 0
   ·subst z; rw [if_pos rfl, if_pos rfl]; unfold mx; split <;> rfl
   ·rw [if_neg z, if_neg z]
  have e := ih (j + 1) (by omega) (by omega) k (by omega)
  unfold impl_DarkGaps.l3
  rw [htl, if_pos (by omega), if_pos (by omega), if_pos (by omega), hrow, if_pos (by omega), hhi, hmx, w64 (n := (j : Int) + 1) (by omega)]; rw [htl] at e; exact e
theorem impl_gaps {S : List (List Int)} (h : Rng S) {least : Int} : ∀ d i, S.length - i = d → i ≤ S.length → ∀ k, d * (S.length + 3) + 1 ≤ k → impl_DarkGaps.l2 k least S (gapF S least i) S (S.length : Int) (i : Int) = some (gapF S least S.length, 0) := by
 have hl := h.1; intro d
 induction d with
 | zero =>
  intro i hd hi_ k hk; obtain ⟨k, rfl⟩ : ∃ m, k = m + 1 := ⟨k - 1, by omega⟩
  have e : i = S.length := by omega
  unfold impl_DarkGaps.l2
  rw [if_neg (by omega), e]
 | succ d ih =>
  intro i hd hi_ k hk; have hm : (d + 1) * (S.length + 3) = d * (S.length + 3) + (S.length + 3) := Nat.succ_mul _ _; obtain ⟨k, rfl⟩ : ∃ m, k = m + 1 := ⟨k - 1, by omega⟩; have hg := gapF_len S least i
  by_cases z : i = 0
  ·subst z
   have e := ih 1 (by omega) (by omega) k (by omega)
   have e2 : gapF S least 1 = gapF S least 0 := by
    show gapF S least 0 ++ _ = _; rw [if_neg (fun y => Nat.lt_irrefl 0 y.1), List.append_nil]
   rw [e2] at e
   unfold impl_DarkGaps.l2
   rw [if_pos (by omega), if_pos (by omega), if_pos (by omega), if_pos (by omega), w64 (n := ((0 : Nat) : Int) + 1) (by omega)]; exact e
  ·have hr0 := (h.2 0 (by omega)).1
   have hr0' : 2 ≤ (rd_L5 S 0).length := hr0
   unfold impl_DarkGaps.l2
   rw [if_pos (by omega), if_pos (by omega), if_pos (by omega), if_neg (by omega), if_pos (by omega), if_pos (by omega), if_pos (by omega), Option.bind_some, Int.toNat_natCast]; exact impl_max h (by omega) (by omega) (gapF S least i) hg (fun k hk => ih (i + 1) (by omega) (by omega) k hk) i 0 (by omega) (by omega) k (by omega)
def darkR (A : List S87) (B : List S91) (C : List S80) (least : Int) : List (List Int) × Int := if isShow A B C = true then (if inB least 1 10000000 = true then (gapF (srtW (allW A B C C.length) (allW A B C C.length).length) least (allW A B C C.length).length, 0) else ([], 2)) else ([], 1)
theorem dark_ok (n0 : Nat) {A : List S87} {B : List S91} {C : List S80} (hF : Frame n0 A B C) (least : Int) : Evt (fun k => spec_DarkGaps.f k A B C least = some (darkR A B C least)) ∧ Evt (fun k => impl_DarkGaps.f k A B C least = some (darkR A B C least)) := by
 by_cases h : isShow A B C = true
 ·by_cases g : inB least 1 10000000 = true
  ·have hW := allW_rng h
   have hl := hW.1; have gg := inB_true.1 g; obtain ⟨K, hK⟩ := impl_all h
   have hR : darkR A B C least = (gapF (srtW (allW A B C C.length) (allW A B C C.length).length) least (allW A B C C.length).length, 0) := by unfold darkR; rw [if_pos h, if_pos g]
   rw [hR]; have hsl := starts_len (allW A B C C.length)
   have hb : (starts (allW A B C C.length)).length * ((starts (allW A B C C.length)).length + 3) ≤ 1003000 := by
    rw [hsl]; have := Nat.mul_le_mul hl (show (allW A B C C.length).length + 3 ≤ 1003 by omega)
    omega
   refine ⟨⟨36893488147419103528 + 2000000, fun k hk => ?_⟩, ⟨36893488147419103528 + 3000000 + K, fun k hk => ?_⟩⟩
   ·show spec_DarkGaps.f k A B C least = _
    unfold spec_DarkGaps.f
    rw [ss_ok hF k (by omega), Option.bind_some, if_pos h, In_eq, Option.bind_some, if_pos g, spec_all h k (by omega), Option.bind_some]; generalize allW A B C C.length = W at hW hl hsl hb; obtain ⟨k, rfl⟩ : ∃ m, k = m + (W.length + 1) := ⟨k - (W.length + 1), by omega⟩; have e := spec_starts hW least W.length 0 (by omega) (by omega) k; rw [List.take_zero] at e; refine e.trans ?_; rw [spec_order (starts W) (by omega) k (by omega), Option.bind_some, hsl]; exact spec_gaps hW gg W.length 0 (by omega) (by omega) k (by omega)
   ·show impl_DarkGaps.f k A B C least = _
    unfold impl_DarkGaps.f
    rw [si_ok hF k (by omega), Option.bind_some, if_pos h, Wi_eq, Option.bind_some, if_pos g, show impl_windowsOf.f k A B C = _ from hK k (by omega), Option.bind_some]; clear hK; generalize allW A B C C.length = W at hW hl hsl hb; have hS := srtW_rng hW (Nat.le_refl W.length); have hSl := srtW_len W W.length
    have hb2 : W.length * (W.length + 3) ≤ 1003000 := by
     have := Nat.mul_le_mul hl (show W.length + 3 ≤ 1003 by omega)
     omega
    refine impl_sort hW (least := least) (Z := W.length * (W.length + 3) + 1) (fun k hk => ?_) W.length 0 (by omega) (by omega) k (by omega); have e := impl_gaps hS (least := least) (srtW W W.length).length 0 (by omega) (by omega) k (by rw [hSl]; omega); rw [hSl] at e; exact e
  ·have hR : darkR A B C least = ([], 2) := by unfold darkR; rw [if_pos h, if_neg g]
   rw [hR]; refine ⟨⟨36893488147419103528, fun k hk => ?_⟩, ⟨36893488147419103528, fun k hk => ?_⟩⟩
   ·show spec_DarkGaps.f k A B C least = _
    unfold spec_DarkGaps.f
    rw [ss_ok hF k (by omega), Option.bind_some, if_pos h, In_eq, Option.bind_some, if_neg g]
   ·show impl_DarkGaps.f k A B C least = _
    unfold impl_DarkGaps.f
    rw [si_ok hF k (by omega), Option.bind_some, if_pos h, Wi_eq, Option.bind_some, if_neg g]
 ·have hR : darkR A B C least = ([], 1) := by unfold darkR; rw [if_neg h]
  rw [hR]; refine ⟨⟨36893488147419103528, fun k hk => ?_⟩, ⟨36893488147419103528, fun k hk => ?_⟩⟩
  ·show spec_DarkGaps.f k A B C least = _
   unfold spec_DarkGaps.f
   rw [ss_ok hF k (by omega), Option.bind_some, if_neg h]
  ·show impl_DarkGaps.f k A B C least = _
   unfold impl_DarkGaps.f
   rw [si_ok hF k (by omega), Option.bind_some, if_neg h]
theorem darkR_len {A : List S87} {B : List S91} {C : List S80} {least : Int} : (darkR A B C least).1.length ≤ 1000 ∧ ∀ x ∈ (darkR A B C least).1, x.length ≤ 3 := by
 unfold darkR
 by_cases h : isShow A B C = true
 ·rw [if_pos h]
  by_cases g : inB least 1 10000000 = true
  ·rw [if_pos g]
   have hl := (allW_rng h).1; have := gapF_len (srtW (allW A B C C.length) (allW A B C C.length).length) least (allW A B C C.length).length; exact ⟨by show (gapF _ _ _).length ≤ _; omega, gapF_rows _ _ _⟩
  ·rw [if_neg g]; exact ⟨Nat.zero_le _, fun x hx => absurd hx List.not_mem_nil⟩
 ·rw [if_neg h]; exact ⟨Nat.zero_le _, fun x hx => absurd hx List.not_mem_nil⟩
theorem ordF_surj (T : List Int) : ∀ m k, k < m → ∃ a, a < m ∧ (ordF T m).getD a 0 = (k : Int)
 | 0, k, h => absurd h (by omega)
 | m + 1, k, h => by
  have hp := pos_le T (ordF T m) m; have hl := (ordF_ord T m).l
  by_cases c : k = m
  ·refine ⟨pos T (ordF T m) m, by omega, ?_⟩
   show (insAt (ordF T m) (pos T (ordF T m) m) (m : Int)).getD _ 0 = _; rw [insAt_get _ _ _ hp, if_neg (by omega), if_pos rfl, c]
  ·obtain ⟨a, ha, e⟩ := ordF_surj T m k (by omega)
   by_cases d : a < pos T (ordF T m) m
   ·refine ⟨a, by omega, ?_⟩
    show (insAt (ordF T m) (pos T (ordF T m) m) (m : Int)).getD _ 0 = _; rw [insAt_get _ _ _ hp, if_pos d, e]
   ·refine ⟨a + 1, by omega, ?_⟩
    show (insAt (ordF T m) (pos T (ordF T m) m) (m : Int)).getD _ 0 = _; rw [insAt_get _ _ _ hp, if_neg (by omega), if_neg (by omega), Nat.add_sub_cancel, e]
theorem mxF_ge (S : List (List Int)) : ∀ j a, a < j → hi S a ≤ mxF S j
 | 0, a, h => absurd h (by omega)
 | j + 1, a, h => by
  show _ ≤ (if j = 0 then hi S 0 else mx (mxF S j) (hi S j))
  by_cases z : j = 0
  ·subst z; rw [if_pos rfl, show a = 0 by omega]; omega
  ·rw [if_neg z]
   by_cases c : a = j
   ·subst c; unfold mx; split <;> omega
   ·have := mxF_ge S j a (by omega)
    unfold mx; split <;> omega
theorem gap_mem {S : List (List Int)} {least : Int} : ∀ i x, x ∈ gapF S least i → ∃ j, 0 < j ∧ j < i ∧ lo S j - mxF S j - 1 ≥ least ∧ x = [mxF S j + 1, lo S j - 1]
 | 0, x, h => absurd h List.not_mem_nil
 | i + 1, x, h => by
  unfold gapF at h
  rw [List.mem_append] at h
  rcases h with h | h
  ·obtain ⟨j, h1, h2, h3⟩ := gap_mem i x h
   exact ⟨j, h1, by omega, h3⟩
  ·by_cases c : 0 < i ∧ lo S i - mxF S i - 1 ≥ least
   ·rw [if_pos c] at h
    exact ⟨i, c.1, by omega, c.2, List.mem_singleton.1 h⟩
   ·rw [if_neg c] at h; exact absurd h List.not_mem_nil
theorem gap_less {S : List (List Int)} {least : Int} (hle : 1 ≤ least) : ∀ i, (gapF S least i).length ≤ (gapF S 1 i).length ∧ ∀ x, x ∈ gapF S least i → x ∈ gapF S 1 i
 | 0 => ⟨Nat.le_refl _, fun x h => h⟩
 | i + 1 => by
  have ih := gap_less (S := S) hle i
  unfold gapF
  by_cases c : 0 < i ∧ lo S i - mxF S i - 1 ≥ least
  ·rw [if_pos c, if_pos (show 0 < i ∧ lo S i - mxF S i - 1 ≥ 1 from ⟨c.1, by have := c.2; omega⟩)]
   refine ⟨by rw [List.length_append, List.length_append]; have := ih.1; omega, fun x h => ?_⟩; rw [List.mem_append] at h ⊢; exact h.imp (ih.2 x) id
  ·rw [if_neg c, List.append_nil, List.length_append]
   exact ⟨by have := ih.1; omega, fun x h => List.mem_append_left _ (ih.2 x h)⟩
theorem gap_dark {W : List (List Int)} (h : Rng W) {j : Nat} (hj0 : 0 < j) (hj : j < W.length) {k : Nat} (hk : k < W.length) : ¬ (rd (rd_L5 W (k : Int)) 0 ≤ lo (srtW W W.length) j - 1 ∧ mxF (srtW W W.length) j + 1 ≤ rd (rd_L5 W (k : Int)) 1) := by
 have ho := ordF_ord (starts W) W.length; obtain ⟨a, ha, e⟩ := ordF_surj (starts W) W.length k hk
 have er : rd_L5 (srtW W W.length) (a : Int) = rd_L5 W (k : Int) := by rw [rdL_srt W W.length ha, e]
 have el : rd (rd_L5 W (k : Int)) 0 = lo (srtW W W.length) a := by unfold lo; rw [er]
 have eh : rd (rd_L5 W (k : Int)) 1 = hi (srtW W W.length) a := by unfold hi; rw [er]
 rw [el, eh]
 by_cases c : a < j
 ·have := mxF_ge (srtW W W.length) j a c
  omega
 ·by_cases d : a = j
  ·subst d; omega
  ·have s := ho.s j a (by omega) ha
   rw [← lo_srt (Nat.le_refl _) hj, ← lo_srt (Nat.le_refl _) ha] at s
   omega
theorem dark_l1 {W G R : List (List Int)} (h : Rng W) {least : Int} {i : Nat} (hi_ : i < G.length) (hG : G.length ≤ 1000) {j : Nat} (hj0 : 0 < j) (hj : j < W.length) (hg : rd_L5 G (i : Int) = [mxF (srtW W W.length) j + 1, lo (srtW W W.length) j - 1]) : ∀ d k, W.length - k = d → k ≤ W.length → ∀ q, laws_FnDark.l1 (q + (d + 1)) least G W R (i : Int) (k : Int) = laws_FnDark.l0 q least G W R ((i + 1 : Nat) : Int) := by
 have hl := h.1; intro d
 induction d with
 | zero =>
  intro k hd hk q; show laws_FnDark.l1 (q + 1) least G W R (i : Int) (k : Int) = _
  unfold laws_FnDark.l1
  rw [if_neg (by omega), w64 (n := (i : Int) + 1) (by omega)]
  rfl
 | succ d ih =>
  intro k hd hk q; have e := ih (k + 1) (by omega) (by omega) q; have hr := (h.2 k (by omega)).1; have hdk := gap_dark h hj0 hj (show k < W.length by omega)
  have hlen : (rd_L5 G (i : Int)).length = 2 := by rw [hg]; rfl
  have h0 : rd (rd_L5 G (i : Int)) 0 = mxF (srtW W W.length) j + 1 := by rw [hg]; rfl
  have h1 : rd (rd_L5 G (i : Int)) 1 = lo (srtW W W.length) j - 1 := by rw [hg]; rfl
  rw [← h0, ← h1] at hdk; rw [show q + (d + 1 + 1) = (q + (d + 1)) + 1 by omega]
  revert e
  generalize q + (d + 1) = f; intro e
  unfold laws_FnDark.l1
  rw [if_pos (by omega), if_pos (by omega), if_pos (by omega), if_pos (by omega), if_pos (by omega), if_pos (by omega), w64 (n := (k : Int) + 1) (by omega)]
  by_cases c : rd (rd_L5 W (k : Int)) 0 ≤ rd (rd_L5 G (i : Int)) 1
  ·rw [if_pos c, if_pos (by omega), if_pos (by omega), if_neg (fun y => hdk ⟨c, y⟩)]; exact e
  ·rw [if_neg c]; exact e
theorem dark_l0 {W : List (List Int)} (h : Rng W) {least : Int} (hle : 1 ≤ least) : ∀ d i, (gapF (srtW W W.length) least W.length).length - i = d → i ≤ (gapF (srtW W W.length) least W.length).length → ∀ k, d * (W.length + 3) + 3000 ≤ k → laws_FnDark.l0 k least (gapF (srtW W W.length) least W.length) W (gapF (srtW W W.length) 1 W.length) (i : Int) = some true := by
 have hl := h.1; have hGl := gapF_len (srtW W W.length) least W.length; have hRl := gapF_len (srtW W W.length) 1 W.length; have hS := srtW_rng h (Nat.le_refl W.length); have hSl := srtW_len W W.length; intro d
 induction d with
 | zero =>
  intro i hd hi_ k hk; obtain ⟨k, rfl⟩ : ∃ m, k = m + 1 := ⟨k - 1, by omega⟩
  unfold laws_FnDark.l0
  rw [if_neg (by omega)]
 | succ d ih =>
  intro i hd hi_ k hk; have hm : (d + 1) * (W.length + 3) = d * (W.length + 3) + (W.length + 3) := Nat.succ_mul _ _; obtain ⟨k, rfl⟩ : ∃ m, k = m + (W.length + 1) + 1 + 1 := ⟨k - (W.length + 1) - 2, by omega⟩; have hx := rdL_mem (W := gapF (srtW W W.length) least W.length) (show i < _ by omega); obtain ⟨j, hj0, hj, hj1, hg⟩ := gap_mem _ _ hx; have e := (dark_l1 (R := gapF (srtW W W.length) 1 W.length) h (least := least) (G := gapF (srtW W W.length) least W.length) (show i < _ by omega) (by omega) hj0 hj hg W.length 0 (by omega) (by omega) k).trans (ih (i + 1) (by omega) (by omega) k (by omega)); have hb := hS.2 j (by omega); have hmx := mxF_range hS j (by omega)
  have hmem : [mxF (srtW W W.length) j + 1, lo (srtW W W.length) j - 1] ∈ gapF (srtW W W.length) 1 W.length := by
   rw [← hg]; exact (gap_less hle W.length).2 _ hx
  have hr : laws_hasRow.f (k + (W.length + 1) + 1) (gapF (srtW W W.length) 1 W.length) (mxF (srtW W W.length) j + 1) (lo (srtW W W.length) j - 1) = some true := by
   rw [has_row_s _ (by omega) _ _ _ (by omega), decide_eq_true hmem]
  have w1 : ∀ _ : Unit, wrap64 (lo (srtW W W.length) j - 1 - (mxF (srtW W W.length) j + 1)) = lo (srtW W W.length) j - 1 - (mxF (srtW W W.length) j + 1) := fun _ => w64 (by omega); have w2 : ∀ _ : Unit, wrap64 (lo (srtW W W.length) j - 1 - (mxF (srtW W W.length) j + 1) + 1) = lo (srtW W W.length) j - 1 - (mxF (srtW W W.length) j + 1) + 1 := fun _ => w64 (by omega)
  unfold laws_FnDark.l0
  rw [hg, rd_0, rd_1, if_pos (by omega), if_pos (by omega), if_pos (by show (1 : Int) < ((2 : Nat) : Int); decide), if_pos (by show (0 : Int) < ((2 : Nat) : Int); decide), w1 (), w2 (), if_neg (by omega), hr, Option.bind_some]
  unfold laws_FnDark.j4
  rw [if_neg (by decide)]; exact e
theorem pure_FnDark : laws_FnDark.Pure := by
 intro c _ _ hb
 by_cases big : (c.length : Int) > 4096
 ·refine ⟨0, ?_⟩
  unfold laws_FnDark.f laws_big.f
  simp only [Option.bind_some, decide_eq_true big, if_true]
 have hc : Code c := code_of big hb; obtain ⟨z, e0, h0⟩ := from_ok hc; obtain ⟨A, B, C, a1, s1, e1, h1, hA, hB, hS, hC⟩ := show_draw hc h0; have hF : Frame 100 A B C := ⟨by omega, by omega, by omega, by decide, hS⟩
 obtain ⟨least, d1⟩ : ∃ least, ∀ k, 36893488147419104010 ≤ k → spec_DrawDarkGaps.f k c = some (A, B, C, least) := by
  obtain ⟨r2, a2, s2, e2, h2, _⟩ := next_ok hc h1 500 (by decide); obtain ⟨r3, a3, s3, e3, h3, _⟩ := pick_ok hc h2 [1, r2, 300, 0, 10000000, 10000001] (by simp) (by simp); refine ⟨r3, fun k hk => ?_⟩
  unfold spec_DrawDarkGaps.f
  rw [e0 k (by omega), Option.bind_some]; dsimp only; rw [e1 k (by omega), Option.bind_some]; dsimp only; rw [e2, Option.bind_some]; dsimp only; rw [e3, Option.bind_some]
 obtain ⟨⟨k1, f1⟩, ⟨k2, f2⟩⟩ := dark_ok 100 hF least; obtain ⟨⟨k3, f3⟩, ⟨k4, f4⟩⟩ := win_ok 100 hF; obtain ⟨_, ⟨k5, f5⟩⟩ := dark_ok 100 hF 1; obtain ⟨K, hK⟩ : ∃ K, K = k1 + k2 + k3 + k4 + k5 + 36893488147419104010 + 3000000 := ⟨_, rfl⟩; refine ⟨K + 1 + 1 + 1, ?_⟩; have hr := darkR_len (A := A) (B := B) (C := C) (least := least); have hw := winR_len (A := A) (B := B) (C := C)
 unfold laws_FnDark.f laws_big.f
 rw [Option.bind_some, decide_eq_false big, if_neg (by decide), d1 _ (by omega), Option.bind_some]; dsimp only; rw [f2 _ (by omega), Option.bind_some, f1 _ (by omega), Option.bind_some, if_pos rfl, like_rows_s _ (by omega) (fun x hx => Nat.le_trans (hr.2 x hx) (by decide)) _ (by omega), Option.bind_some]; clear f1 f2 d1 e0 e1
 have ej : ∀ (k : Nat) (g : List (List Int)) (b : Int), laws_FnDark.j0 (k + 1) least g b (!true) A B C = (if b = 0 then ((impl_WindowsOf.f k A B C).bind fun bt820 => ((spec_WindowsOf.f k A B C).bind fun bt824 => (if bt820.2 = bt824.2 then ((laws_likeRows.f k bt820.1 bt824.1).bind fun t828 => (laws_FnDark.j1 k least g bt820.1 bt820.2 (!t828) A B C)) else (laws_FnDark.j1 k least g bt820.1 bt820.2 true A B C)))) else (some true)) := fun k g b => by
  simp only [laws_FnDark.j0]; rw [if_neg (by decide)]
 rw [ej]
 by_cases g : (darkR A B C least).2 = 0
 ·have hs : isShow A B C = true := by
   cases h : isShow A B C with
   | true => rfl
   | false => unfold darkR at g; rw [h, if_neg (by decide)] at g; exact absurd g (by decide)
  have hle : inB least 1 10000000 = true := by
   cases h : inB least 1 10000000 with
   | true => rfl
   | false => unfold darkR at g; rw [if_pos hs, h, if_neg (by decide)] at g; exact absurd g (by decide)
  have hg := inB_true.1 hle
  have r1 : (darkR A B C least).1 = gapF (srtW (allW A B C C.length) (allW A B C C.length).length) least (allW A B C C.length).length := by unfold darkR; rw [if_pos hs, if_pos hle]
  have r2 : darkR A B C 1 = (gapF (srtW (allW A B C C.length) (allW A B C C.length).length) 1 (allW A B C C.length).length, 0) := by unfold darkR; rw [if_pos hs, if_pos (by decide)]
  have r3 : winR A B C = (allW A B C C.length, 0) := by unfold winR; rw [if_pos hs]
  have f5' : ∀ k, k5 ≤ k → impl_DarkGaps.f k A B C 1 = some (darkR A B C 1) := f5; rw [if_pos g, f4 _ (by omega), Option.bind_some, f3 _ (by omega), Option.bind_some, if_pos rfl, like_rows_s _ (by omega) (fun x hx => Nat.le_trans (hw.2 x hx) (by decide)) _ (by omega), Option.bind_some, r1, r3]
  dsimp only
  have ej1 : ∀ (k : Nat) (g w : List (List Int)), laws_FnDark.j1 (k + 1) least g w 0 (!true) A B C = ((impl_DarkGaps.f k A B C 1).bind fun bt829 => (if (0 : Int) = 0 then (if bt829.2 = 0 then (laws_FnDark.j2 k least g w bt829.1 (decide ((bt829.1.length : Int) < (g.length : Int)))) else (laws_FnDark.j2 k least g w bt829.1 true)) else (laws_FnDark.j2 k least g w bt829.1 true))) := fun k g w => by
   unfold laws_FnDark.j1
   exact if_neg (by decide)
  rw [ej1, f5' _ (by omega), Option.bind_some, r2, if_pos rfl, if_pos rfl]
  dsimp only
  have hW := allW_rng hs; clear r1 r2 r3 f3 f4 f5 f5' hr hw; generalize allW A B C C.length = W at hW ⊢; have hgl := (gap_less (S := srtW W W.length) hg.1 W.length).1; have hGl := gapF_len (srtW W W.length) least W.length; have hWl := hW.1
  have hmul : (gapF (srtW W W.length) least W.length).length * (W.length + 3) ≤ 1003000 := by
   have := Nat.mul_le_mul (show (gapF (srtW W W.length) least W.length).length ≤ 1000 by omega) (show W.length + 3 ≤ 1003 by omega)
   omega
  rw [decide_eq_false (by omega)]
  have ej2 : ∀ (k : Nat) (g w r : List (List Int)), laws_FnDark.j2 (k + 1) least g w r false = laws_FnDark.l0 k least g w r 0 := fun k g w r => by
   unfold laws_FnDark.j2
   exact if_neg (by decide)
  rw [ej2]; exact dark_l0 hW hg.1 (gapF (srtW W W.length) least W.length).length 0 (by omega) (by omega) K (by omega)
 ·rw [if_neg g]
end Go.Proofs.Ytnifblnlpepehaa.F
namespace Go.Proofs.Ytnifblnlpepehaa.Pure
theorem FnDark : Go.Proofs.Ytnifblnlpepehaa.F.laws_FnDark.Pure := Go.Proofs.Ytnifblnlpepehaa.F.pure_FnDark
end Go.Proofs.Ytnifblnlpepehaa.Pure
namespace Go.Proofs.Ytnifblnlpepehaa.F
end Go.Proofs.Ytnifblnlpepehaa.F
