import Derived.Test.YtpkllgmeaoodfaaGlFnExactReadScore
import Derived.Test.YtpkllgmeaoodfaaGq
import Derived.Test.YtpkllgmeaoodfaaGqBarS
import Derived.Test.YtpkllgmeaoodfaaFspecReadScore
import Derived.Test.YtpkllgmeaoodfaaFimplReadScore
import Derived.Test.YtpkllgmeaoodfaaFlawsTBar
import Derived.Test.YtpkllgmeaoodfaaGvsplit
import Derived.Test.YtpkllgmeaoodfaaGvread
import Derived.Test.YtpkllgmeaoodfaaGvscore
import Derived.Test.YtpkllgmeaoodfaaFspec0l01Numbers
namespace Go.Proofs.Ytpkllgmeaoodfaa.F
open Go.RowKit Go.Proofs.YtpkllgmeaoodfaaW.PrintWords Go.Proofs.YtpkllgmeaoodfaaW.PrintLast Go.Proofs.YtpkllgmeaoodfaaW.PrintMore
set_option linter.unusedVariables false
set_option linter.unusedSimpArgs false
/-- the words of a piece, as the reference reads them -/
theorem numbers_go (ts : List ByteArray) (ht : ts.length ≤ 1000002) : ∀ (d i : Nat) (acc : List Int), ts.length - i = d → i ≤ ts.length → acc.length = i →
    ∃ (ns : List Int) (ok : Bool), (∀ k, d + 63 ≤ k → spec_l01Numbers.l0 k ts acc (i : Int) = some (ns, ok)) ∧ (ok = true → ns.length = ts.length ∧ (∀ j, j < i → ns.getD j 0 = acc.getD j 0) ∧ (∀ j, i ≤ j → j < ts.length → ∀ k, 62 ≤ k → spec_l01Signed.f k (ts.getD j ByteArray.empty) = some (ns.getD j 0, true))) ∧ (ok = false → ∃ j, i ≤ j ∧ j < ts.length ∧ ∃ v, ∀ k, 62 ≤ k → spec_l01Signed.f k (ts.getD j ByteArray.empty) = some (v, false)) := by
  intro d
  induction d with
  | zero =>
    intro i acc hd hi ha
    refine ⟨acc, true, fun k hk => ?_, fun _ => ⟨by omega, fun _ _ => rfl, fun j h1 h2 => absurd h2 (by omega)⟩, (fun h => by cases h)⟩
    obtain ⟨k, rfl⟩ : ∃ m, k = m + 1 := ⟨k - 1, by omega⟩
    unfold spec_l01Numbers.l0
    rw [if_neg (by omega)]
  | succ d ih =>
    intro i acc hd hi ha
    have hr : rdOf ByteArray.empty ts (i : Int) = ts.getD i ByteArray.empty := by unfold rdOf; rw [Int.toNat_natCast]
    have hw : wrap64 ((i : Int) + 1) = ((i + 1 : Nat) : Int) := w64 (by omega)
    obtain ⟨v, ok, v', ok', h1, h2, h3, h4⟩ := word_is (ts.getD i ByteArray.empty)
    cases ok with
    | false =>
      refine ⟨[], false, fun k hk => ?_, (fun h => by cases h), fun _ => ⟨i, by omega, by omega, v, h1⟩⟩
      obtain ⟨k, rfl⟩ : ∃ m, k = m + 1 := ⟨k - 1, by omega⟩
      unfold spec_l01Numbers.l0
      rw [hr, if_pos (by omega), if_pos (by omega), h1 k (by omega)]
      rfl
    | true =>
      obtain ⟨ns, ok, e1, e2, e3⟩ := ih (i + 1) (acc ++ [v]) (by omega) (by omega) (by rw [List.length_append, List.length_singleton]; omega)
      refine ⟨ns, ok, fun k hk => ?_, fun h => ?_, fun h => ?_⟩
      · obtain ⟨k, rfl⟩ : ∃ m, k = m + 1 := ⟨k - 1, by omega⟩
        unfold spec_l01Numbers.l0
        rw [hr, if_pos (by omega), if_pos (by omega), h1 k (by omega)]
        simp only [Option.bind_some, if_true]
        rw [if_pos (by omega), hw]
        exact e1 k (by omega)
      · obtain ⟨a, b, c⟩ := e2 h
        refine ⟨a, fun j hj => ?_, fun j h5 h6 => ?_⟩
        · rw [b j (by omega), List.getD_eq_getElem?_getD, List.getD_eq_getElem?_getD, List.getElem?_append_left (by omega)]
        · by_cases e : j = i
          · subst e
            have := b j (by omega)
            rw [List.getD_eq_getElem?_getD (l := acc ++ [v]), List.getElem?_append_right (by omega), ha] at this
            rw [this]
            simpa using h1
          · exact c j (by omega) h6
      · obtain ⟨j, a, b, c⟩ := e3 h
        exact ⟨j, by omega, b, c⟩
/-- a piece: the reference reads a bar or none; the program the same, or it reads a bar that no score may hold -/
theorem piece_is (w : ByteArray) (hw : w.size ≤ 1000000) : ∃ (ts : List ByteArray) (ns : List Int) (ok : Bool), (∀ k, w.size + 3 ≤ k → spec_l01Split.f k w 42 = some ts) ∧ (∀ k, w.size + 3 ≤ k → impl_splitAt.f k w 42 = some ts) ∧ (∀ k, w.size + 100 ≤ k → spec_l01Numbers.f k ts = some (ns, ok)) ∧
    (ok = true → ns.length = ts.length) ∧ (ts.length = 2 → ∃ v1 o1 v2 o2, (∀ k, 62 ≤ k → impl_readDecimal.f k (rdOf ByteArray.empty ts 0) = some (v1, o1)) ∧ (∀ k, 62 ≤ k → impl_readDecimal.f k (rdOf ByteArray.empty ts 1) = some (v2, o2)) ∧
      (ok = true → o1 = true ∧ o2 = true ∧ v1 = rd ns 0 ∧ v2 = rd ns 1) ∧ (ok = false → o1 = false ∨ o2 = false ∨ v1 < -5000 ∨ 5000 < v1 ∨ v2 < -5000 ∨ 5000 < v2)) := by
  obtain ⟨ts, p1, p2, p3, p4⟩ := split_is w 42 hw
  obtain ⟨ns, ok, e1, e2, e3⟩ := numbers_go ts (by omega) ts.length 0 [] (by omega) (by omega) rfl
  refine ⟨ts, ns, ok, p3, p4, fun k hk => e1 k (by omega), fun h => (e2 h).1, fun h2 => ?_⟩
  have r0 : rdOf ByteArray.empty ts 0 = ts.getD 0 ByteArray.empty := rfl
  have r1 : rdOf ByteArray.empty ts 1 = ts.getD 1 ByteArray.empty := rfl
  obtain ⟨v, o, v1, o1, a1, a2, a3, a4⟩ := word_is (ts.getD 0 ByteArray.empty)
  obtain ⟨u, q, v2, o2, b1, b2, b3, b4⟩ := word_is (ts.getD 1 ByteArray.empty)
  refine ⟨v1, o1, v2, o2, fun k hk => by rw [r0]; exact a2 k hk, fun k hk => by rw [r1]; exact b2 k hk, fun h => ?_, fun h => ?_⟩
  · obtain ⟨_, _, c⟩ := e2 h
    have c0 := (a1 62 (by omega)).symm.trans (c 0 (by omega) (by omega) 62 (by omega))
    have c1 := (b1 62 (by omega)).symm.trans (c 1 (by omega) (by omega) 62 (by omega))
    simp only [Option.some.injEq, Prod.mk.injEq] at c0 c1
    exact ⟨(a3 c0.2).1, (b3 c1.2).1, (a3 c0.2).2.trans c0.1, (b3 c1.2).2.trans c1.1⟩
  · obtain ⟨j, _, hj, x, c⟩ := e3 h
    rcases Nat.lt_or_ge j 1 with g | g
    · have : j = 0 := by omega
      subst this
      have c0 := (a1 62 (by omega)).symm.trans (c 62 (by omega))
      simp only [Option.some.injEq, Prod.mk.injEq] at c0
      rcases a4 c0.2 with r | r | r
      · exact .inl r
      · exact .inr (.inr (.inl r))
      · exact .inr (.inr (.inr (.inl r)))
    · have : j = 1 := by omega
      subst this
      have c0 := (b1 62 (by omega)).symm.trans (c 62 (by omega))
      simp only [Option.some.injEq, Prod.mk.injEq] at c0
      rcases b4 c0.2 with r | r | r
      · exact .inr (.inl r)
      · exact .inr (.inr (.inr (.inr (.inl r))))
      · exact .inr (.inr (.inr (.inr (.inr r))))
def badBar (x : S72) : Prop := ¬ (1 ≤ x.f0 ∧ x.f0 ≤ 5000 ∧ 1 ≤ x.f1 ∧ x.f1 ≤ 5000)
theorem bad_score {xs : List S72} (h : ∃ x ∈ xs, badBar x) : isScore xs = false := by
  rw [Bool.eq_false_iff]
  intro hs
  obtain ⟨_, _, h3⟩ := isScore_true hs
  obtain ⟨x, hx, hb⟩ := h
  obtain ⟨i, hi, rfl⟩ := List.getElem_of_mem hx
  have := h3 i hi
  unfold bt_at ln_at at this
  rw [List.getD_eq_getElem?_getD, List.getElem?_eq_getElem hi] at this
  exact hb (by simp only [Option.getD_some] at this; omega)
theorem long_score {xs : List S72} (h : 20 < xs.length) : isScore xs = false := by
  rw [Bool.eq_false_iff]
  intro hs
  have := isScore_true hs
  omega
theorem read_bad (B : Nat) (hB : B ≤ 1000000) (ps : List ByteArray) (hp : ps.length ≤ 1000001) (hs : ∀ x ∈ ps, x.size ≤ B) : ∀ (d i : Nat) (Y : List S72), ps.length - i = d → i ≤ ps.length → Y.length ≤ 20 → (∃ x ∈ Y, badBar x) → ∀ k, d + B + 200 ≤ k → impl_ReadScore.l0 k Y ps (ps.length : Int) (i : Int) = some ([], 6) := by
  intro d
  induction d with
  | zero =>
    intro i Y hd hi hY hb k hk
    obtain ⟨k, rfl⟩ : ∃ m, k = m + 1 := ⟨k - 1, by omega⟩
    unfold impl_ReadScore.l0
    rw [if_neg (by omega), impl_score Y (by omega) k (by omega), bad_score hb]
    rfl
  | succ d ih =>
    intro i Y hd hi hY hb k hk
    obtain ⟨k, rfl⟩ : ∃ m, k = m + 1 := ⟨k - 1, by omega⟩
    have hr : rdOf ByteArray.empty ps (i : Int) = ps.getD i ByteArray.empty := by unfold rdOf; rw [Int.toNat_natCast]
    have hw : wrap64 ((i : Int) + 1) = ((i + 1 : Nat) : Int) := w64 (by omega)
    have hm : (ps.getD i ByteArray.empty).size ≤ B := by
      rw [List.getD_eq_getElem?_getD, List.getElem?_eq_getElem (show i < ps.length by omega)]
      exact hs _ (List.getElem_mem _)
    obtain ⟨ts, ns, ok, p1, p2, p3, p4, p5⟩ := piece_is (ps.getD i ByteArray.empty) (by omega)
    unfold impl_ReadScore.l0
    rw [hr, if_pos (by omega), if_pos (by omega), if_pos (by omega), p2 k (by omega)]
    simp only [Option.bind_some]
    by_cases c : (ts.length : Int) = 2
    · obtain ⟨v1, o1, v2, o2, q1, q2, q3, q4⟩ := p5 (by omega)
      rw [if_pos c, if_pos (by omega), q1 k (by omega)]
      simp only [Option.bind_some]
      rw [if_pos (by omega), q2 k (by omega)]
      simp only [Option.bind_some]
      cases o1 with
      | false => rfl
      | true =>
        cases o2 with
        | false => rfl
        | true =>
          simp only [if_true]
          by_cases l : (Y.length : Int) = 20
          · rw [if_pos l]
          · rw [if_neg l, if_pos (by omega), hw]
            obtain ⟨x, hx, hbx⟩ := hb
            exact ih (i + 1) _ (by omega) (by omega) (by rw [List.length_append, List.length_singleton]; omega) ⟨x, List.mem_append.2 (.inl hx), hbx⟩ k (by omega)
    · rw [if_neg c]
theorem read_long (B : Nat) (hB : B ≤ 1000000) (ps : List ByteArray) (hp : ps.length ≤ 1000001) (hs : ∀ x ∈ ps, x.size ≤ B) : ∀ (d i : Nat) (X : List S72), ps.length - i = d → i ≤ ps.length → X.length ≤ i → 20 < X.length + (ps.length - i) → 20 ≤ X.length → ∀ k, d + X.length + B + 1000300 ≤ k + i → spec_ReadScore.l0 k X ps (i : Int) = some ([], 6) := by
  intro d
  induction d with
  | zero =>
    intro i X hd hi hX h1 h2 k hk
    obtain ⟨k, rfl⟩ : ∃ m, k = m + 1 := ⟨k - 1, by omega⟩
    unfold spec_ReadScore.l0
    rw [if_neg (by omega)]
    rw [spec_score X (by omega) k (by omega), long_score (by omega)]
    rfl
  | succ d ih =>
    intro i X hd hi hX h1 h2 k hk
    obtain ⟨k, rfl⟩ : ∃ m, k = m + 1 := ⟨k - 1, by omega⟩
    have hr : rdOf ByteArray.empty ps (i : Int) = ps.getD i ByteArray.empty := by unfold rdOf; rw [Int.toNat_natCast]
    have hw : wrap64 ((i : Int) + 1) = ((i + 1 : Nat) : Int) := w64 (by omega)
    have hm : (ps.getD i ByteArray.empty).size ≤ B := by
      rw [List.getD_eq_getElem?_getD, List.getElem?_eq_getElem (show i < ps.length by omega)]
      exact hs _ (List.getElem_mem _)
    obtain ⟨ts, ns, ok, p1, p2, p3, p4, p5⟩ := piece_is (ps.getD i ByteArray.empty) (by omega)
    unfold spec_ReadScore.l0
    rw [hr, if_pos (by omega), if_pos (by omega), p1 k (by omega)]
    simp only [Option.bind_some]
    rw [p3 k (by omega)]
    simp only [Option.bind_some]
    cases ok with
    | false => rfl
    | true =>
      simp only [if_true]
      by_cases c : (ns.length : Int) = 2
      · rw [if_pos c, if_pos (by omega), if_pos (by omega), if_pos (by omega), hw]
        exact ih (i + 1) _ (by omega) (by omega) (by rw [List.length_append, List.length_singleton]; omega) (by rw [List.length_append, List.length_singleton]; omega) (by rw [List.length_append, List.length_singleton]; omega) k (by rw [List.length_append, List.length_singleton]; omega)
      · rw [if_neg c]
theorem read_go (B : Nat) (hB : B ≤ 1000000) (ps : List ByteArray) (hp : ps.length ≤ 1000001) (hs : ∀ x ∈ ps, x.size ≤ B) : ∀ (d i : Nat) (X : List S72), ps.length - i = d → i ≤ ps.length → X.length = i → X.length ≤ 20 →
    ∃ (q1 : List S72) (q2 : Int), q1.length ≤ 20 ∧ (∀ k, 3000000 + B + d ≤ k → spec_ReadScore.l0 k X ps (i : Int) = some (q1, q2)) ∧ (∀ k, 3000000 + B + d ≤ k → impl_ReadScore.l0 k X ps (ps.length : Int) (i : Int) = some (q1, q2)) := by
  intro d
  induction d with
  | zero =>
    intro i X hd hi hX hl
    cases h : isScore X with
    | false =>
      refine ⟨[], 6, by simp, fun k hk => ?_, fun k hk => ?_⟩
      · obtain ⟨k, rfl⟩ : ∃ m, k = m + 1 := ⟨k - 1, by omega⟩
        unfold spec_ReadScore.l0
        rw [if_neg (by omega), spec_score X (by omega) k (by omega), h]
        rfl
      · obtain ⟨k, rfl⟩ : ∃ m, k = m + 1 := ⟨k - 1, by omega⟩
        unfold impl_ReadScore.l0
        rw [if_neg (by omega), impl_score X (by omega) k (by omega), h]
        rfl
    | true =>
      refine ⟨X, 0, hl, fun k hk => ?_, fun k hk => ?_⟩
      · obtain ⟨k, rfl⟩ : ∃ m, k = m + 1 := ⟨k - 1, by omega⟩
        unfold spec_ReadScore.l0
        rw [if_neg (by omega), spec_score X (by omega) k (by omega), h]
        rfl
      · obtain ⟨k, rfl⟩ : ∃ m, k = m + 1 := ⟨k - 1, by omega⟩
        unfold impl_ReadScore.l0
        rw [if_neg (by omega), impl_score X (by omega) k (by omega), h]
        rfl
  | succ d ih =>
    intro i X hd hi hX hl
    have hr : rdOf ByteArray.empty ps (i : Int) = ps.getD i ByteArray.empty := by unfold rdOf; rw [Int.toNat_natCast]
    have hw : wrap64 ((i : Int) + 1) = ((i + 1 : Nat) : Int) := w64 (by omega)
    have hm : (ps.getD i ByteArray.empty).size ≤ B := by
      rw [List.getD_eq_getElem?_getD, List.getElem?_eq_getElem (show i < ps.length by omega)]
      exact hs _ (List.getElem_mem _)
    obtain ⟨ts, ns, ok, p1, p2, p3, p4, p5⟩ := piece_is (ps.getD i ByteArray.empty) (by omega)
    by_cases c : ts.length = 2
    · obtain ⟨v1, o1, v2, o2, r1, r2, r3, r4⟩ := p5 c
      cases ok with
      | true =>
        obtain ⟨rfl, rfl, rfl, rfl⟩ := r3 rfl
        have hn := p4 rfl
        by_cases l : X.length = 20
        · refine ⟨[], 6, by simp, fun k hk => ?_, fun k hk => ?_⟩
          · exact read_long B hB ps hp hs (d + 1) i X hd hi (by omega) (by omega) (by omega) k (by omega)
          · obtain ⟨k, rfl⟩ : ∃ m, k = m + 1 := ⟨k - 1, by omega⟩
            unfold impl_ReadScore.l0
            rw [hr, if_pos (by omega), if_pos (by omega), if_pos (by omega), p2 k (by omega)]
            simp only [Option.bind_some]
            rw [if_pos (by omega), if_pos (by omega), r1 k (by omega)]
            simp only [Option.bind_some]
            rw [if_pos (by omega), r2 k (by omega)]
            simp only [Option.bind_some, if_true]
            rw [if_pos (by omega)]
        · obtain ⟨q1, q2, e0, e1, e2⟩ := ih (i + 1) (X ++ [(⟨rd ns 0, rd ns 1⟩ : S72)]) (by omega) (by omega) (by rw [List.length_append, List.length_singleton]; omega) (by rw [List.length_append, List.length_singleton]; omega)
          refine ⟨q1, q2, e0, fun k hk => ?_, fun k hk => ?_⟩
          · obtain ⟨k, rfl⟩ : ∃ m, k = m + 1 := ⟨k - 1, by omega⟩
            unfold spec_ReadScore.l0
            rw [hr, if_pos (by omega), if_pos (by omega), p1 k (by omega)]
            simp only [Option.bind_some]
            rw [p3 k (by omega)]
            simp only [Option.bind_some, if_true]
            rw [if_pos (by omega), if_pos (by omega), if_pos (by omega), if_pos (by omega), hw]
            exact e1 k (by omega)
          · obtain ⟨k, rfl⟩ : ∃ m, k = m + 1 := ⟨k - 1, by omega⟩
            unfold impl_ReadScore.l0
            rw [hr, if_pos (by omega), if_pos (by omega), if_pos (by omega), p2 k (by omega)]
            simp only [Option.bind_some]
            rw [if_pos (by omega), if_pos (by omega), r1 k (by omega)]
            simp only [Option.bind_some]
            rw [if_pos (by omega), r2 k (by omega)]
            simp only [Option.bind_some, if_true]
            rw [if_neg (by omega), if_pos (by omega), hw]
            exact e2 k (by omega)
      | false =>
        refine ⟨[], 6, by simp, fun k hk => ?_, fun k hk => ?_⟩
        · obtain ⟨k, rfl⟩ : ∃ m, k = m + 1 := ⟨k - 1, by omega⟩
          unfold spec_ReadScore.l0
          rw [hr, if_pos (by omega), if_pos (by omega), p1 k (by omega)]
          simp only [Option.bind_some]
          rw [p3 k (by omega)]
          rfl
        · obtain ⟨k, rfl⟩ : ∃ m, k = m + 1 := ⟨k - 1, by omega⟩
          have r5 := r4 rfl
          unfold impl_ReadScore.l0
          rw [hr, if_pos (by omega), if_pos (by omega), if_pos (by omega), p2 k (by omega)]
          simp only [Option.bind_some]
          rw [if_pos (by omega), if_pos (by omega), r1 k (by omega)]
          simp only [Option.bind_some]
          rw [if_pos (by omega), r2 k (by omega)]
          simp only [Option.bind_some]
          cases o1 with
          | false => rfl
          | true =>
            cases o2 with
            | false => rfl
            | true =>
              simp only [if_true]
              by_cases l : (X.length : Int) = 20
              · rw [if_pos l]
              · rw [if_neg l, if_pos (by omega), hw]
                refine read_bad B hB ps hp hs d (i + 1) _ (by omega) (by omega) (by rw [List.length_append, List.length_singleton]; omega) ⟨⟨v1, v2⟩, List.mem_append.2 (.inr (List.mem_singleton.2 rfl)), ?_⟩ k (by omega)
                unfold badBar
                simp only [Bool.true_eq_false, false_or] at r5
                show ¬ (1 ≤ v1 ∧ v1 ≤ 5000 ∧ 1 ≤ v2 ∧ v2 ≤ 5000)
                omega
    · refine ⟨[], 6, by simp, fun k hk => ?_, fun k hk => ?_⟩
      · obtain ⟨k, rfl⟩ : ∃ m, k = m + 1 := ⟨k - 1, by omega⟩
        unfold spec_ReadScore.l0
        rw [hr, if_pos (by omega), if_pos (by omega), p1 k (by omega)]
        simp only [Option.bind_some]
        rw [p3 k (by omega)]
        cases ok with
        | false => rfl
        | true =>
          have := p4 rfl
          simp only [Option.bind_some, if_true]
          rw [if_neg (by omega)]
      · obtain ⟨k, rfl⟩ : ∃ m, k = m + 1 := ⟨k - 1, by omega⟩
        unfold impl_ReadScore.l0
        rw [hr, if_pos (by omega), if_pos (by omega), if_pos (by omega), p2 k (by omega)]
        simp only [Option.bind_some]
        rw [if_neg (by omega)]
theorem main_FnExactReadScore (a0 : ByteArray) (ha : a0.size ≤ 1000000) : ∃ q1 q2, q1.length ≤ 3000000 ∧ Evt (fun k => spec_ReadScore.f k a0 = some (q1, q2)) ∧ Evt (fun k => impl_ReadScore.f k a0 = some (q1, q2)) := by
  obtain ⟨ps, p1, p2, p3, p4⟩ := split_is a0 44 ha
  obtain ⟨q1, q2, e0, e1, e2⟩ := read_go a0.size ha ps (by omega) p2 ps.length 0 [] (by omega) (by omega) rfl (by simp)
  refine ⟨q1, q2, by omega, ⟨3000000 + a0.size + ps.length, fun k hk => ?_⟩, ⟨3000000 + a0.size + ps.length, fun k hk => ?_⟩⟩
  · show spec_ReadScore.f k a0 = _
    unfold spec_ReadScore.f
    rw [p3 k (by omega)]
    exact e1 k hk
  · show impl_ReadScore.f k a0 = _
    unfold impl_ReadScore.f
    rw [p4 k (by omega)]
    exact e2 k hk
theorem pure_FnExactReadScore : Pure_FnExactReadScore := by
  intro a0 b0
  by_cases z90 : (a0.size : Int) > 1000000
  · exact ⟨0, Or.inl z90⟩
  obtain ⟨q1, q2, ql, sp, im⟩ := main_FnExactReadScore a0 (by omega)
  have er := eq_BarS q1 (by omega)
  have mg := mark_BarS q1 101 (by omega) (by omega) (by omega)
  have hd := held_BarS q1.length 101 (by omega) (by omega) (by omega)
  obtain ⟨k, hsp, him, her, hmg, hhd⟩ := (sp.and (im.and (er.and (mg.and hd)))).ex
  exact ⟨k, Or.inr ⟨z90, ⟨q1, q2, _, _, { sp := hsp, im := him, er := her, mg := hmg, mg0 := (by omega), hd := hhd, hl := seq_BarS_len _ _ }⟩⟩⟩

end Go.Proofs.Ytpkllgmeaoodfaa.F
