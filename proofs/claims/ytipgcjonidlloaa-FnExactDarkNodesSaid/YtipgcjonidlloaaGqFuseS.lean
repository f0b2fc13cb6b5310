import Derived.Test.YtipgcjonidlloaaGq
import Derived.Test.YtipgcjonidlloaaGtFuseS
import Derived.Test.YtipgcjonidlloaaFlawsTFuse
namespace Go.Proofs.Ytipgcjonidlloaa.F
open Go.RowKit Go.Proofs.YtipgcjonidlloaaW.PrintWords Go.Proofs.YtipgcjonidlloaaW.PrintLast Go.Proofs.YtipgcjonidlloaaW.PrintMore
set_option linter.unusedVariables false
set_option linter.unusedSimpArgs false

/-! ### FuseS -/
def conv_FuseS (x : S46) : S44 := ⟨x.f0, x.f1, x.f2, x.f3⟩
theorem full_FuseS_l1 (d : Nat) : ∀ (k : Nat) (x0 : List S46) (x5 : List S44) (i : Nat), x5.length - i = d → x0.length ≤ i → i ≤ x5.length → x5.length ≤ 4000000 → d < k →
    full_toFuseS.l1 k x0 x5 (i : Int) = some (x5.take i ++ List.replicate d (⟨(-7000000000000000101), (-7000000000000000101), (-7000000000000000101), (-7000000000000000101)⟩ : S44)) := by
  induction d with
  | zero =>
    intro k x0 x5 i hd h1 h2 h3 hk
    obtain ⟨k, rfl⟩ : ∃ m, k = m + 1 := ⟨k - 1, by omega⟩
    simp only [full_toFuseS.l1]
    rw [if_neg (by omega), if_pos (by omega), if_pos (by omega), List.take_of_length_le (by omega)]
    simp
  | succ d ih =>
    intro k x0 x5 i hd h1 h2 h3 hk
    obtain ⟨k, rfl⟩ : ∃ m, k = m + 1 := ⟨k - 1, by omega⟩
    have hr := ih k x0 (x5.set i (⟨(-7000000000000000101), (-7000000000000000101), (-7000000000000000101), (-7000000000000000101)⟩ : S44)) (i + 1) (by rw [List.length_set]; omega) (by omega) (by rw [List.length_set]; omega) (by rw [List.length_set]; omega) (by omega)
    rw [take_set_snoc _ _ _ (by omega), List.append_assoc, List.singleton_append, ← List.replicate_succ] at hr
    rw [← hr]
    simp only [full_toFuseS.l1, laws_fillerFuse.f, Option.bind_some]
    rw [if_pos (by omega)]
    rw [if_pos (by omega), w64 (by omega)]
    rfl
theorem full_FuseS_l0 (d : Nat) : ∀ (k : Nat) (x0 : List S46) (x5 : List S44) (i : Nat), x0.length - i = d → i ≤ x0.length → x0.length ≤ x5.length → x5.length ≤ 4000000 → x5.take i = (x0.take i).map conv_FuseS → d + x5.length + 1 < k →
    full_toFuseS.l0 k x0 x5 (i : Int) = some (x0.map conv_FuseS ++ List.replicate (x5.length - x0.length) (⟨(-7000000000000000101), (-7000000000000000101), (-7000000000000000101), (-7000000000000000101)⟩ : S44)) := by
  induction d with
  | zero =>
    intro k x0 x5 i hd h1 h2 h3 h4 hk
    obtain ⟨k, rfl⟩ : ∃ m, k = m + 1 := ⟨k - 1, by omega⟩
    simp only [full_toFuseS.l0]
    rw [if_neg (by omega), full_FuseS_l1 (x5.length - x0.length) k x0 x5 x0.length rfl (Nat.le_refl _) h2 h3 (by omega)]
    have e : i = x0.length := by omega
    subst e
    rw [h4, List.take_length]
  | succ d ih =>
    intro k x0 x5 i hd h1 h2 h3 h4 hk
    obtain ⟨k, rfl⟩ : ∃ m, k = m + 1 := ⟨k - 1, by omega⟩
    have hi : i < x0.length := by omega
    have h5 : (x5.set i (conv_FuseS x0[i])).take (i + 1) = (x0.take (i + 1)).map conv_FuseS := by
      rw [take_set_snoc _ _ _ (by omega), h4, List.take_succ_eq_append_getElem hi, List.map_append]; rfl
    have hr := ih k x0 (x5.set i (conv_FuseS x0[i])) (i + 1) (by omega) (by omega) (by rw [List.length_set]; omega) (by rw [List.length_set]; omega) h5 (by rw [List.length_set]; omega)
    rw [List.length_set] at hr
    rw [← hr]
    simp only [full_toFuseS.l0, laws_toFuse.f, Option.bind_some]
    rw [if_pos (by omega), if_pos (by omega)]
    rw [if_pos (by omega), w64 (by omega), rd_T46, getD_at _ _ _ hi]
    rfl
theorem to_FuseS_l1 (d : Nat) : ∀ (k : Nat) (x0 : List S46) (x5 : List S44) (i : Nat), x5.length - i = d → x0.length ≤ i → i ≤ x5.length → x5.length ≤ 4000000 → d < k →
    laws_toFuseS.l1 k x0 x5 (i : Int) = some (x5.take x0.length) := by
  induction d with
  | zero =>
    intro k x0 x5 i hd h1 h2 h3 hk
    obtain ⟨k, rfl⟩ : ∃ m, k = m + 1 := ⟨k - 1, by omega⟩
    simp only [laws_toFuseS.l1]; rw [if_neg (by omega), if_pos (by omega), if_pos (by omega), Int.toNat_natCast]
  | succ d ih =>
    intro k x0 x5 i hd h1 h2 h3 hk
    obtain ⟨k, rfl⟩ : ∃ m, k = m + 1 := ⟨k - 1, by omega⟩
    have hr := ih k x0 (x5.set i (⟨(-7000000000000000101), (-7000000000000000101), (-7000000000000000101), (-7000000000000000101)⟩ : S44)) (i + 1) (by rw [List.length_set]; omega) (by omega) (by rw [List.length_set]; omega) (by rw [List.length_set]; omega) (by omega)
    rw [take_set_ge _ _ _ _ h1] at hr
    rw [← hr]
    simp only [laws_toFuseS.l1, laws_fillerFuse.f, Option.bind_some]
    rw [if_pos (by omega)]
    rw [if_pos (by omega), w64 (by omega)]
    rfl
theorem to_FuseS_l0 (d : Nat) : ∀ (k : Nat) (x0 : List S46) (x5 : List S44) (i : Nat), x0.length - i = d → i ≤ x0.length → x0.length ≤ x5.length → x5.length ≤ 4000000 → x5.take i = (x0.take i).map conv_FuseS → d + x5.length + 1 < k →
    laws_toFuseS.l0 k x0 x5 (i : Int) = some (x0.map conv_FuseS) := by
  induction d with
  | zero =>
    intro k x0 x5 i hd h1 h2 h3 h4 hk
    obtain ⟨k, rfl⟩ : ∃ m, k = m + 1 := ⟨k - 1, by omega⟩
    simp only [laws_toFuseS.l0]
    rw [if_neg (by omega), to_FuseS_l1 (x5.length - x0.length) k x0 x5 x0.length rfl (Nat.le_refl _) h2 h3 (by omega)]
    have e : i = x0.length := by omega
    subst e
    rw [h4, List.take_length]
  | succ d ih =>
    intro k x0 x5 i hd h1 h2 h3 h4 hk
    obtain ⟨k, rfl⟩ : ∃ m, k = m + 1 := ⟨k - 1, by omega⟩
    have hi : i < x0.length := by omega
    have h5 : (x5.set i (conv_FuseS x0[i])).take (i + 1) = (x0.take (i + 1)).map conv_FuseS := by
      rw [take_set_snoc _ _ _ (by omega), h4, List.take_succ_eq_append_getElem hi, List.map_append]; rfl
    have hr := ih k x0 (x5.set i (conv_FuseS x0[i])) (i + 1) (by omega) (by omega) (by rw [List.length_set]; omega) (by rw [List.length_set]; omega) h5 (by rw [List.length_set]; omega)
    rw [← hr]
    simp only [laws_toFuseS.l0, laws_toFuse.f, Option.bind_some]
    rw [if_pos (by omega), if_pos (by omega)]
    rw [if_pos (by omega), w64 (by omega), rd_T46, getD_at _ _ _ hi]
    rfl
/-- what the laws' copies are: a whole row whose first elements are the argument's -/
theorem to_FuseS (l : List S46) (hl : l.length ≤ 1000000) : ∃ (L : List S44) (t : Int), L ≠ [] ∧ (l.map conv_FuseS = L.take l.length ∧ l.length ≤ L.length) ∧ (l.map conv_FuseS).length = l.length ∧ L.length ≤ 2000001 ∧
    laws_roomBehind.f ((l.map conv_FuseS).length : Int) = some t ∧ wrap64 (((l.map conv_FuseS).length : Int) + t) = (L.length : Int) ∧
    Evt (fun k => full_toFuseS.f k l false = some L) ∧ Evt (fun k => laws_toFuseS.f k l true = some (l.map conv_FuseS)) := by
  obtain ⟨t, ht, h0, h1, h2⟩ := room_some l.length
  have hw : wrap64 ((l.length : Int) + t) = (l.length : Int) + t := w64 (by omega)
  have hn : ((l.length : Int) + t).toNat = l.length + t.toNat := by omega
  have hm : (l.map conv_FuseS).length = l.length := List.length_map _
  have hlen : (l.map conv_FuseS ++ List.replicate (l.length + t.toNat - l.length) (⟨(-7000000000000000101), (-7000000000000000101), (-7000000000000000101), (-7000000000000000101)⟩ : S44)).length = l.length + t.toNat := by rw [List.length_append, List.length_replicate, hm]; omega
  refine ⟨l.map conv_FuseS ++ List.replicate (l.length + t.toNat - l.length) (⟨(-7000000000000000101), (-7000000000000000101), (-7000000000000000101), (-7000000000000000101)⟩ : S44), t, ?_, ⟨?_, by omega⟩, hm, by omega, by rw [hm]; exact ht, by rw [hm, hw, hlen]; omega, ?_, ?_⟩
  · intro e
    rw [e] at hlen
    simp at hlen
    have := h2 (by omega)
    omega
  · rw [← hm, List.take_left]
  · refine Evt.succ ⟨l.length + (l.length + t.toNat) + 2, fun k hk => ?_⟩
    show full_toFuseS.f (k + 1) l false = _
    unfold full_toFuseS.f
    rw [if_neg (by decide)]
    simp only [full_toFuseS.j0]
    rw [if_neg (by decide), ht]
    simp only [Option.bind_some]
    rw [hw, if_pos (by omega), hn, if_pos (by omega)]
    have z := full_FuseS_l0 l.length k l (List.replicate (l.length + t.toNat) z44) 0 (by omega) (by omega) (by rw [List.length_replicate]; omega) (by rw [List.length_replicate]; omega) (by simp) (by rw [List.length_replicate]; omega)
    rw [List.length_replicate] at z
    exact z
  · refine Evt.succ ⟨l.length + (l.length + t.toNat) + 2, fun k hk => ?_⟩
    show laws_toFuseS.f (k + 1) l true = _
    unfold laws_toFuseS.f
    rw [if_pos rfl]
    simp only [laws_toFuseS.j0]
    by_cases e : l.length = 0
    · have e2 : l = [] := List.length_eq_zero_iff.mp e
      subst e2
      rfl
    · have e3 : ((l.length : Int) == 0) = false := by rw [beq_eq_false_iff_ne]; omega
      rw [e3, if_neg (by decide), ht]
      simp only [Option.bind_some]
      rw [hw, if_pos (by omega), hn, if_pos (by omega)]
      exact to_FuseS_l0 l.length k l (List.replicate (l.length + t.toNat) z44) 0 (by omega) (by omega) (by rw [List.length_replicate]; omega) (by rw [List.length_replicate]; omega) (by simp) (by rw [List.length_replicate]; omega)
theorem eq_FuseS_l0 (d : Nat) : ∀ (k : Nat) (xs : List S44) (i : Nat), xs.length - i = d → i ≤ xs.length → xs.length ≤ 4000000 → d < k → laws_eqFuseS.l0 k xs xs (i : Int) = some true := by
  induction d with
  | zero =>
    intro k xs i hd h1 h2 hk
    obtain ⟨k, rfl⟩ : ∃ m, k = m + 1 := ⟨k - 1, by omega⟩
    simp only [laws_eqFuseS.l0]; rw [if_neg (by omega)]
  | succ d ih =>
    intro k xs i hd h1 h2 hk
    obtain ⟨k, rfl⟩ : ∃ m, k = m + 1 := ⟨k - 1, by omega⟩
    have hr := ih k xs (i + 1) (by omega) (by omega) h2 (by omega)
    simp only [laws_eqFuseS.l0, laws_eqFuse.f, if_true, Option.bind_some]
    rw [if_pos (by omega), if_pos (by omega), if_pos (by omega), w64 (by omega)]
    exact hr
theorem eq_FuseS (xs : List S44) (h : xs.length ≤ 4000000) : Evt (fun k => laws_eqFuseS.f k xs xs = some true) := by
  refine ⟨xs.length + 1, fun k hk => ?_⟩
  show laws_eqFuseS.f k xs xs = _
  unfold laws_eqFuseS.f
  rw [if_pos rfl]
  exact eq_FuseS_l0 xs.length k xs 0 (by omega) (by omega) h (by omega)
theorem sz_FuseS (l : List S46) (a : Int) (h0 : 0 ≤ a) (h1 : a ≤ 1000000) (hl : l.length ≤ maxLen) :
    (l.length ≤ a ∧ laws_szFuseS.f l a = some (a - l.length)) ∨ laws_szFuseS.f l a = some (-1) := by
  unfold maxLen at hl
  unfold laws_szFuseS.f
  rw [w64 (by omega)]
  by_cases h : a - (l.length : Int) < 0
  · rw [if_pos h]
    exact .inr rfl
  · rw [if_neg h]
    exact .inl ⟨by omega, rfl⟩
def PrI44 (x : S44) : Prop := I64 x.f0 ∧ I64 x.f1 ∧ I64 x.f2 ∧ I64 x.f3
theorem prc_FuseS {l : List S46} (h : ∀ x ∈ l, Pr46 x) : ∀ x ∈ l.map conv_FuseS, PrI44 x := by
  intro x hx
  obtain ⟨y, hy, rfl⟩ := List.mem_map.1 hx
  exact h y hy
/-- the numbers from c on, in elements -/
def seq_FuseS : Nat → Int → List S44
  | 0, _ => []
  | d + 1, c => (⟨c, c + 1, c + 2, c + 3⟩ : S44) :: seq_FuseS d (c + 4)
theorem seq_FuseS_len : ∀ (d : Nat) (c : Int), (seq_FuseS d c).length = d
  | 0, _ => rfl
  | d + 1, c => by unfold seq_FuseS; rw [List.length_cons, seq_FuseS_len d]
theorem mark_FuseS_l0 (d : Nat) : ∀ (k : Nat) (xs : List S44) (c : Int) (i : Nat), xs.length - i = d → i ≤ xs.length → xs.length ≤ 4000000 → 0 ≤ c → c ≤ 1000000000 - 4 * (xs.length - i : Nat) → d < k →
    laws_markFuseS.l0 k xs c (i : Int) = some (c + 4 * d, xs.take i ++ seq_FuseS d c) := by
  induction d with
  | zero =>
    intro k xs c i hd h1 h2 h3 h4 hk
    obtain ⟨k, rfl⟩ : ∃ m, k = m + 1 := ⟨k - 1, by omega⟩
    simp only [laws_markFuseS.l0, seq_FuseS]
    rw [if_neg (by omega), List.take_of_length_le (by omega), List.append_nil]
    congr 2; omega
  | succ d ih =>
    intro k xs c i hd h1 h2 h3 h4 hk
    obtain ⟨k, rfl⟩ : ∃ m, k = m + 1 := ⟨k - 1, by omega⟩
    have hr := ih k (xs.set i (⟨c, c + 1, c + 2, c + 3⟩ : S44)) (c + 4) (i + 1) (by rw [List.length_set]; omega) (by rw [List.length_set]; omega) (by rw [List.length_set]; omega) (by omega) (by rw [List.length_set]; omega) (by omega)
    rw [set_take_app _ _ _ _ (by omega)] at hr
    have e : c + 4 * ((d + 1 : Nat) : Int) = c + 4 + 4 * (d : Int) := by omega
    rw [e]
    show _ = some (c + 4 + 4 * (d : Int), xs.take i ++ (⟨c, c + 1, c + 2, c + 3⟩ : S44) :: seq_FuseS d (c + 4))
    rw [← hr]
    simp only [laws_markFuseS.l0, Option.bind_some]
    rw [if_pos (by omega), if_pos (by omega)]
    have w1 : wrap64 (c + 1) = c + 1 := by rw [w64 (by omega)]
    have w2 : wrap64 (c + 1 + 1) = c + 2 := by rw [w64 (by omega)]; omega
    have w3 : wrap64 (c + 2 + 1) = c + 3 := by rw [w64 (by omega)]; omega
    have w4 : wrap64 (c + 3 + 1) = c + 4 := by rw [w64 (by omega)]; omega
    rw [w1, w2, w3, w4, w64 (n := (i : Int) + 1) (by omega)]
    simp only [Int.toNat_natCast]
    have rs : ∀ v : S44, rd_T44 (xs.set i v) (i : Int) = v := fun v => by unfold rd_T44; rw [Int.toNat_natCast, getD_set _ _ _ _ (by omega)]
    simp only [set_set, rs]
    rfl
theorem mark_FuseS (xs : List S44) (c : Int) (hx : xs.length ≤ 4000000) (h0 : 0 ≤ c) (h1 : c ≤ 900000000) : Evt (fun k => laws_markFuseS.f k xs c = some (c + 4 * (xs.length : Int), seq_FuseS xs.length c)) := by
  refine ⟨xs.length + 1, fun k hk => ?_⟩
  show laws_markFuseS.f k xs c = _
  unfold laws_markFuseS.f
  exact mark_FuseS_l0 xs.length k xs c 0 (by omega) (by omega) hx h0 (by omega) (by omega)

end Go.Proofs.Ytipgcjonidlloaa.F
