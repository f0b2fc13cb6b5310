import Derived.Test.YtpkllgmeaoodfaaGq
import Derived.Test.YtpkllgmeaoodfaaGvbasic
import Derived.Test.YtpkllgmeaoodfaaFspec0l01Dec
import Derived.Test.YtpkllgmeaoodfaaFspec0l01Value
import Derived.Test.YtpkllgmeaoodfaaFspec0l01Signed
import Derived.Test.YtpkllgmeaoodfaaFimpl0readDecimal
namespace Go.Proofs.Ytpkllgmeaoodfaa.F
open Go.RowKit Go.Proofs.YtpkllgmeaoodfaaW.PrintWords Go.Proofs.YtpkllgmeaoodfaaW.PrintLast Go.Proofs.YtpkllgmeaoodfaaW.PrintMore
set_option linter.unusedVariables false
set_option linter.unusedSimpArgs false
/-- the last digit of n -/
def dig (n : Int) : ByteArray := strOfNums (([(wrap64 (48 + Int.tmod n 10)) % 256] : List Int))
def dcs : Nat → Int → ByteArray
  | 0, _ => ByteArray.empty
  | d + 1, n => if n < 10 then dig n else dcs d (n / 10) ++ dig n
theorem dig_size (n : Int) : (dig n).size = 1 := rfl
theorem dcs_size : ∀ (d : Nat) (n : Int), (dcs d n).size ≤ d
  | 0, n => by unfold dcs; exact Nat.le_refl 0
  | d + 1, n => by
    unfold dcs
    split
    · rw [dig_size]; omega
    · rw [ByteArray.size_append, dig_size]; have := dcs_size d (n / 10); omega
theorem spec_dec : ∀ (d : Nat) (n : Int) (k : Nat), 0 ≤ n → n < 10 ^ d → n ≤ 9223372036854775807 → d ≤ 1000 → 0 < d → d ≤ k → spec_l01Dec.f k n = some (dcs d n)
  | 0, _, _, _, _, _, _, h, _ => absurd h (by omega)
  | d + 1, n, k, h0, h1, h2, h4, _, hk => by
    obtain ⟨k, rfl⟩ : ∃ m, k = m + 1 := ⟨k - 1, by omega⟩
    have t1 : Int.tdiv n 10 = n / 10 := Int.tdiv_eq_ediv_of_nonneg h0
    have t2 : Int.tmod n 10 = n % 10 := Int.tmod_eq_emod_of_nonneg h0
    unfold spec_l01Dec.f dcs
    by_cases h : n < 10
    · rw [if_pos h, if_pos h]
      unfold dig
      rw [t2, show n % 10 = n by omega]
    · rw [if_neg h, if_neg h, t1, w64 (by omega)]
      have hd : 0 < d := by
        rcases Nat.eq_zero_or_pos d with e | e
        · subst e; omega
        · exact e
      have hp : n / 10 < 10 ^ d := Int.ediv_lt_of_lt_mul (by omega) (by rw [Int.pow_succ] at h1; exact h1)
      rw [spec_dec d (n / 10) k (by omega) hp (by omega) (by omega) hd (by omega)]
      have hs := dcs_size d (n / 10)
      have hg := dig_size n
      simp only [Option.bind_some]
      unfold dig at *
      rw [if_pos (by omega)]
/-! ### the value of digits -/
def isDig (z : ByteArray) (i : Nat) : Bool := inB (bt z (i : Int)) 48 57
def vl (z : ByteArray) : Nat → Int
  | 0 => 0
  | i + 1 => 10 * vl z i + (bt z (i : Int) - 48)
theorem vl_bound (z : ByteArray) : ∀ i, (∀ j, j < i → isDig z j = true) → 0 ≤ vl z i ∧ vl z i < 10 ^ i
  | 0, _ => by unfold vl; omega
  | i + 1, h => by
    have h1 := vl_bound z i (fun j hj => h j (by omega))
    have h2 := h i (by omega)
    unfold isDig at h2
    rw [inB_true] at h2
    unfold vl
    rw [Int.pow_succ]
    omega
theorem vl_big (z : ByteArray) (h0 : bt z 0 ≠ 48) : ∀ i, (∀ j, j < i + 1 → isDig z j = true) → 10 ^ i ≤ vl z (i + 1)
  | 0, h => by
    have h2 := h 0 (by omega)
    unfold isDig at h2
    rw [inB_true] at h2
    have h3 : bt z ((0 : Nat) : Int) = bt z 0 := rfl
    have e : vl z (0 + 1) = bt z ((0 : Nat) : Int) - 48 := by unfold vl vl; omega
    rw [e, h3, Int.pow_zero]
    rw [h3] at h2
    omega
  | i + 1, h => by
    have h1 := vl_big z h0 i (fun j hj => h j (by omega))
    have h2 := h (i + 1) (by omega)
    unfold isDig at h2
    rw [inB_true] at h2
    rw [vl, Int.pow_succ]
    omega
theorem pow_le18 {i : Nat} (h : i ≤ 18) : (10 : Int) ^ i ≤ 1000000000000000000 := by
  have h1 : (10 : Nat) ^ i ≤ 10 ^ 18 := Nat.pow_le_pow_right (by omega) h
  have h2 : ((10 ^ i : Nat) : Int) = (10 : Int) ^ i := by simp
  have h3 : (10 : Nat) ^ 18 = 1000000000000000000 := by decide
  omega
theorem pow_le17 {i : Nat} (h : i ≤ 17) : (10 : Int) ^ i ≤ 100000000000000000 := by
  have h1 : (10 : Nat) ^ i ≤ 10 ^ 17 := Nat.pow_le_pow_right (by omega) h
  have h2 : ((10 ^ i : Nat) : Int) = (10 : Int) ^ i := by simp
  have h3 : (10 : Nat) ^ 17 = 100000000000000000 := by decide
  omega
theorem pow_ge13 {i : Nat} (h : 13 ≤ i) : (10000000000000 : Int) ≤ (10 : Int) ^ i := by
  have h1 : (10 : Nat) ^ 13 ≤ 10 ^ i := Nat.pow_le_pow_right (by omega) h
  have h2 : ((10 ^ i : Nat) : Int) = (10 : Int) ^ i := by simp
  have h3 : (10 : Nat) ^ 13 = 10000000000000 := by decide
  omega
theorem byte_of (z : ByteArray) (i : Nat) (h : i < z.size) : bt z (i : Int) = ((z[i]'h).toNat : Int) := by
  unfold bt
  rw [dif_pos (by rw [Int.toNat_natCast]; exact h)]
  simp only [Int.toNat_natCast]
theorem dig_byte (z : ByteArray) (n : Int) (i : Nat) (h : i < z.size) (hd : isDig z i = true) (hn : n % 10 = bt z (i : Int) - 48) (h0 : 0 ≤ n) : dig n = z.extract i (i + 1) := by
  unfold isDig at hd
  rw [inB_true] at hd
  have t2 : Int.tmod n 10 = n % 10 := Int.tmod_eq_emod_of_nonneg h0
  have hb := byte_of z i h
  unfold dig
  rw [t2, w64 (by omega), show (48 + n % 10) % 256 = bt z (i : Int) by omega, hb]
  refine ByteArray.ext_getElem (by rw [ByteArray.size_extract]; show 1 = _; omega) fun j h1 h2 => ?_
  have hj : j = 0 := by
    have : j < 1 := h1
    omega
  subst hj
  rw [ByteArray.getElem_extract]
  show UInt8.ofNat ((z[i]'h).toNat : Int).toNat = _
  rw [Int.toNat_natCast]
  simp
theorem dcs_vl (z : ByteArray) (h0 : bt z 0 ≠ 48) (hz : ∀ j, j < z.size → isDig z j = true) : ∀ i d, i < z.size → i < d → dcs d (vl z (i + 1)) = z.extract 0 (i + 1)
  | 0, d, hi, hd => by
    obtain ⟨d, rfl⟩ : ∃ m, d = m + 1 := ⟨d - 1, by omega⟩
    have h1 := hz 0 hi
    have h2 := h1
    unfold isDig at h2
    rw [inB_true] at h2
    have e : vl z (0 + 1) = bt z ((0 : Nat) : Int) - 48 := by unfold vl vl; omega
    unfold dcs
    rw [if_pos (by omega)]
    exact dig_byte z _ 0 hi h1 (by omega) (by omega)
  | i + 1, d, hi, hd => by
    obtain ⟨d, rfl⟩ : ∃ m, d = m + 1 := ⟨d - 1, by omega⟩
    have h1 := hz (i + 1) hi
    have h2 := h1
    unfold isDig at h2
    rw [inB_true] at h2
    have hb := vl_big z h0 i (fun j hj => hz j (by omega))
    have hp : (1 : Int) ≤ 10 ^ i := by
      have : (0 : Int) < 10 ^ i := Int.pow_pos (by omega)
      omega
    have e : vl z (i + 1 + 1) = 10 * vl z (i + 1) + (bt z ((i + 1 : Nat) : Int) - 48) := rfl
    unfold dcs
    rw [if_neg (by omega), show vl z (i + 1 + 1) / 10 = vl z (i + 1) by omega, dcs_vl z h0 hz i d (by omega) (by omega), dig_byte z _ (i + 1) hi h1 (by omega) (by omega), ByteArray.extract_append_extract]
    simp
/-! ### the loops -/
def badAt (z : ByteArray) : Bool := !(allF (isDig z) 0 z.size)
theorem spec_val (z : ByteArray) (hz : z.size ≤ 18) (r : Option (Int × Bool)) (hr : ∀ k, 30 ≤ k → (∀ j, j < z.size → isDig z j = true) → (spec_l01Dec.f k (vl z z.size)).bind (fun t => some (vl z z.size, t.toList == z.toList)) = r) (hb : (¬ ∀ j, j < z.size → isDig z j = true) → r = some (0, false)) :
    ∀ (d i k : Nat), z.size - i = d → i ≤ z.size → (∀ j, j < i → isDig z j = true) → d + 31 ≤ k → spec_l01Value.l0 k z (vl z i) (i : Int) = r := by
  intro d
  induction d with
  | zero =>
    intro i k hd hi hj hk
    obtain ⟨k, rfl⟩ : ∃ m, k = m + 1 := ⟨k - 1, by omega⟩
    have e : i = z.size := by omega
    subst e
    unfold spec_l01Value.l0
    rw [if_neg (by omega)]
    exact hr k (by omega) hj
  | succ d ih =>
    intro i k hd hi hj hk
    obtain ⟨k, rfl⟩ : ∃ m, k = m + 1 := ⟨k - 1, by omega⟩
    have hv := vl_bound z i hj
    have hp := pow_le17 (i := i) (by omega)
    unfold spec_l01Value.l0
    rw [if_pos (by omega), if_pos (by omega)]
    by_cases c1 : bt z (i : Int) < 48
    · rw [if_pos c1]
      refine (hb fun h => ?_).symm
      have := h i (by omega)
      unfold isDig at this
      rw [inB_true] at this
      omega
    · rw [if_neg c1]
      by_cases c2 : bt z (i : Int) > 57
      · rw [if_pos c2]
        refine (hb fun h => ?_).symm
        have := h i (by omega)
        unfold isDig at this
        rw [inB_true] at this
        omega
      · rw [if_neg c2, w64 (n := 10 * vl z i) (by omega), show (bt z (i : Int) - 48) % 256 = bt z (i : Int) - 48 by omega, w64 (n := 10 * vl z i + (bt z (i : Int) - 48)) (by omega), w64 (by omega)]
        refine ih (i + 1) k (by omega) (by omega) (fun j h => ?_) (by omega)
        rcases Nat.lt_or_ge j i with e | e
        · exact hj j e
        · have : j = i := by omega
          subst this
          unfold isDig
          rw [inB_true]
          omega
theorem impl_val (w z : ByteArray) (hz : z.size ≤ 18) (r : Option (Int × Bool)) (hr : (∀ j, j < z.size → isDig z j = true) → (if (z.size : Int) < (w.size : Int) then some (wrap64 (-(vl z z.size)), true) else some (vl z z.size, true)) = r) (hb : (¬ ∀ j, j < z.size → isDig z j = true) → r = some (0, false)) :
    ∀ (d i k : Nat), z.size - i = d → i ≤ z.size → (∀ j, j < i → isDig z j = true) → d + 1 ≤ k → impl_readDecimal.l0 k w z (vl z i) (i : Int) = r := by
  intro d
  induction d with
  | zero =>
    intro i k hd hi hj hk
    obtain ⟨k, rfl⟩ : ∃ m, k = m + 1 := ⟨k - 1, by omega⟩
    have e : i = z.size := by omega
    subst e
    unfold impl_readDecimal.l0
    rw [if_neg (by omega)]
    exact hr hj
  | succ d ih =>
    intro i k hd hi hj hk
    obtain ⟨k, rfl⟩ : ∃ m, k = m + 1 := ⟨k - 1, by omega⟩
    have hv := vl_bound z i hj
    have hp := pow_le17 (i := i) (by omega)
    unfold impl_readDecimal.l0
    rw [if_pos (by omega), if_pos (by omega)]
    by_cases c1 : bt z (i : Int) < 48
    · rw [if_pos c1]
      refine (hb fun h => ?_).symm
      have := h i (by omega)
      unfold isDig at this
      rw [inB_true] at this
      omega
    · rw [if_neg c1]
      by_cases c2 : bt z (i : Int) > 57
      · rw [if_pos c2]
        refine (hb fun h => ?_).symm
        have := h i (by omega)
        unfold isDig at this
        rw [inB_true] at this
        omega
      · rw [if_neg c2, w64 (n := 10 * vl z i) (by omega), show (bt z (i : Int) - 48) % 256 = bt z (i : Int) - 48 by omega, w64 (n := 10 * vl z i + (bt z (i : Int) - 48)) (by omega), w64 (by omega)]
        refine ih (i + 1) k (by omega) (by omega) (fun j h => ?_) (by omega)
        rcases Nat.lt_or_ge j i with e | e
        · exact hj j e
        · have : j = i := by omega
          subst this
          unfold isDig
          rw [inB_true]
          omega
/-! ### a word of digits -/
theorem same_list {a b : ByteArray} : (a.toList == b.toList) = true ↔ a = b := by
  rw [ByteArray.toList_eq, ByteArray.toList_eq, beq_iff_eq]
  constructor
  · intro h
    exact ByteArray.ext (Array.toList_inj.1 h)
  · rintro rfl; rfl
/-- the digits z (in the word w): what both read; ok's value, or both fail, or the program's value is too great -/
theorem value_is (w z : ByteArray) (hw : z.size ≤ w.size) : ∃ (v : Int) (ok : Bool) (v' : Int) (ok' : Bool), (∀ k, 60 ≤ k → spec_l01Value.f k z = some (v, ok)) ∧ (∀ k, 60 ≤ k → impl_readDecimal.j1 k w z = some (v', ok')) ∧ (ok = true → 0 ≤ v ∧ v < 10000000000000 ∧ (if z.size < w.size then (v = 0 → ok' = false) ∧ (v ≠ 0 → ok' = true ∧ v' = -v) else ok' = true ∧ v' = v)) ∧ (ok = false → ok' = false ∨ v' < -5000 ∨ 5000 < v') := by
  by_cases s0 : z.size = 0
  · refine ⟨0, false, 0, false, fun k hk => ?_, fun k hk => ?_, (fun h => by cases h), fun _ => .inl rfl⟩
    · obtain ⟨k, rfl⟩ : ∃ m, k = m + 1 := ⟨k - 1, by omega⟩
      unfold spec_l01Value.f
      rw [if_pos (by omega)]
      rfl
    · obtain ⟨k, rfl⟩ : ∃ m, k = m + 2 := ⟨k - 2, by omega⟩
      simp only [impl_readDecimal.j1, impl_readDecimal.j2]
      rw [if_pos (by omega)]
      rfl
  by_cases s18 : 18 < z.size
  · refine ⟨0, false, 0, false, fun k hk => ?_, fun k hk => ?_, (fun h => by cases h), fun _ => .inl rfl⟩
    · obtain ⟨k, rfl⟩ : ∃ m, k = m + 1 := ⟨k - 1, by omega⟩
      unfold spec_l01Value.f
      rw [if_neg (by omega), decide_eq_true (by omega : (z.size : Int) > 13)]
      rfl
    · obtain ⟨k, rfl⟩ : ∃ m, k = m + 2 := ⟨k - 2, by omega⟩
      simp only [impl_readDecimal.j1, impl_readDecimal.j2]
      rw [if_neg (by omega), if_pos (by omega)]
      rfl
  -- spec: at most 13 digits
  have sp : z.size ≤ 13 → ∀ r : Option (Int × Bool), (∀ k, 30 ≤ k → (∀ j, j < z.size → isDig z j = true) → (spec_l01Dec.f k (vl z z.size)).bind (fun t => some (vl z z.size, t.toList == z.toList)) = r) → ((¬ ∀ j, j < z.size → isDig z j = true) → r = some (0, false)) → ∀ k, 60 ≤ k → spec_l01Value.f k z = r := by
    intro h13 r hr hb k hk
    obtain ⟨k, rfl⟩ : ∃ m, k = m + 1 := ⟨k - 1, by omega⟩
    unfold spec_l01Value.f
    rw [if_neg (by omega), decide_eq_false (by omega : ¬ (z.size : Int) > 13)]
    simp only [spec_l01Value.j0, Bool.false_eq_true, if_false]
    exact spec_val z (by omega) r hr hb z.size 0 k (by omega) (by omega) (fun j h => absurd h (by omega)) (by omega)
  have sp14 : 13 < z.size → ∀ k, 60 ≤ k → spec_l01Value.f k z = some (0, false) := by
    intro h13 k hk
    obtain ⟨k, rfl⟩ : ∃ m, k = m + 1 := ⟨k - 1, by omega⟩
    unfold spec_l01Value.f
    rw [if_neg (by omega), decide_eq_true (by omega : (z.size : Int) > 13)]
    rfl
  have b0 : bt z ((0 : Nat) : Int) = bt z 0 := rfl
  by_cases lead : bt z 0 = 48
  · by_cases s1 : z.size = 1
    · -- the word 0
      have hd : ∀ j, j < z.size → isDig z j = true := fun j hj => by
        have : j = 0 := by omega
        subst this
        unfold isDig
        rw [inB_true, b0]
        omega
      have e1 : vl z z.size = 0 := by rw [s1]; unfold vl vl; rw [b0]; omega
      have ez : dig 0 = z := by
        rw [dig_byte z 0 0 (by omega) (hd 0 (by omega)) (by rw [b0]; omega) (by omega)]
        have := ByteArray.extract_zero_size (b := z)
        rw [s1] at this
        exact this
      have e2 : ∀ k, 60 ≤ k → spec_l01Value.f k z = some (0, true) := sp (by omega) _ (fun k hk _ => by
        rw [e1, spec_dec 1 0 k (by omega) (by omega) (by omega) (by omega) (by omega) (by omega)]
        show some ((0 : Int), (dig 0).toList == z.toList) = _
        rw [same_list.2 ez]) (fun h => absurd hd h)
      by_cases c : z.size < w.size
      · refine ⟨0, true, 0, false, e2, fun k hk => ?_, fun _ => ⟨by omega, by omega, by rw [if_pos c]; exact ⟨fun _ => rfl, fun h => absurd rfl h⟩⟩, (fun h => by cases h)⟩
        obtain ⟨k, rfl⟩ : ∃ m, k = m + 2 := ⟨k - 2, by omega⟩
        simp only [impl_readDecimal.j1, impl_readDecimal.j2]
        rw [if_neg (by omega), if_neg (by omega), if_pos (by omega), if_pos lead, if_neg (by omega), if_pos (decide_eq_true (by omega))]
      · refine ⟨0, true, 0, true, e2, fun k hk => ?_, fun _ => ⟨by omega, by omega, by rw [if_neg c]; exact ⟨rfl, rfl⟩⟩, (fun h => by cases h)⟩
        obtain ⟨k, rfl⟩ : ∃ m, k = m + 2 := ⟨k - 2, by omega⟩
        simp only [impl_readDecimal.j1, impl_readDecimal.j2]
        rw [if_neg (by omega), if_neg (by omega), if_pos (by omega), if_pos lead, if_neg (by omega), if_neg (by rw [decide_eq_true_iff]; omega)]
        exact impl_val w z (by omega) _ (fun _ => by rw [if_neg (by omega), e1]) (fun h => absurd hd h) z.size 0 k (by omega) (by omega) (fun j h => absurd h (by omega)) (by omega)
    · -- a zero ahead: both fail
      have im : ∀ k, 60 ≤ k → impl_readDecimal.j1 k w z = some (0, false) := fun k hk => by
        obtain ⟨k, rfl⟩ : ∃ m, k = m + 2 := ⟨k - 2, by omega⟩
        simp only [impl_readDecimal.j1, impl_readDecimal.j2]
        rw [if_neg (by omega), if_neg (by omega), if_pos (by omega), if_pos lead, if_pos (by omega)]
        rfl
      by_cases h13 : 13 < z.size
      · exact ⟨0, false, 0, false, sp14 h13, im, fun h => (by cases h), fun _ => .inl rfl⟩
      · by_cases hd : ∀ j, j < z.size → isDig z j = true
        · refine ⟨vl z z.size, false, 0, false, sp (by omega) _ (fun k hk _ => ?_) (fun h => absurd hd h), im, (fun h => by cases h), fun _ => .inl rfl⟩
          -- its number has a digit less
          obtain ⟨n, hn⟩ : ∃ n, z.size = n + 1 := ⟨z.size - 1, by omega⟩
          have lead2 : ∀ i, (∀ j, j < i + 1 → isDig z j = true) → vl z (i + 1) < 10 ^ i := by
            intro i
            induction i with
            | zero => intro _; unfold vl vl; rw [b0]; omega
            | succ i ih =>
              intro h
              have h1 := ih (fun j hj => h j (by omega))
              have h2 := h (i + 1) (by omega)
              unfold isDig at h2
              rw [inB_true] at h2
              rw [vl, Int.pow_succ]
              omega
          have hb := vl_bound z z.size hd
          have hl : vl z z.size < 10 ^ n := by rw [hn]; exact lead2 n (fun j hj => hd j (by omega))
          have hp := pow_le18 (i := n) (by omega)
          rw [spec_dec n _ k hb.1 hl (by omega) (by omega) (by omega) (by omega)]
          simp only [Option.bind_some]
          have : ((dcs n (vl z z.size)).toList == z.toList) = false := by
            rw [Bool.eq_false_iff]
            intro h
            have h1 := same_list.1 h
            have h2 := dcs_size n (vl z z.size)
            rw [h1] at h2
            omega
          rw [this]
        · exact ⟨0, false, 0, false, sp (by omega) _ (fun k hk h => absurd h hd) (fun _ => rfl), im, fun h => (by cases h), fun _ => .inl rfl⟩
  · have im : ∀ (r : Option (Int × Bool)), ((∀ j, j < z.size → isDig z j = true) → (if (z.size : Int) < (w.size : Int) then some (wrap64 (-(vl z z.size)), true) else some (vl z z.size, true)) = r) → ((¬ ∀ j, j < z.size → isDig z j = true) → r = some (0, false)) → ∀ k, 60 ≤ k → impl_readDecimal.j1 k w z = r := by
      intro r hr hb k hk
      obtain ⟨k, rfl⟩ : ∃ m, k = m + 2 := ⟨k - 2, by omega⟩
      simp only [impl_readDecimal.j1, impl_readDecimal.j2]
      rw [if_neg (by omega), if_neg (by omega), if_pos (by omega), if_neg lead, if_neg (by decide)]
      exact impl_val w z (by omega) r hr hb z.size 0 k (by omega) (by omega) (fun j h => absurd h (by omega)) (by omega)
    by_cases hd : ∀ j, j < z.size → isDig z j = true
    · obtain ⟨n, hn⟩ : ∃ n, z.size = n + 1 := ⟨z.size - 1, by omega⟩
      have hb := vl_bound z z.size hd
      have hg : 10 ^ n ≤ vl z z.size := by rw [hn]; exact vl_big z lead n (fun j hj => hd j (by omega))
      have hp : (1 : Int) ≤ 10 ^ n := by
        have : (0 : Int) < 10 ^ n := Int.pow_pos (by omega)
        omega
      have hq := pow_le18 (i := z.size) (by omega)
      have hneg : wrap64 (-(vl z z.size)) = -(vl z z.size) := w64 (by omega)
      by_cases h13 : 13 < z.size
      · have hh := pow_ge13 (i := n) (by omega)
        by_cases c : z.size < w.size
        · refine ⟨0, false, -(vl z z.size), true, sp14 h13, im _ (fun _ => ?_) (fun h => absurd hd h), (fun h => by cases h), fun _ => .inr (.inl (by omega))⟩
          rw [if_pos (by omega), hneg]
        · refine ⟨0, false, vl z z.size, true, sp14 h13, im _ (fun _ => ?_) (fun h => absurd hd h), (fun h => by cases h), fun _ => .inr (.inr (by omega))⟩
          rw [if_neg (by omega)]
      · have ht : (10 : Int) ^ z.size ≤ 10000000000000 := by
          have h1 : (10 : Nat) ^ z.size ≤ 10 ^ 13 := Nat.pow_le_pow_right (by omega) (by omega)
          have h2 : ((10 ^ z.size : Nat) : Int) = (10 : Int) ^ z.size := by simp
          have h3 : (10 : Nat) ^ 13 = 10000000000000 := by decide
          omega
        have e2 : ∀ k, 60 ≤ k → spec_l01Value.f k z = some (vl z z.size, true) := sp (by omega) _ (fun k hk _ => by
          rw [spec_dec z.size _ k hb.1 hb.2 (by omega) (by omega) (by omega) (by omega)]
          have e3 := dcs_vl z lead hd n z.size (by omega) (by omega)
          rw [← hn, ByteArray.extract_zero_size] at e3
          show some (vl z z.size, (dcs z.size (vl z z.size)).toList == z.toList) = _
          rw [same_list.2 e3]) (fun h => absurd hd h)
        by_cases c : z.size < w.size
        · refine ⟨vl z z.size, true, -(vl z z.size), true, e2, im _ (fun _ => ?_) (fun h => absurd hd h), fun _ => ⟨hb.1, by omega, ?_⟩, (fun h => by cases h)⟩
          · rw [if_pos (by omega), hneg]
          · rw [if_pos c]
            exact ⟨fun h => by omega, fun _ => ⟨rfl, rfl⟩⟩
        · refine ⟨vl z z.size, true, vl z z.size, true, e2, im _ (fun _ => ?_) (fun h => absurd hd h), fun _ => ⟨hb.1, by omega, ?_⟩, (fun h => by cases h)⟩
          · rw [if_neg (by omega)]
          · rw [if_neg c]
            exact ⟨rfl, rfl⟩
    · by_cases h13 : 13 < z.size
      · exact ⟨0, false, 0, false, sp14 h13, im _ (fun h => absurd h hd) (fun _ => rfl), fun h => (by cases h), fun _ => .inl rfl⟩
      · exact ⟨0, false, 0, false, sp (by omega) _ (fun k hk h => absurd h hd) (fun _ => rfl), im _ (fun h => absurd h hd) (fun _ => rfl), fun h => (by cases h), fun _ => .inl rfl⟩
/-- a word: what both read -/
theorem word_is (w : ByteArray) : ∃ (v : Int) (ok : Bool) (v' : Int) (ok' : Bool), (∀ k, 62 ≤ k → spec_l01Signed.f k w = some (v, ok)) ∧ (∀ k, 62 ≤ k → impl_readDecimal.f k w = some (v', ok')) ∧ (ok = true → ok' = true ∧ v' = v) ∧ (ok = false → ok' = false ∨ v' < -5000 ∨ 5000 < v') := by
  by_cases s0 : (w.size : Int) > 0
  · by_cases m : bt w 0 = 45
    · have hz : (w.extract 1 w.size).size + 1 = w.size := by rw [ByteArray.size_extract]; omega
      obtain ⟨v, ok, v', ok', h1, h2, h3, h4⟩ := value_is w (w.extract 1 w.size) (by omega)
      have hm : (bt w 0 == 45) = true := beq_iff_eq.2 m
      have im : ∀ k, 62 ≤ k → impl_readDecimal.f k w = some (v', ok') := fun k hk => by
        obtain ⟨k, rfl⟩ : ∃ m, k = m + 1 := ⟨k - 1, by omega⟩
        unfold impl_readDecimal.f
        rw [if_pos s0, if_pos (by omega), hm]
        simp only [impl_readDecimal.j0, if_true]
        rw [if_pos (by omega)]
        exact h2 k (by omega)
      cases ok with
      | false =>
        refine ⟨wrap64 (-v), false, v', ok', fun k hk => ?_, im, (fun h => by cases h), fun _ => h4 rfl⟩
        obtain ⟨k, rfl⟩ : ∃ m, k = m + 1 := ⟨k - 1, by omega⟩
        unfold spec_l01Signed.f
        rw [if_pos s0, if_pos (by omega), hm]
        simp only [spec_l01Signed.j0, if_true]
        rw [if_pos (by omega), h1 k (by omega)]
        rfl
      | true =>
        have h5 := h3 rfl
        rw [if_pos (by omega)] at h5
        refine ⟨wrap64 (-v), decide (v > 0), v', ok', fun k hk => ?_, im, fun h => ?_, fun h => ?_⟩
        · obtain ⟨k, rfl⟩ : ∃ m, k = m + 1 := ⟨k - 1, by omega⟩
          unfold spec_l01Signed.f
          rw [if_pos s0, if_pos (by omega), hm]
          simp only [spec_l01Signed.j0, if_true]
          rw [if_pos (by omega), h1 k (by omega)]
          rfl
        · rw [decide_eq_true_iff] at h
          rw [w64 (by omega)]
          exact h5.2.2.2 (by omega)
        · rw [decide_eq_false_iff_not] at h
          exact .inl (h5.2.2.1 (by omega))
    · obtain ⟨v, ok, v', ok', h1, h2, h3, h4⟩ := value_is w w (by omega)
      have hm : (bt w 0 == 45) = false := beq_eq_false_iff_ne.2 m
      refine ⟨v, ok, v', ok', fun k hk => ?_, fun k hk => ?_, fun h => ?_, h4⟩
      · obtain ⟨k, rfl⟩ : ∃ m, k = m + 1 := ⟨k - 1, by omega⟩
        unfold spec_l01Signed.f
        rw [if_pos s0, if_pos (by omega), hm]
        simp only [spec_l01Signed.j0, Bool.false_eq_true, if_false]
        rw [h1 k (by omega)]
        rfl
      · obtain ⟨k, rfl⟩ : ∃ m, k = m + 1 := ⟨k - 1, by omega⟩
        unfold impl_readDecimal.f
        rw [if_pos s0, if_pos (by omega), hm]
        simp only [impl_readDecimal.j0, Bool.false_eq_true, if_false]
        exact h2 k (by omega)
      · have h5 := (h3 h).2.2
        rw [if_neg (by omega)] at h5
        exact h5
  · obtain ⟨v, ok, v', ok', h1, h2, h3, h4⟩ := value_is w w (by omega)
    refine ⟨v, ok, v', ok', fun k hk => ?_, fun k hk => ?_, fun h => ?_, h4⟩
    · obtain ⟨k, rfl⟩ : ∃ m, k = m + 1 := ⟨k - 1, by omega⟩
      unfold spec_l01Signed.f
      rw [if_neg s0]
      simp only [spec_l01Signed.j0, Bool.false_eq_true, if_false]
      rw [h1 k (by omega)]
      rfl
    · obtain ⟨k, rfl⟩ : ∃ m, k = m + 1 := ⟨k - 1, by omega⟩
      unfold impl_readDecimal.f
      rw [if_neg s0]
      simp only [impl_readDecimal.j0, Bool.false_eq_true, if_false]
      exact h2 k (by omega)
    · have h5 := (h3 h).2.2
      rw [if_neg (by omega)] at h5
      exact h5

end Go.Proofs.Ytpkllgmeaoodfaa.F
