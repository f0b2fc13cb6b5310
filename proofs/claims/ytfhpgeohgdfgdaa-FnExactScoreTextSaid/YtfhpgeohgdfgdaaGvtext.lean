import Derived.Test.YtfhpgeohgdfgdaaGq
import Derived.Test.YtfhpgeohgdfgdaaGvbasic
import Derived.Test.YtfhpgeohgdfgdaaFspec0l01Dec
import Derived.Test.YtfhpgeohgdfgdaaFimpl0decimal
import Derived.Test.YtfhpgeohgdfgdaaFspec0l01Words
import Derived.Test.YtfhpgeohgdfgdaaFimpl0joinWith
namespace Go.Proofs.Ytfhpgeohgdfgdaa.F
open Go.RowKit Go.Proofs.YtfhpgeohgdfgdaaW.PrintWords Go.Proofs.YtfhpgeohgdfgdaaW.PrintLast Go.Proofs.YtfhpgeohgdfgdaaW.PrintMore
set_option linter.unusedVariables false
set_option linter.unusedSimpArgs false
/-- the last digit of n -/
def dig (n : Int) : ByteArray := strOfNums (([(wrap64 (48 + Int.tmod n 10)) % 256] : List Int))
def dcs : Nat → Int → ByteArray
  | 0, _ => ByteArray.empty
  | d + 1, n => if n < 10 then dig n else dcs d (n / 10) ++ dig n
theorem dig_size (n : Int) : (dig n).size = 1 := rfl
theorem dcs_size : ∀ (d : Nat) (n : Int), (dcs d n).size ≤ d
  | 0, n => by unfold dcs; exact Nat.le_refl 0
  | d + 1, n => by
    unfold dcs
    split
    · rw [dig_size]; omega
    · rw [ByteArray.size_append, dig_size]; have := dcs_size d (n / 10); omega
theorem tdiv10 {n : Int} (h : 0 ≤ n) : Int.tdiv n 10 = n / 10 := Int.tdiv_eq_ediv_of_nonneg h
theorem tmod10 {n : Int} (h : 0 ≤ n) : Int.tmod n 10 = n % 10 := Int.tmod_eq_emod_of_nonneg h
theorem spec_dec : ∀ (d : Nat) (n : Int) (k : Nat), 0 ≤ n → n < 10 ^ d → n ≤ 9223372036854775807 → d ≤ 1000 → 0 < d → d ≤ k → spec_l01Dec.f k n = some (dcs d n)
  | 0, _, _, _, _, _, _, h, _ => absurd h (by omega)
  | d + 1, n, k, h0, h1, h2, h4, _, hk => by
    obtain ⟨k, rfl⟩ : ∃ m, k = m + 1 := ⟨k - 1, by omega⟩
    unfold spec_l01Dec.f dcs
    by_cases h : n < 10
    · rw [if_pos h, if_pos h]
      unfold dig
      rw [tmod10 h0, show n % 10 = n by omega]
    · rw [if_neg h, if_neg h, tdiv10 h0, w64 (by omega)]
      have hd : 0 < d := by
        rcases Nat.eq_zero_or_pos d with e | e
        · subst e; omega
        · exact e
      have hp : n / 10 < 10 ^ d := Int.ediv_lt_of_lt_mul (by omega) (by rw [Int.pow_succ] at h1; exact h1)
      rw [spec_dec d (n / 10) k (by omega) hp (by omega) (by omega) hd (by omega)]
      have hs := dcs_size d (n / 10)
      have hg := dig_size n
      simp only [Option.bind_some]
      unfold dig at *
      rw [if_pos (by omega)]
theorem impl_dec0 : ∀ (d : Nat) (n : Int) (acc : ByteArray) (k : Nat), 0 ≤ n → n < 10 ^ d → n ≤ 9223372036854775807 → acc.size + d ≤ 1000 → 0 < d → d ≤ k → impl_decimal.l0 k n acc = some (dcs d n ++ acc)
  | 0, _, _, _, _, _, _, _, h, _ => absurd h (by omega)
  | d + 1, n, acc, k, h0, h1, h2, h4, _, hk => by
    obtain ⟨k, rfl⟩ : ∃ m, k = m + 1 := ⟨k - 1, by omega⟩
    unfold impl_decimal.l0 dcs
    simp only [Option.bind_some]
    have hg := dig_size n
    have ea : strOfNums (([(wrap64 (48 + Int.tmod n 10)) % 256] : List Int)) = dig n := rfl
    rw [ea, if_pos (by omega), tdiv10 h0, w64 (by omega)]
    by_cases h : n < 10
    · rw [if_pos h, if_pos (by omega)]
    · rw [if_neg h, if_neg (by omega)]
      have hd : 0 < d := by
        rcases Nat.eq_zero_or_pos d with e | e
        · subst e; omega
        · exact e
      have hp : n / 10 < 10 ^ d := Int.ediv_lt_of_lt_mul (by omega) (by rw [Int.pow_succ] at h1; exact h1)
      rw [impl_dec0 d (n / 10) (dig n ++ acc) k (by omega) hp (by omega) (by rw [ByteArray.size_append]; omega) hd (by omega), ByteArray.append_assoc]
theorem impl_dec (d : Nat) (n : Int) (k : Nat) (h0 : 0 ≤ n) (h1 : n < 10 ^ d) (h2 : n ≤ 9223372036854775807) (h4 : d ≤ 1000) (hd : 0 < d) (hk : d < k) : impl_decimal.f k n = some (dcs d n) := by
  obtain ⟨k, rfl⟩ : ∃ m, k = m + 1 := ⟨k - 1, by omega⟩
  unfold impl_decimal.f
  rw [if_neg (by omega)]
  refine (impl_dec0 d n ByteArray.empty k h0 h1 h2 (by show 0 + d ≤ 1000; omega) hd (by omega)).trans ?_
  rw [ByteArray.append_empty]
/-! ### words joined -/
def jnT (ws : List ByteArray) (sep : ByteArray) : Nat → ByteArray
  | 0 => ByteArray.empty
  | i + 1 => if 0 < i then (jnT ws sep i ++ sep) ++ ws.getD i ByteArray.empty else jnT ws sep i ++ ws.getD i ByteArray.empty
theorem jnT_size (ws : List ByteArray) (sep : ByteArray) (B : Nat) (hs : sep.size ≤ 100) (hw : ∀ i, i < ws.length → (ws.getD i ByteArray.empty).size ≤ B) : ∀ i, i ≤ ws.length → (jnT ws sep i).size ≤ i * (B + 100)
  | 0, _ => by unfold jnT; exact Nat.zero_le _
  | i + 1, hi => by
    have h1 := jnT_size ws sep B hs hw i (by omega)
    have h2 := hw i (by omega)
    unfold jnT
    rw [Nat.succ_mul]
    split
    · rw [ByteArray.size_append, ByteArray.size_append]; omega
    · rw [ByteArray.size_append]; omega
theorem spec_words (ws : List ByteArray) (sep : ByteArray) (B : Nat) (hs : sep.size ≤ 100) (hw : ∀ i, i < ws.length → (ws.getD i ByteArray.empty).size ≤ B) (hB : B ≤ 10000000) (hl : ws.length ≤ 10000000) : ∀ (d i k : Nat), ws.length - i = d → i ≤ ws.length → d < k → spec_l01Words.l0 k ws sep (jnT ws sep i) (i : Int) = some (jnT ws sep ws.length) := by
  intro d
  induction d with
  | zero =>
    intro i k hd hi hk
    obtain ⟨k, rfl⟩ : ∃ m, k = m + 1 := ⟨k - 1, by omega⟩
    unfold spec_l01Words.l0
    rw [if_neg (by omega), show i = ws.length by omega]
  | succ d ih =>
    intro i k hd hi hk
    obtain ⟨k, rfl⟩ : ∃ m, k = m + 1 := ⟨k - 1, by omega⟩
    have h1 := jnT_size ws sep B hs hw i (by omega)
    have h2 := hw i (by omega)
    have h3 : i * (B + 100) ≤ 10000000 * 10000100 := Nat.mul_le_mul (by omega) (by omega)
    have hr : rdOf ByteArray.empty ws (i : Int) = ws.getD i ByteArray.empty := by unfold rdOf; rw [Int.toNat_natCast]
    have e := ih (i + 1) k (by omega) (by omega) (by omega)
    unfold spec_l01Words.l0
    rw [hr, if_pos (by omega), w64 (by omega), Int.natCast_add] at *
    by_cases h : 0 < i
    · rw [if_pos (by omega), if_pos (by omega), if_pos (by omega), if_pos (by rw [ByteArray.size_append]; omega)]
      rw [show jnT ws sep (i + 1) = (jnT ws sep i ++ sep) ++ ws.getD i ByteArray.empty by rw [jnT, if_pos h]] at e
      exact e
    · rw [if_neg (by omega), if_pos (by omega), if_pos (by omega)]
      rw [show jnT ws sep (i + 1) = jnT ws sep i ++ ws.getD i ByteArray.empty by rw [jnT, if_neg h]] at e
      exact e
theorem impl_words (ws : List ByteArray) (sep : ByteArray) (B : Nat) (hs : sep.size ≤ 100) (hw : ∀ i, i < ws.length → (ws.getD i ByteArray.empty).size ≤ B) (hB : B ≤ 10000000) (hl : ws.length ≤ 10000000) : ∀ (d i k : Nat), ws.length - i = d → i ≤ ws.length → d < k → impl_joinWith.l0 k sep (jnT ws sep i) ws (ws.length : Int) (i : Int) = some (jnT ws sep ws.length) := by
  intro d
  induction d with
  | zero =>
    intro i k hd hi hk
    obtain ⟨k, rfl⟩ : ∃ m, k = m + 1 := ⟨k - 1, by omega⟩
    unfold impl_joinWith.l0
    rw [if_neg (by omega), show i = ws.length by omega]
  | succ d ih =>
    intro i k hd hi hk
    obtain ⟨k, rfl⟩ : ∃ m, k = m + 1 := ⟨k - 1, by omega⟩
    have h1 := jnT_size ws sep B hs hw i (by omega)
    have h2 := hw i (by omega)
    have h3 : i * (B + 100) ≤ 10000000 * 10000100 := Nat.mul_le_mul (by omega) (by omega)
    have hr : rdOf ByteArray.empty ws (i : Int) = ws.getD i ByteArray.empty := by unfold rdOf; rw [Int.toNat_natCast]
    have e := ih (i + 1) k (by omega) (by omega) (by omega)
    unfold impl_joinWith.l0
    rw [hr, if_pos (by omega), if_pos (by omega), if_pos (by omega), w64 (by omega), Int.natCast_add] at *
    by_cases h : 0 < i
    · rw [if_pos (by omega), if_pos (by omega), if_pos (by rw [ByteArray.size_append]; omega)]
      rw [show jnT ws sep (i + 1) = (jnT ws sep i ++ sep) ++ ws.getD i ByteArray.empty by rw [jnT, if_pos h]] at e
      exact e
    · rw [if_neg (by omega), if_pos (by omega)]
      rw [show jnT ws sep (i + 1) = jnT ws sep i ++ ws.getD i ByteArray.empty by rw [jnT, if_neg h]] at e
      exact e

end Go.Proofs.Ytfhpgeohgdfgdaa.F
