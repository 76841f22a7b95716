/-
  Bits of words: masks, single bits, joins.
-/
import Derived.Laws.BitsLemmas
import Derived.Laws.Bits64
import Derived.Laws.Bits64b
import Derived.Laws.ShiftsVar
import Derived.Laws.ShiftsVarLaws
import Derived.WalkKit
import Derived.Test.YtmljiklddjladaaPlain
namespace Go.Proofs.Ytmljiklddjladaa

theorem and_mask {w : Int} (n : Nat) (hn : n ≤ 60) (h0 : 0 ≤ w) (h1 : w < 18446744073709551616) : bits .and .u64 w ((2 ^ n - 1 : Nat) : Int) = w % ((2 ^ n : Nat) : Int) := by
  obtain ⟨m, rfl⟩ := Int.eq_ofNat_of_zero_le h0
  have hp : 2 ^ n ≤ 2 ^ 60 := Nat.pow_le_pow_right (by omega) hn
  have hp' : (2 : Nat) ^ 60 = 1152921504606846976 := by decide
  have hq : 0 < 2 ^ n := Nat.two_pow_pos n
  rw [bits_and_u64_nat m (2 ^ n - 1) (by omega) (by omega), Nat.and_two_pow_sub_one_eq_mod, Int.natCast_emod]
theorem and_255 {w : Int} (h0 : 0 ≤ w) (h1 : w < 18446744073709551616) : bits .and .u64 w 255 = w % 256 := and_mask 8 (by omega) h0 h1
theorem and_63 {w : Int} (h0 : 0 ≤ w) (h1 : w < 18446744073709551616) : bits .and .u64 w 63 = w % 64 := and_mask 6 (by omega) h0 h1

theorem and_bit {w : Int} (n : Nat) (hn : n ≤ 60) (h0 : 0 ≤ w) (h1 : w < 18446744073709551616) : bits .and .u64 w ((2 ^ n : Nat) : Int) = w / ((2 ^ n : Nat) : Int) % 2 * ((2 ^ n : Nat) : Int) := by
  obtain ⟨m, rfl⟩ := Int.eq_ofNat_of_zero_le h0
  have hp : 2 ^ n ≤ 2 ^ 60 := Nat.pow_le_pow_right (by omega) hn
  have hp' : (2 : Nat) ^ 60 = 1152921504606846976 := by decide
  rw [bits_and_u64_nat m (2 ^ n) (by omega) (by omega)]
  rw [nat_bit]
  simp
theorem and_b16 {w : Int} (h0 : 0 ≤ w) (h1 : w < 18446744073709551616) : bits .and .u64 w 65536 = w / 65536 % 2 * 65536 := and_bit 16 (by omega) h0 h1
theorem and_b17 {w : Int} (h0 : 0 ≤ w) (h1 : w < 18446744073709551616) : bits .and .u64 w 131072 = w / 131072 % 2 * 131072 := and_bit 17 (by omega) h0 h1
theorem bit16 {w : Int} (h0 : 0 ≤ w) (h1 : w < 18446744073709551616) : (bits .and .u64 w 65536 != 0) = fF w := by
  rw [and_b16 h0 h1, fF, Bool.eq_iff_iff, bne_iff_ne, decide_eq_true_iff]
  omega
theorem bit17 {w : Int} (h0 : 0 ≤ w) (h1 : w < 18446744073709551616) : (bits .and .u64 w 131072 != 0) = fL w := by
  rw [and_b17 h0 h1, fL, Bool.eq_iff_iff, bne_iff_ne, decide_eq_true_iff]
  omega

theorem headBits {s i : Int} (h0 : 0 ≤ s) (h1 : s < 32) (h2 : -1 ≤ i) (h3 : i < 63) : bits .or .u64 ((s + 1) * 64) (i + 1) = (s + 1) * 64 + (i + 1) := by
  obtain ⟨n, hn⟩ := Int.eq_ofNat_of_zero_le (show 0 ≤ s + 1 by omega)
  obtain ⟨m, hm⟩ := Int.eq_ofNat_of_zero_le (show 0 ≤ i + 1 by omega)
  have key : ∀ (n : Fin 33) (m : Fin 64), bits .or .u64 ((n.val : Int) * 64) (m.val : Int) = (n.val : Int) * 64 + (m.val : Int) := by decide +kernel
  rw [hn, hm]
  exact key ⟨n, by omega⟩ ⟨m, by omega⟩
theorem partBits {s n : Int} (h0 : 0 ≤ s) (h1 : s < 32) (h2 : 1 ≤ n) (h3 : n ≤ 63) : bits .or .u64 (n * 64) (s + 1) = n * 64 + (s + 1) := by
  obtain ⟨k, hk⟩ := Int.eq_ofNat_of_zero_le (show 0 ≤ s + 1 by omega)
  obtain ⟨m, hm⟩ := Int.eq_ofNat_of_zero_le (show 0 ≤ n by omega)
  have key : ∀ (n : Fin 64) (m : Fin 33), bits .or .u64 ((n.val : Int) * 64) (m.val : Int) = (n.val : Int) * 64 + (m.val : Int) := by decide +kernel
  rw [hk, hm]
  exact key ⟨m, by omega⟩ ⟨k, by omega⟩

end Go.Proofs.Ytmljiklddjladaa
