/-
  The key at an object: plain numbers.
-/
namespace Go.Proofs.Ytklhlhfplkmpmaa

def rot1 (x : Nat) : Nat := x % 9223372036854775808 * 2 + x / 9223372036854775808
def rotN : Nat → Nat → Nat
  | 0, x => x
  | n + 1, x => rot1 (rotN n x)
def rotA (s x : Nat) : Nat := x % 2 ^ (64 - s) * 2 ^ s + x / 2 ^ (64 - s)

theorem rot_arith {p m x : Nat} (hp : 0 < p) (hm : 0 < m) (hpm : p * m = 9223372036854775808) (hx : x < 18446744073709551616) :
    (x % (m * 2) * p + x / (m * 2)) < 18446744073709551616 ∧ rot1 (x % (m * 2) * p + x / (m * 2)) = x % m * (p * 2) + x / m := by
  obtain ⟨q, hq⟩ : ∃ q, x / (m * 2) = q := ⟨_, rfl⟩
  obtain ⟨r, hr⟩ : ∃ r, x % (m * 2) = r := ⟨_, rfl⟩
  obtain ⟨b, hb⟩ : ∃ b, r / m = b := ⟨_, rfl⟩
  obtain ⟨t, ht⟩ : ∃ t, r % m = t := ⟨_, rfl⟩
  have e1 : m * 2 * q + r = x := by rw [← hq, ← hr]; exact Nat.div_add_mod x (m * 2)
  have e2 : m * b + t = r := by rw [← hb, ← ht]; exact Nat.div_add_mod r m
  have lr : r < m * 2 := by rw [← hr]; exact Nat.mod_lt _ (by omega)
  have lt : t < m := by rw [← ht]; exact Nat.mod_lt _ hm
  have lb : b < 2 := by rw [← hb]; exact Nat.div_lt_of_lt_mul (by omega)
  have lq : q < p := by
    rcases Nat.lt_or_ge q p with h | h
    · exact h
    · have h1 : m * 2 * p ≤ m * 2 * q := Nat.mul_le_mul_left _ h
      have h2 : m * 2 * p = p * m * 2 := by rw [Nat.mul_comm (m * 2) p, Nat.mul_assoc]
      omega
  have k1 : x / m = 2 * q + b := by
    have : x = m * (2 * q + b) + t := by rw [← e1, ← e2, Nat.mul_add, ← Nat.mul_assoc]; omega
    rw [this, Nat.mul_add_div hm, Nat.div_eq_of_lt lt, Nat.add_zero]
  have k2 : x % m = t := by
    have : x = m * (2 * q + b) + t := by rw [← e1, ← e2, Nat.mul_add, ← Nat.mul_assoc]; omega
    rw [this, Nat.mul_add_mod, Nat.mod_eq_of_lt lt]
  have k3 : r * p = b * 9223372036854775808 + t * p := by rw [← e2, Nat.add_mul, Nat.mul_comm m b, Nat.mul_assoc, Nat.mul_comm m p, hpm]
  have k4 : t * p + p ≤ 9223372036854775808 := by
    have : (t + 1) * p ≤ m * p := Nat.mul_le_mul_right p lt
    rw [Nat.mul_comm m p, hpm, Nat.add_mul, Nat.one_mul] at this
    exact this
  have k5 : t * (p * 2) = t * p * 2 := by rw [Nat.mul_assoc]
  rw [hq, hr, k1, k2, k3, k5]
  unfold rot1
  constructor
  · omega
  · omega

theorem pow_half {s : Nat} (hs : s < 64) : 2 ^ s * 2 ^ (63 - s) = 9223372036854775808 := by
  rw [← Nat.pow_add, show s + (63 - s) = 63 by omega]
theorem rotA_succ {s x : Nat} (hs : s < 64) (hx : x < 18446744073709551616) : rotA s x < 18446744073709551616 ∧ rot1 (rotA s x) = rotA (s + 1) x := by
  have h := rot_arith (p := 2 ^ s) (m := 2 ^ (63 - s)) (x := x) (Nat.two_pow_pos _) (Nat.two_pow_pos _) (pow_half hs) hx
  unfold rotA
  rw [show 64 - s = 63 - s + 1 by omega, show 64 - (s + 1) = 63 - s by omega, Nat.pow_succ, Nat.pow_succ]
  exact h
theorem rotA_zero {x : Nat} (hx : x < 18446744073709551616) : rotA 0 x = x := by
  have e : (2 : Nat) ^ (64 - 0) = 18446744073709551616 := by decide
  unfold rotA
  rw [e, Nat.mod_eq_of_lt hx, Nat.div_eq_of_lt hx]
  omega
theorem rotA_full (x : Nat) : rotA 64 x = x := by
  unfold rotA
  rw [Nat.sub_self, Nat.pow_zero, Nat.mod_one, Nat.div_one, Nat.zero_mul, Nat.zero_add]
theorem rotN_eq {x : Nat} (hx : x < 18446744073709551616) : ∀ n, rotN n x = rotA (n % 64) x
  | 0 => by rw [rotN, Nat.zero_mod, rotA_zero hx]
  | n + 1 => by
    have hl : n % 64 < 64 := Nat.mod_lt _ (by decide)
    rw [rotN, rotN_eq hx n, (rotA_succ hl hx).2]
    rcases Nat.lt_or_ge (n % 64 + 1) 64 with h | h
    · rw [show (n + 1) % 64 = n % 64 + 1 by omega]
    · rw [show n % 64 + 1 = 64 by omega, show (n + 1) % 64 = 0 by omega, rotA_full, rotA_zero hx]
theorem rotN_lt {x : Nat} (hx : x < 18446744073709551616) (n : Nat) : rotN n x < 18446744073709551616 := by
  rw [rotN_eq hx]
  exact (rotA_succ (Nat.mod_lt _ (by decide)) hx).1

def turnF (key at' : Nat) : Nat := (rotN (5 * at') key + at' * 2654435769) % 18446744073709551616
theorem turnF_lt (key at' : Nat) : turnF key at' < 18446744073709551616 := Nat.mod_lt _ (by decide)

/-- The link at an object to the next one (n: the next one's number, and one), and what a link shows. -/
def hideW (n key at' : Nat) : Nat := n ^^^ turnF key at'
theorem xor_lt {a b : Nat} (ha : a < 18446744073709551616) (hb : b < 18446744073709551616) : a ^^^ b < 18446744073709551616 := Nat.xor_lt_two_pow (n := 64) ha hb
theorem hideW_lt {n : Nat} (h : n < 18446744073709551616) (key at' : Nat) : hideW n key at' < 18446744073709551616 := xor_lt h (turnF_lt _ _)
theorem hide_back (n key at' : Nat) : hideW (hideW n key at') key at' = n := by
  unfold hideW
  rw [Nat.xor_assoc, Nat.xor_self, Nat.xor_zero]

/-- Hide and Show: numbers as Go has them. -/
def okN (n : Int) : Bool := decide (-1 ≤ n ∧ n < 16)
def okA (i : Int) : Bool := decide (0 ≤ i ∧ i < 16)
def hideF (n : Int) (key : Nat) (i : Int) : Int × Int := if okN n = true ∧ okA i = true then ((hideW (n + 1).toNat key i.toNat : Nat), 0) else (0, 2)
def showF (w key : Nat) (i : Int) : Int × Bool := if okA i = true ∧ hideW w key i.toNat ≤ 16 then ((hideW w key i.toNat : Nat) - 1, true) else (0, false)
theorem okN_iff (n : Int) : okN n = true ↔ -1 ≤ n ∧ n < 16 := by simp [okN]
theorem okA_iff (i : Int) : okA i = true ↔ 0 ≤ i ∧ i < 16 := by simp [okA]
theorem show_bd {w key : Nat} {i n : Int} {b : Bool} (h : showF w key i = (n, b)) : -1 ≤ n ∧ n < 16 := by
  unfold showF at h
  split at h
  · rename_i hc
    simp only [Prod.mk.injEq] at h
    omega
  · simp only [Prod.mk.injEq] at h
    omega
theorem hide_bd (n : Int) (key : Nat) (i : Int) : 0 ≤ (hideF n key i).1 ∧ (hideF n key i).1 < 18446744073709551616 := by
  unfold hideF
  split
  · rename_i hc
    have h1 := (okN_iff n).1 hc.1
    have := hideW_lt (n := (n + 1).toNat) (by omega) key i.toNat
    exact ⟨Int.natCast_nonneg _, by show ((hideW (n + 1).toNat key i.toNat : Nat) : Int) < _; omega⟩
  · exact ⟨by decide, by decide⟩
/-- What was hidden is shown. -/
theorem show_hide {n i : Int} {key : Nat} (hn : okN n = true) (hi : okA i = true) : showF (hideF n key i).1.toNat key i = (n, true) := by
  have h1 := (okN_iff n).1 hn
  have e : (hideF n key i).1 = ((hideW (n + 1).toNat key i.toNat : Nat) : Int) := by unfold hideF; rw [if_pos ⟨hn, hi⟩]
  rw [e, Int.toNat_natCast]
  unfold showF
  rw [hide_back, if_pos ⟨hi, by omega⟩]
  exact Prod.ext (by show ((n + 1).toNat : Int) - 1 = n; omega) rfl

end Go.Proofs.Ytklhlhfplkmpmaa
