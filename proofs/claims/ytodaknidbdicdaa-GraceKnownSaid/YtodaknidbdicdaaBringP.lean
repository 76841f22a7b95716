/-
  A remainder brought to be from 0 on: plain numbers.
-/
namespace Go.Proofs.Ytodaknidbdicdaa

theorem tmod_bring_neg {i n : Int} (hn : 1 ≤ n) (h : i.tmod n < 0) : i.tmod n + n = i % n := by
  have hi : i < 0 := by
    rcases Int.lt_or_le i 0 with h' | h'
    · exact h'
    · have := Int.tmod_nonneg n h'; omega
  have e : i.tmod n = -((-i) % n) := by
    rw [← Int.tmod_eq_emod_of_nonneg (show 0 ≤ -i by omega), Int.neg_tmod, Int.neg_neg]
  have h3 := Int.emod_nonneg (-i) (show n ≠ 0 by omega)
  have h4 := Int.emod_lt_of_pos (-i) (show 0 < n by omega)
  have h2 := Int.mul_ediv_add_emod (-i) n
  rw [e] at h ⊢
  generalize (-i) % n = r at *
  generalize (-i) / n = q at *
  have h1 : i = (n - r) + n * (-(q + 1)) := by
    rw [Int.mul_neg, Int.mul_add, Int.mul_one]
    omega
  rw [h1, Int.add_mul_emod_self_left, Int.emod_eq_of_lt (by omega) (by omega)]
  omega

theorem tmod_bring_pos {i n : Int} (hn : 1 ≤ n) (h : 0 ≤ i.tmod n) : i.tmod n = i % n := by
  rcases Int.lt_or_le i 0 with hi | hi
  · have e : i.tmod n = -((-i) % n) := by
      rw [← Int.tmod_eq_emod_of_nonneg (show 0 ≤ -i by omega), Int.neg_tmod, Int.neg_neg]
    have h3 := Int.emod_nonneg (-i) (show n ≠ 0 by omega)
    have h4 : (-i) % n = 0 := by omega
    rw [e, h4]
    have h5 : n ∣ -i := Int.dvd_of_emod_eq_zero h4
    have h6 : n ∣ i := (Int.dvd_neg).1 h5
    rw [Int.emod_eq_zero_of_dvd h6]
    rfl
  · exact Int.tmod_eq_emod_of_nonneg hi

theorem tmod_abs {i n : Int} (hn : 1 ≤ n) : -n < i.tmod n ∧ i.tmod n < n := by
  rcases Int.lt_or_le i 0 with hi | hi
  · have e : i.tmod n = -((-i) % n) := by
      rw [← Int.tmod_eq_emod_of_nonneg (show 0 ≤ -i by omega), Int.neg_tmod, Int.neg_neg]
    have h3 := Int.emod_nonneg (-i) (show n ≠ 0 by omega)
    have h4 := Int.emod_lt_of_pos (-i) (show 0 < n by omega)
    omega
  · rw [Int.tmod_eq_emod_of_nonneg hi]
    have h3 := Int.emod_nonneg i (show n ≠ 0 by omega)
    have h4 := Int.emod_lt_of_pos i (show 0 < n by omega)
    omega

end Go.Proofs.Ytodaknidbdicdaa
