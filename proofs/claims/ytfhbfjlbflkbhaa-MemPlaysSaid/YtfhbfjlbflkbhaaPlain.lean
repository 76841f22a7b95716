/-
  Sums in whichever order: plain numbers.
-/
namespace Go.Proofs.Ytfhbfjlbflkbhaa

def rawSum (f : Nat → Nat) : Nat → Nat
  | 0 => 0
  | k + 1 => rawSum f k + f k
def sumM (f : Nat → Nat) : Nat → Nat
  | 0 => 0
  | k + 1 => (sumM f k + f k) % 18446744073709551616
theorem sumM_raw (f : Nat → Nat) : ∀ k, sumM f k = rawSum f k % 18446744073709551616
  | 0 => rfl
  | k + 1 => by rw [sumM, rawSum, sumM_raw f k, Nat.mod_add_mod]
theorem raw_congr {f g : Nat → Nat} : ∀ {k : Nat}, (∀ i, i < k → f i = g i) → rawSum f k = rawSum g k
  | 0, _ => rfl
  | k + 1, h => by rw [rawSum, rawSum, raw_congr (fun i hi => h i (by omega)), h k (by omega)]
theorem raw_add (f : Nat → Nat) (a : Nat) : ∀ b, rawSum f (a + b) = rawSum f a + rawSum (fun i => f (a + i)) b
  | 0 => rfl
  | b + 1 => by rw [← Nat.add_assoc, rawSum, raw_add f a b, rawSum, Nat.add_assoc]
theorem raw_turn (f : Nat → Nat) {n r : Nat} (h : r < n) : rawSum (fun i => f ((i + r) % n)) n = rawSum f n := by
  have e1 : rawSum (fun i => f ((i + r) % n)) n = rawSum (fun i => f ((i + r) % n)) (n - r) + rawSum (fun i => f ((n - r + i + r) % n)) r := by
    have := raw_add (fun i => f ((i + r) % n)) (n - r) r
    rwa [show n - r + r = n by omega] at this
  have e2 : rawSum f n = rawSum f r + rawSum (fun i => f (r + i)) (n - r) := by
    have := raw_add f r (n - r)
    rwa [show r + (n - r) = n by omega] at this
  have e3 : rawSum (fun i => f ((i + r) % n)) (n - r) = rawSum (fun i => f (r + i)) (n - r) := raw_congr fun i hi => by
    show f ((i + r) % n) = f (r + i)
    rw [Nat.mod_eq_of_lt (by omega), Nat.add_comm]
  have e4 : rawSum (fun i => f ((n - r + i + r) % n)) r = rawSum f r := raw_congr fun i hi => by
    show f ((n - r + i + r) % n) = f i
    rw [show n - r + i + r = i + n by omega, Nat.add_mod_right, Nat.mod_eq_of_lt (by omega)]
  omega
theorem sum_turn (f : Nat → Nat) {n r : Nat} (h : r < n) : sumM (fun i => f ((i + r) % n)) n = sumM f n := by
  rw [sumM_raw, sumM_raw, raw_turn f h]

end Go.Proofs.Ytfhbfjlbflkbhaa
