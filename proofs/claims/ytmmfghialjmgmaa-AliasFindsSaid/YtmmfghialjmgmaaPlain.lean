/-
  Plain arithmetic of specs: which may be, how far their objects stand apart, which serves for which. No program in sight.
-/
namespace Go.Proofs.Ytmmfghialjmgmaa

def alignB (a : Int) : Bool := a == 8 || a == 16 || a == 32 || a == 64
def okB (s a f : Int) : Bool := alignB a && (decide (1 ≤ s) && (decide (s ≤ 1024) && (decide (0 ≤ f) && decide (f ≤ 7))))
def errOf (s a f : Int) : Int := if okB s a f = true then 0 else 2
def stepOf (s a f : Int) : Int := if okB s a f = true then (s + a - 1) / a * a else 0
def servesB (s a f s' a' f' : Int) : Bool := okB s a f && (okB s' a' f' && (f == 0 && (f' == 0 && (stepOf s a f == stepOf s' a' f' && a % a' == 0))))

theorem alignB_iff (a : Int) : alignB a = true ↔ a = 8 ∨ a = 16 ∨ a = 32 ∨ a = 64 := by
  simp [alignB, or_assoc]
theorem okB_iff (s a f : Int) : okB s a f = true ↔ (a = 8 ∨ a = 16 ∨ a = 32 ∨ a = 64) ∧ 1 ≤ s ∧ s ≤ 1024 ∧ 0 ≤ f ∧ f ≤ 7 := by
  simp [okB, alignB_iff]
theorem errOf_ok {s a f : Int} (h : okB s a f = true) : errOf s a f = 0 := by simp [errOf, h]
theorem errOf_no {s a f : Int} (h : okB s a f = false) : errOf s a f = 2 := by simp [errOf, h]
theorem stepOf_ok {s a f : Int} (h : okB s a f = true) : stepOf s a f = (s + a - 1) / a * a := by simp [stepOf, h]
theorem stepOf_no {s a f : Int} (h : okB s a f = false) : stepOf s a f = 0 := by simp [stepOf, h]

theorem up_le {n a : Int} (ha : 1 ≤ a) : n / a * a ≤ n := Int.ediv_mul_le n (by omega)
theorem up_nn {n a : Int} (ha : 1 ≤ a) (hn : 0 ≤ n) : 0 ≤ n / a * a := Int.mul_nonneg (Int.ediv_nonneg hn (by omega)) (by omega)
theorem errOf_yes {s a f : Int} (h : alignB a = true) (h1 : 1 ≤ s) (h2 : s ≤ 1024) (h3 : 0 ≤ f) (h4 : f ≤ 7) : 0 = errOf s a f := by
  simp [errOf, okB, *]
theorem errOf_align {s a f : Int} (h : ¬alignB a = true) : 2 = errOf s a f := by
  simp [errOf, okB, h]
theorem errOf_out {s a f : Int} (h : s < 1 ∨ 1024 < s ∨ f < 0 ∨ 7 < f) : 2 = errOf s a f := by
  rw [errOf, if_neg]
  rw [okB_iff]
  omega

end Go.Proofs.Ytmmfghialjmgmaa
