/-
  What serves for what: plain laws.
-/
import Derived.Test.YtmmfghialjmgmaaFindP
import Derived.Test.YtmmfghialjmgmaaMade
namespace Go.Proofs.Ytmmfghialjmgmaa

theorem alg_of (r : Int) : alg r = 8 ∨ alg r = 16 ∨ alg r = 32 ∨ alg r = 64 := by
  unfold alg
  repeat' split
  all_goals simp
theorem okB_made (s r : Int) (h0 : 0 ≤ s) (h1 : s < 1024) : okB (1 + s) (alg r) 0 = true := by
  rw [okB_iff]
  have := alg_of r
  omega
theorem servesB_iff {s a f s' a' f' : Int} : servesB s a f s' a' f' = true ↔ okB s a f = true ∧ okB s' a' f' = true ∧ f = 0 ∧ f' = 0 ∧ stepOf s a f = stepOf s' a' f' ∧ a % a' = 0 := by
  simp [servesB]
theorem serves_refl {s a : Int} (h : okB s a 0 = true) : servesB s a 0 s a 0 = true := by
  rw [servesB_iff]
  exact ⟨h, h, rfl, rfl, rfl, Int.emod_self⟩
theorem serves_trans {s a f s' a' f' s'' a'' f'' : Int} (h : servesB s a f s' a' f' = true) (h' : servesB s' a' f' s'' a'' f'' = true) : servesB s a f s'' a'' f'' = true := by
  rw [servesB_iff] at h h' ⊢
  obtain ⟨h1, _, h3, _, h5, h6⟩ := h
  obtain ⟨_, k2, _, k4, k5, k6⟩ := h'
  exact ⟨h1, k2, h3, k4, h5.trans k5, Int.emod_eq_zero_of_dvd (Int.dvd_trans (Int.dvd_of_emod_eq_zero k6) (Int.dvd_of_emod_eq_zero h6))⟩

theorem stepOf_room {s a f : Int} (h : okB s a f = true) : s ≤ stepOf s a f ∧ stepOf s a f < s + a ∧ stepOf s a f % a = 0 ∧ stepOf s a f ≤ 1087 := by
  rw [stepOf_ok h]
  obtain ⟨ha, h1, h2, _⟩ := (okB_iff _ _ _).1 h
  refine ⟨?_, ?_, Int.mul_emod_left _ _, ?_⟩ <;> rcases ha with rfl | rfl | rfl | rfl <;> omega
theorem room_of {s a s' a' : Int} (h : servesB s a 0 s' a' 0 = true) : okB s a 0 = true ∧ okB s' a' 0 = true ∧ s' ≤ stepOf s a 0 ∧ s ≤ stepOf s a 0 ∧ stepOf s a 0 % a' = 0 ∧ stepOf s a 0 < s + a ∧ stepOf s a 0 ≤ 1087 := by
  obtain ⟨h1, h2, _, _, h5, h6⟩ := servesB_iff.1 h
  have r1 := stepOf_room h1
  have r2 := stepOf_room h2
  exact ⟨h1, h2, by omega, r1.1, Int.emod_eq_zero_of_dvd (Int.dvd_trans (Int.dvd_of_emod_eq_zero h6) (Int.dvd_of_emod_eq_zero r1.2.2.1)), r1.2.1, r1.2.2.2⟩
/-- Of aligns that may be, one that is no multiple of another one is less. -/
theorem align_less {a a' : Int} (ha : a = 8 ∨ a = 16 ∨ a = 32 ∨ a = 64) (ha' : a' = 8 ∨ a' = 16 ∨ a' = 32 ∨ a' = 64) (h : a % a' ≠ 0) : a < a' := by
  rcases ha with rfl | rfl | rfl | rfl <;> rcases ha' with rfl | rfl | rfl | rfl <;> first | omega | (exfalso; exact h (by decide))

end Go.Proofs.Ytmmfghialjmgmaa
