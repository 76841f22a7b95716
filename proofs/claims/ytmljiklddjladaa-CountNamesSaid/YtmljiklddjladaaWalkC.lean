/-
  The walks of Head, Part, HeadOf and PartOf, of both texts.
-/
import Derived.Test.YtmljiklddjladaaWalkA
import Derived.Test.YtmljiklddjladaaBits
namespace Go.Proofs.Ytmljiklddjladaa
open Go.RowKit

theorem slabMay_at (s : Int) (m : Bool) (h : decide (0 ≤ s ∧ s < 32) = m) (w : World) : Calls Try.prog 25 #[.int .i64 s] w fun e w' => e = .returned (.bool m) ∧ w' = w := h ▸ slabMay_any s w

theorem head_any (s i : Int) (w : World) : Calls Try.prog 13 #[.int .i64 s, .int .i64 i] w fun e w' => e = .returned (.tuple #[.int .u64 (headF s i).1, .int .i64 (headF s i).2]) ∧ w' = w := by
  by_cases h1 : s = -1 ∧ i = -1
  · obtain ⟨rfl, rfl⟩ := h1
    go_enter Try.func13, Try.ntmps13
    go_wp2
    go_ret2
    exact ⟨rfl, rfl⟩
  · by_cases h2 : 0 ≤ s ∧ s < 32 ∧ -1 ≤ i ∧ i < 16
    · rw [show headF s i = ((s + 1) * 64 + (i + 1), 0) by unfold headF; rw [if_pos ((headOk_iff s i).2 (Or.inr h2))]]
      obtain ⟨k1, k2, k3, k4⟩ := h2
      have HB := Lib.hid (headBits k1 k2 k3 (by omega))
      have HM := Lib.hid (show decide (0 ≤ s ∧ s < 32) = true by simp; omega)
      have hs : (s == -1) = false := by rw [beq_eq_false_iff_ne]; omega
      clear h1
      go_enter Try.func13, Try.ntmps13
      go_wp2_with (first | (go_at_call 25; refine (slabMay_at _ _ HM.out _).mono ?_; rintro e w1 ⟨rfl, rfl⟩))
      go_ret2
      exact ⟨by rw [← HB.out]; rfl, rfl⟩
    · rw [show headF s i = (0, 2) by unfold headF; rw [if_neg (by rw [headOk_iff]; omega)]]
      by_cases h3 : 0 ≤ s ∧ s < 32
      · have HM := Lib.hid (show decide (0 ≤ s ∧ s < 32) = true by simp; omega)
        have hs : (s == -1) = false := by rw [beq_eq_false_iff_ne]; omega
        obtain ⟨k1, k2⟩ := h3
        have k3 : i < -1 ∨ 16 ≤ i := by omega
        clear h1 h2
        rcases k3 with k3 | k3
        all_goals
          go_enter Try.func13, Try.ntmps13
          go_wp2_with (first | (go_at_call 25; refine (slabMay_at _ _ HM.out _).mono ?_; rintro e w1 ⟨rfl, rfl⟩))
          go_ret2
          exact ⟨rfl, rfl⟩
      · have HM := Lib.hid (show decide (0 ≤ s ∧ s < 32) = false by simp; omega)
        clear h2 h3
        by_cases hs : s = -1
        · have hi : (i == -1) = false := by rw [beq_eq_false_iff_ne]; exact fun h => h1 ⟨hs, h⟩
          subst hs
          clear h1
          go_enter Try.func13, Try.ntmps13
          go_wp2_with (first | (go_at_call 25; refine (slabMay_at _ _ HM.out _).mono ?_; rintro e w1 ⟨rfl, rfl⟩))
          go_ret2
          exact ⟨rfl, rfl⟩
        · have hs' : (s == -1) = false := by rw [beq_eq_false_iff_ne]; exact hs
          clear h1
          go_enter Try.func13, Try.ntmps13
          go_wp2_with (first | (go_at_call 25; refine (slabMay_at _ _ HM.out _).mono ?_; rintro e w1 ⟨rfl, rfl⟩))
          go_ret2
          exact ⟨rfl, rfl⟩

theorem refHead_any (s i : Int) (w : World) : Calls Try.prog 14 #[.int .i64 s, .int .i64 i] w fun e w' => e = .returned (.tuple #[.int .u64 (headF s i).1, .int .i64 (headF s i).2]) ∧ w' = w := by
  by_cases h1 : s = -1 ∧ i = -1
  · obtain ⟨rfl, rfl⟩ := h1
    go_enter Try.func14, Try.ntmps14
    go_wp2
    go_ret2
    exact ⟨rfl, rfl⟩
  · by_cases h2 : 0 ≤ s ∧ s < 32 ∧ -1 ≤ i ∧ i < 16
    · rw [show headF s i = ((s + 1) * 64 + (i + 1), 0) by unfold headF; rw [if_pos ((headOk_iff s i).2 (Or.inr h2))]]
      obtain ⟨k1, k2, k3, k4⟩ := h2
      have hs : (s == -1) = false := by rw [beq_eq_false_iff_ne]; omega
      have hx : 0 ≤ 64 * (s + 1) + i + 1 ∧ 64 * (s + 1) + i + 1 ≤ 4096 := by omega
      have HB := Lib.hid (show 64 * (s + 1) + i + 1 = (s + 1) * 64 + (i + 1) by omega)
      clear h1
      go_enter Try.func14, Try.ntmps14
      go_wp2
      go_ret2
      exact ⟨by rw [← HB.out]; rfl, rfl⟩
    · rw [show headF s i = (0, 2) by unfold headF; rw [if_neg (by rw [headOk_iff]; omega)]]
      go_enter Try.func14, Try.ntmps14
      go_wp2
      all_goals
        first
        | (exfalso; omega)
        | (go_ret2; exact ⟨rfl, rfl⟩)

theorem part_any (s n : Int) (w : World) : Calls Try.prog 15 #[.int .i64 s, .int .i64 n] w fun e w' => e = .returned (.tuple #[.int .u64 (partF s n).1, .int .i64 (partF s n).2]) ∧ w' = w := by
  by_cases h1 : s = -1 ∧ n = 0
  · obtain ⟨rfl, rfl⟩ := h1
    go_enter Try.func15, Try.ntmps15
    go_wp2
    go_ret2
    exact ⟨rfl, rfl⟩
  · by_cases h2 : 0 ≤ s ∧ s < 32 ∧ 1 ≤ n ∧ n ≤ 63
    · rw [show partF s n = (n * 64 + (s + 1), 0) by unfold partF; rw [if_pos ((partOk_iff s n).2 (Or.inr h2))]]
      obtain ⟨k1, k2, k3, k4⟩ := h2
      have HB := Lib.hid (partBits k1 k2 k3 k4)
      have HM := Lib.hid (show decide (0 ≤ s ∧ s < 32) = true by simp; omega)
      have hs : (s == -1) = false := by rw [beq_eq_false_iff_ne]; omega
      clear h1
      go_enter Try.func15, Try.ntmps15
      go_wp2_with (first | (go_at_call 25; refine (slabMay_at _ _ HM.out _).mono ?_; rintro e w1 ⟨rfl, rfl⟩))
      go_ret2
      exact ⟨by rw [← HB.out]; rfl, rfl⟩
    · rw [show partF s n = (0, 2) by unfold partF; rw [if_neg (by rw [partOk_iff]; omega)]]
      by_cases h3 : 0 ≤ s ∧ s < 32
      · have HM := Lib.hid (show decide (0 ≤ s ∧ s < 32) = true by simp; omega)
        have hs : (s == -1) = false := by rw [beq_eq_false_iff_ne]; omega
        obtain ⟨k1, k2⟩ := h3
        have k3 : n < 1 ∨ 63 < n := by omega
        clear h1 h2
        rcases k3 with k3 | k3
        all_goals
          go_enter Try.func15, Try.ntmps15
          go_wp2_with (first | (go_at_call 25; refine (slabMay_at _ _ HM.out _).mono ?_; rintro e w1 ⟨rfl, rfl⟩))
          go_ret2
          exact ⟨rfl, rfl⟩
      · have HM := Lib.hid (show decide (0 ≤ s ∧ s < 32) = false by simp; omega)
        clear h2 h3
        by_cases hs : s = -1
        · have hi : (n == 0) = false := by rw [beq_eq_false_iff_ne]; exact fun h => h1 ⟨hs, h⟩
          subst hs
          clear h1
          go_enter Try.func15, Try.ntmps15
          go_wp2_with (first | (go_at_call 25; refine (slabMay_at _ _ HM.out _).mono ?_; rintro e w1 ⟨rfl, rfl⟩))
          go_ret2
          exact ⟨rfl, rfl⟩
        · have hs' : (s == -1) = false := by rw [beq_eq_false_iff_ne]; exact hs
          clear h1
          go_enter Try.func15, Try.ntmps15
          go_wp2_with (first | (go_at_call 25; refine (slabMay_at _ _ HM.out _).mono ?_; rintro e w1 ⟨rfl, rfl⟩))
          go_ret2
          exact ⟨rfl, rfl⟩

theorem refPart_any (s n : Int) (w : World) : Calls Try.prog 16 #[.int .i64 s, .int .i64 n] w fun e w' => e = .returned (.tuple #[.int .u64 (partF s n).1, .int .i64 (partF s n).2]) ∧ w' = w := by
  by_cases h1 : s = -1 ∧ n = 0
  · obtain ⟨rfl, rfl⟩ := h1
    go_enter Try.func16, Try.ntmps16
    go_wp2
    go_ret2
    exact ⟨rfl, rfl⟩
  · by_cases h2 : 0 ≤ s ∧ s < 32 ∧ 1 ≤ n ∧ n ≤ 63
    · rw [show partF s n = (n * 64 + (s + 1), 0) by unfold partF; rw [if_pos ((partOk_iff s n).2 (Or.inr h2))]]
      obtain ⟨k1, k2, k3, k4⟩ := h2
      have hs : (s == -1) = false := by rw [beq_eq_false_iff_ne]; omega
      have HB := Lib.hid (show s + 1 + 64 * n = n * 64 + (s + 1) by omega)
      clear h1
      go_enter Try.func16, Try.ntmps16
      go_wp2
      go_ret2
      exact ⟨by rw [← HB.out]; rfl, rfl⟩
    · rw [show partF s n = (0, 2) by unfold partF; rw [if_neg (by rw [partOk_iff]; omega)]]
      go_enter Try.func16, Try.ntmps16
      go_wp2
      all_goals
        first
        | (exfalso; omega)
        | (go_ret2; exact ⟨rfl, rfl⟩)

theorem head_at (s i v e : Int) (h : headF s i = (v, e)) (w : World) : Calls Try.prog 13 #[.int .i64 s, .int .i64 i] w fun r w' => r = .returned (.tuple #[.int .u64 v, .int .i64 e]) ∧ w' = w := by
  have := head_any s i w
  rw [h] at this
  exact this
theorem refHead_at (s i v e : Int) (h : headF s i = (v, e)) (w : World) : Calls Try.prog 14 #[.int .i64 s, .int .i64 i] w fun r w' => r = .returned (.tuple #[.int .u64 v, .int .i64 e]) ∧ w' = w := by
  have := refHead_any s i w
  rw [h] at this
  exact this
theorem part_at (s i v e : Int) (h : partF s i = (v, e)) (w : World) : Calls Try.prog 15 #[.int .i64 s, .int .i64 i] w fun r w' => r = .returned (.tuple #[.int .u64 v, .int .i64 e]) ∧ w' = w := by
  have := part_any s i w
  rw [h] at this
  exact this
theorem refPart_at (s i v e : Int) (h : partF s i = (v, e)) (w : World) : Calls Try.prog 16 #[.int .i64 s, .int .i64 i] w fun r w' => r = .returned (.tuple #[.int .u64 v, .int .i64 e]) ∧ w' = w := by
  have := refPart_any s i w
  rw [h] at this
  exact this

theorem head1_any (s i : Int) (w : World) : Calls Try.prog 27 #[.int .i64 s, .int .i64 i] w fun e w' => e = .returned (.bool (headOk s i)) ∧ w' = w := by
  rcases hx : headF s i with ⟨v, e⟩
  have HX := Lib.hid hx
  cases hk : headOk s i
  · have he : e = 2 := by unfold headF at hx; rw [hk, if_neg Bool.false_ne_true] at hx; injection hx with _ h; exact h.symm
    subst he
    clear hx hk
    go_enter Try.func27, Try.ntmps27
    go_wp2_with (first | (go_at_call 13; refine (head_at _ _ _ _ HX.out _).mono ?_; rintro e w1 ⟨rfl, rfl⟩))
    go_ret
    exact ⟨rfl, rfl⟩
  · have he : e = 0 := by unfold headF at hx; rw [hk, if_pos rfl] at hx; injection hx with _ h; exact h.symm
    subst he
    clear hx hk
    go_enter Try.func27, Try.ntmps27
    go_wp2_with (first | (go_at_call 13; refine (head_at _ _ _ _ HX.out _).mono ?_; rintro e w1 ⟨rfl, rfl⟩))
    go_ret
    exact ⟨rfl, rfl⟩
theorem part1_any (s i : Int) (w : World) : Calls Try.prog 28 #[.int .i64 i, .int .i64 s] w fun e w' => e = .returned (.bool (partOk s i)) ∧ w' = w := by
  rcases hx : partF s i with ⟨v, e⟩
  have HX := Lib.hid hx
  cases hk : partOk s i
  · have he : e = 2 := by unfold partF at hx; rw [hk, if_neg Bool.false_ne_true] at hx; injection hx with _ h; exact h.symm
    subst he
    clear hx hk
    go_enter Try.func28, Try.ntmps28
    go_wp2_with (first | (go_at_call 15; refine (part_at _ _ _ _ HX.out _).mono ?_; rintro e w1 ⟨rfl, rfl⟩))
    go_ret
    exact ⟨rfl, rfl⟩
  · have he : e = 0 := by unfold partF at hx; rw [hk, if_pos rfl] at hx; injection hx with _ h; exact h.symm
    subst he
    clear hx hk
    go_enter Try.func28, Try.ntmps28
    go_wp2_with (first | (go_at_call 15; refine (part_at _ _ _ _ HX.out _).mono ?_; rintro e w1 ⟨rfl, rfl⟩))
    go_ret
    exact ⟨rfl, rfl⟩
theorem head1_at (s i : Int) (m : Bool) (h : headOk s i = m) (w : World) : Calls Try.prog 27 #[.int .i64 s, .int .i64 i] w fun e w' => e = .returned (.bool m) ∧ w' = w := h ▸ head1_any s i w
theorem part1_at (s i : Int) (m : Bool) (h : partOk s i = m) (w : World) : Calls Try.prog 28 #[.int .i64 i, .int .i64 s] w fun e w' => e = .returned (.bool m) ∧ w' = w := h ▸ part1_any s i w

end Go.Proofs.Ytmljiklddjladaa
