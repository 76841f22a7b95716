/-
  The walks of Hide and Show, of both texts.
-/
import Derived.Test.YtklhlhfplkmpmaaWalkA
namespace Go.Proofs.Ytklhlhfplkmpmaa
open Go.RowKit

theorem turned_at (key : Nat) (hk : key < 18446744073709551616) (i : Int) (hi : 0 ≤ i ∧ i < 16) (w : World) : Calls Try.prog 24 #[.int .u64 key, .int .i64 i] w fun e w' =>
    e = .returned (.int .u64 (turnF key i.toNat)) ∧ w' = w := by
  have := turned_any key hk i.toNat (by omega) w
  rwa [Int.toNat_of_nonneg hi.1] at this
theorem refTurned_at (key : Nat) (hk : key < 18446744073709551616) (i : Int) (hi : 0 ≤ i ∧ i < 16) (w : World) : Calls Try.prog 25 #[.int .u64 key, .int .i64 i] w fun e w' =>
    e = .returned (.int .u64 (turnF key i.toNat)) ∧ w' = w := by
  have := refTurned_any key hk i.toNat (by omega) w
  rwa [Int.toNat_of_nonneg hi.1] at this

theorem xor_hide {n : Int} (hn : -1 ≤ n ∧ n < 16) (key t : Nat) : bits .xor .u64 (n + 1) (turnF key t : Nat) = ((hideW (n + 1).toNat key t : Nat) : Int) := by
  obtain ⟨m, hm⟩ := Int.eq_ofNat_of_zero_le (show 0 ≤ n + 1 by omega)
  rw [hm, bits_xor_u64_nat m _ (by omega) (turnF_lt _ _)]
  rfl
theorem xor_show {x : Nat} (hx : x < 18446744073709551616) (key t : Nat) : bits .xor .u64 (x : Int) (turnF key t : Nat) = ((hideW x key t : Nat) : Int) := by
  rw [bits_xor_u64_nat x _ hx (turnF_lt _ _)]
  rfl

theorem hide_any (n : Int) (key : Nat) (hk : key < 18446744073709551616) (i : Int) (w : World) : Calls Try.prog 10 #[.int .i64 n, .int .u64 key, .int .i64 i] w fun e w' =>
    e = .returned (.tuple #[.int .u64 (hideF n key i).1, .int .i64 (hideF n key i).2]) ∧ w' = w := by
  by_cases h1 : -1 ≤ n ∧ n < 16
  · by_cases h2 : 0 ≤ i ∧ i < 16
    · rw [show hideF n key i = (((hideW (n + 1).toNat key i.toNat : Nat) : Int), 0) by unfold hideF; rw [if_pos ⟨(okN_iff n).2 h1, (okA_iff i).2 h2⟩]]
      have HX := Lib.hid (xor_hide h1 key i.toNat)
      have HI := Lib.hid (show decide (0 ≤ i ∧ i < 16) = true by simp; omega)
      have ht := turnF_lt key i.toNat
      by_cases h3 : n = -1
      · subst h3
        have HX' : Hid (bits .xor .u64 0 (turnF key i.toNat : Nat) = ((hideW ((-1 : Int) + 1).toNat key i.toNat : Nat) : Int)) := Lib.hid HX.out
        clear HX
        go_enter Try.func10, Try.ntmps10
        go_wp2_with (first | (go_at_call 23; with_reducible refine (object_at i _ HI.out _).mono ?_; rintro e w0 ⟨rfl, hw0⟩; replace hw0 := hw0.symm; subst hw0) | (go_at_call 24; with_reducible refine (turned_at key hk i h2 _).mono ?_; rintro e w0 ⟨rfl, hw0⟩; replace hw0 := hw0.symm; subst hw0))
        go_ret2
        exact ⟨by rw [← HX'.out]; rfl, rfl⟩
      · have h3' : (n != -1) = true := by rw [bne_iff_ne]; exact h3
        have HN := Lib.hid (show decide (0 ≤ n ∧ n < 16) = true by simp; omega)
        clear h3
        go_enter Try.func10, Try.ntmps10
        go_wp2_with (first | (go_at_call 23; with_reducible refine (object_at i _ HI.out _).mono ?_; rintro e w0 ⟨rfl, hw0⟩; replace hw0 := hw0.symm; subst hw0) | (go_at_call 23; with_reducible refine (object_at n _ HN.out _).mono ?_; rintro e w0 ⟨rfl, hw0⟩; replace hw0 := hw0.symm; subst hw0) | (go_at_call 24; with_reducible refine (turned_at key hk i h2 _).mono ?_; rintro e w0 ⟨rfl, hw0⟩; replace hw0 := hw0.symm; subst hw0))
        go_ret2
        exact ⟨by rw [← HX.out]; rfl, rfl⟩
    · rw [show hideF n key i = (0, 2) by unfold hideF; rw [if_neg (fun h => h2 ((okA_iff i).1 h.2))]]
      have HI := Lib.hid (show decide (0 ≤ i ∧ i < 16) = false by simp; omega)
      clear h2
      by_cases h3 : n = -1
      · subst h3
        go_enter Try.func10, Try.ntmps10
        go_wp2_with (first | (go_at_call 23; with_reducible refine (object_at i _ HI.out _).mono ?_; rintro e w0 ⟨rfl, hw0⟩; replace hw0 := hw0.symm; subst hw0))
        go_ret2
        exact ⟨rfl, rfl⟩
      · have h3' : (n != -1) = true := by rw [bne_iff_ne]; exact h3
        have HN := Lib.hid (show decide (0 ≤ n ∧ n < 16) = true by simp; omega)
        clear h3
        go_enter Try.func10, Try.ntmps10
        go_wp2_with (first | (go_at_call 23; with_reducible refine (object_at i _ HI.out _).mono ?_; rintro e w0 ⟨rfl, hw0⟩; replace hw0 := hw0.symm; subst hw0) | (go_at_call 23; with_reducible refine (object_at n _ HN.out _).mono ?_; rintro e w0 ⟨rfl, hw0⟩; replace hw0 := hw0.symm; subst hw0))
        go_ret2
        exact ⟨rfl, rfl⟩
  · rw [show hideF n key i = (0, 2) by unfold hideF; rw [if_neg (fun h => h1 ((okN_iff n).1 h.1))]]
    have h3' : (n != -1) = true := by rw [bne_iff_ne]; omega
    have HN := Lib.hid (show decide (0 ≤ n ∧ n < 16) = false by simp; omega)
    clear h1
    go_enter Try.func10, Try.ntmps10
    go_wp2_with (first | (go_at_call 23; with_reducible refine (object_at n _ HN.out _).mono ?_; rintro e w0 ⟨rfl, hw0⟩; replace hw0 := hw0.symm; subst hw0))
    go_ret2
    exact ⟨rfl, rfl⟩

theorem refHide_any (n : Int) (key : Nat) (hk : key < 18446744073709551616) (i : Int) (w : World) : Calls Try.prog 11 #[.int .i64 n, .int .u64 key, .int .i64 i] w fun e w' =>
    e = .returned (.tuple #[.int .u64 (hideF n key i).1, .int .i64 (hideF n key i).2]) ∧ w' = w := by
  by_cases h : (-1 ≤ n ∧ n < 16) ∧ (0 ≤ i ∧ i < 16)
  · obtain ⟨h1, h2⟩ := h
    rw [show hideF n key i = (((hideW (n + 1).toNat key i.toNat : Nat) : Int), 0) by unfold hideF; rw [if_pos ⟨(okN_iff n).2 h1, (okA_iff i).2 h2⟩]]
    have HX := Lib.hid (xor_hide h1 key i.toNat)
    have ht := turnF_lt key i.toNat
    go_enter Try.func11, Try.ntmps11
    go_wp2_with (first | (go_at_call 25; with_reducible refine (refTurned_at key hk i h2 _).mono ?_; rintro e w0 ⟨rfl, hw0⟩; replace hw0 := hw0.symm; subst hw0))
    go_ret2
    exact ⟨by rw [← HX.out]; rfl, rfl⟩
  · rw [show hideF n key i = (0, 2) by unfold hideF; rw [if_neg (fun h' => h ⟨(okN_iff n).1 h'.1, (okA_iff i).1 h'.2⟩)]]
    have h4 : n < -1 ∨ 16 ≤ n ∨ i < 0 ∨ 16 ≤ i := by omega
    clear h
    rcases h4 with h4 | h4 | h4 | h4
    all_goals
      go_enter Try.func11, Try.ntmps11
      go_wp2
      all_goals
        go_ret2
        exact ⟨rfl, rfl⟩

theorem show_any (x key : Nat) (hx : x < 18446744073709551616) (hk : key < 18446744073709551616) (i : Int) (w : World) : Calls Try.prog 12 #[.int .u64 x, .int .u64 key, .int .i64 i] w fun e w' =>
    e = .returned (.tuple #[.int .i64 (showF x key i).1, .bool (showF x key i).2]) ∧ w' = w := by
  by_cases h2 : 0 ≤ i ∧ i < 16
  · have HI := Lib.hid (show decide (0 ≤ i ∧ i < 16) = true by simp; omega)
    have hX := xor_show hx key i.toNat
    have hx' := hideW_lt hx key i.toNat
    by_cases h3 : hideW x key i.toNat ≤ 16
    · rw [show showF x key i = (((hideW x key i.toNat : Nat) : Int) - 1, true) by unfold showF; rw [if_pos ⟨(okA_iff i).2 h2, h3⟩]]
      go_enter Try.func12, Try.ntmps12
      go_wp2_with (first | (go_at_call 23; with_reducible refine (object_at i _ HI.out _).mono ?_; rintro e w0 ⟨rfl, hw0⟩; replace hw0 := hw0.symm; subst hw0) | (go_at_call 24; with_reducible refine (turned_at key hk i h2 _).mono ?_; rintro e w0 ⟨rfl, hw0⟩; replace hw0 := hw0.symm; subst hw0))
      go_ret2
      exact ⟨rfl, rfl⟩
    · rw [show showF x key i = (0, false) by unfold showF; rw [if_neg (fun h => h3 h.2)]]
      go_enter Try.func12, Try.ntmps12
      go_wp2_with (first | (go_at_call 23; with_reducible refine (object_at i _ HI.out _).mono ?_; rintro e w0 ⟨rfl, hw0⟩; replace hw0 := hw0.symm; subst hw0) | (go_at_call 24; with_reducible refine (turned_at key hk i h2 _).mono ?_; rintro e w0 ⟨rfl, hw0⟩; replace hw0 := hw0.symm; subst hw0))
      go_ret2
      exact ⟨rfl, rfl⟩
  · rw [show showF x key i = (0, false) by unfold showF; rw [if_neg (fun h => h2 ((okA_iff i).1 h.1))]]
    have HI := Lib.hid (show decide (0 ≤ i ∧ i < 16) = false by simp; omega)
    clear h2
    go_enter Try.func12, Try.ntmps12
    go_wp2_with (first | (go_at_call 23; with_reducible refine (object_at i _ HI.out _).mono ?_; rintro e w0 ⟨rfl, hw0⟩; replace hw0 := hw0.symm; subst hw0))
    go_ret2
    exact ⟨rfl, rfl⟩

theorem refShow_any (x key : Nat) (hx : x < 18446744073709551616) (hk : key < 18446744073709551616) (i : Int) (w : World) : Calls Try.prog 13 #[.int .u64 x, .int .u64 key, .int .i64 i] w fun e w' =>
    e = .returned (.tuple #[.int .i64 (showF x key i).1, .bool (showF x key i).2]) ∧ w' = w := by
  by_cases h2 : 0 ≤ i ∧ i < 16
  · have hX := xor_show hx key i.toNat
    have hx' := hideW_lt hx key i.toNat
    by_cases h3 : hideW x key i.toNat ≤ 16
    · rw [show showF x key i = (((hideW x key i.toNat : Nat) : Int) - 1, true) by unfold showF; rw [if_pos ⟨(okA_iff i).2 h2, h3⟩]]
      go_enter Try.func13, Try.ntmps13
      go_wp2_with (first | (go_at_call 25; with_reducible refine (refTurned_at key hk i h2 _).mono ?_; rintro e w0 ⟨rfl, hw0⟩; replace hw0 := hw0.symm; subst hw0))
      go_ret2
      exact ⟨rfl, rfl⟩
    · rw [show showF x key i = (0, false) by unfold showF; rw [if_neg (fun h => h3 h.2)]]
      go_enter Try.func13, Try.ntmps13
      go_wp2_with (first | (go_at_call 25; with_reducible refine (refTurned_at key hk i h2 _).mono ?_; rintro e w0 ⟨rfl, hw0⟩; replace hw0 := hw0.symm; subst hw0))
      go_ret2
      exact ⟨rfl, rfl⟩
  · rw [show showF x key i = (0, false) by unfold showF; rw [if_neg (fun h => h2 ((okA_iff i).1 h.1))]]
    have h4 : i < 0 ∨ 16 ≤ i := by omega
    clear h2
    rcases h4 with h4 | h4
    all_goals
      go_enter Try.func13, Try.ntmps13
      go_wp2
      go_ret2
      exact ⟨rfl, rfl⟩

theorem hide_at (n : Int) (key : Nat) (hk : key < 18446744073709551616) (i v e : Int) (h : hideF n key i = (v, e)) (w : World) : Calls Try.prog 10 #[.int .i64 n, .int .u64 key, .int .i64 i] w fun r w' =>
    r = .returned (.tuple #[.int .u64 v, .int .i64 e]) ∧ w' = w := by
  have := hide_any n key hk i w
  rwa [h] at this
theorem refHide_at (n : Int) (key : Nat) (hk : key < 18446744073709551616) (i v e : Int) (h : hideF n key i = (v, e)) (w : World) : Calls Try.prog 11 #[.int .i64 n, .int .u64 key, .int .i64 i] w fun r w' =>
    r = .returned (.tuple #[.int .u64 v, .int .i64 e]) ∧ w' = w := by
  have := refHide_any n key hk i w
  rwa [h] at this
theorem show_at (x key : Nat) (hx : x < 18446744073709551616) (hk : key < 18446744073709551616) (i n : Int) (b : Bool) (h : showF x key i = (n, b)) (w : World) : Calls Try.prog 12 #[.int .u64 x, .int .u64 key, .int .i64 i] w fun e w' =>
    e = .returned (.tuple #[.int .i64 n, .bool b]) ∧ w' = w := by
  have := show_any x key hx hk i w
  rwa [h] at this
theorem refShow_at (x key : Nat) (hx : x < 18446744073709551616) (hk : key < 18446744073709551616) (i n : Int) (b : Bool) (h : showF x key i = (n, b)) (w : World) : Calls Try.prog 13 #[.int .u64 x, .int .u64 key, .int .i64 i] w fun e w' =>
    e = .returned (.tuple #[.int .i64 n, .bool b]) ∧ w' = w := by
  have := refShow_any x key hx hk i w
  rwa [h] at this

end Go.Proofs.Ytklhlhfplkmpmaa
