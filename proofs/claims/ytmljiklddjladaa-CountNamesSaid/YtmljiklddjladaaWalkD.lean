/-
  The walks of HeadOf and PartOf, of both texts.
-/
import Derived.Test.YtmljiklddjladaaWalkC
namespace Go.Proofs.Ytmljiklddjladaa
open Go.RowKit

theorem headOf_any (x : Int) (h0 : 0 ≤ x) (h1 : x < 18446744073709551616) (w : World) : Calls Try.prog 17 #[.int .u64 x] w fun e w' =>
    e = .returned (.tuple #[.int .i64 (headOfF x).1, .int .i64 (headOfF x).2.1, .bool (headOfF x).2.2]) ∧ w' = w := by
  have e1 := and_63 h0 h1
  by_cases hw : x < 4096
  · cases hk : headOk (x / 64 - 1) (x % 64 - 1)
    · rw [show headOfF x = (-1, -1, false) by unfold headOfF; rw [if_neg (fun h => Bool.false_ne_true (hk.symm.trans h.2))]]
      have HK := Lib.hid hk
      clear hk
      go_enter Try.func17, Try.ntmps17
      go_wp2_with (first | (go_at_call 27; refine (head1_at _ _ _ HK.out _).mono ?_; rintro e w1 ⟨rfl, rfl⟩) | go_in)
      go_ret3
      exact ⟨rfl, rfl⟩
    · rw [show headOfF x = (x / 64 - 1, x % 64 - 1, true) by unfold headOfF; rw [if_pos ⟨hw, hk⟩]]
      have HK := Lib.hid hk
      clear hk
      go_enter Try.func17, Try.ntmps17
      go_wp2_with (first | (go_at_call 27; refine (head1_at _ _ _ HK.out _).mono ?_; rintro e w1 ⟨rfl, rfl⟩) | go_in)
      go_ret3
      exact ⟨rfl, rfl⟩
  · rw [show headOfF x = (-1, -1, false) by unfold headOfF; rw [if_neg (fun h => hw h.1)]]
    go_enter Try.func17, Try.ntmps17
    go_wp2_with (first | go_in)
    go_ret3
    exact ⟨rfl, rfl⟩

theorem partOf_any (x : Int) (h0 : 0 ≤ x) (h1 : x < 18446744073709551616) (w : World) : Calls Try.prog 19 #[.int .u64 x] w fun e w' =>
    e = .returned (.tuple #[.int .i64 (partOfF x).1, .int .i64 (partOfF x).2.1, .bool (partOfF x).2.2]) ∧ w' = w := by
  have e1 := and_63 h0 h1
  by_cases hw : x < 4096
  · cases hk : partOk (x % 64 - 1) (x / 64)
    · rw [show partOfF x = (-1, 0, false) by unfold partOfF; rw [if_neg (fun h => Bool.false_ne_true (hk.symm.trans h.2))]]
      have HK := Lib.hid hk
      clear hk
      go_enter Try.func19, Try.ntmps19
      go_wp2_with (first | (go_at_call 28; refine (part1_at _ _ _ HK.out _).mono ?_; rintro e w1 ⟨rfl, rfl⟩) | go_in)
      go_ret3
      exact ⟨rfl, rfl⟩
    · rw [show partOfF x = (x % 64 - 1, x / 64, true) by unfold partOfF; rw [if_pos ⟨hw, hk⟩]]
      have HK := Lib.hid hk
      clear hk
      go_enter Try.func19, Try.ntmps19
      go_wp2_with (first | (go_at_call 28; refine (part1_at _ _ _ HK.out _).mono ?_; rintro e w1 ⟨rfl, rfl⟩) | go_in)
      go_ret3
      exact ⟨rfl, rfl⟩
  · rw [show partOfF x = (-1, 0, false) by unfold partOfF; rw [if_neg (fun h => hw h.1)]]
    go_enter Try.func19, Try.ntmps19
    go_wp2_with (first | go_in)
    go_ret3
    exact ⟨rfl, rfl⟩

theorem refPartOf_any (x : Int) (h0 : 0 ≤ x) (h1 : x < 18446744073709551616) (w : World) : Calls Try.prog 20 #[.int .u64 x] w fun e w' =>
    e = .returned (.tuple #[.int .i64 (partOfF x).1, .int .i64 (partOfF x).2.1, .bool (partOfF x).2.2]) ∧ w' = w := by
  by_cases hz : x = 0
  · subst hz
    go_enter Try.func20, Try.ntmps20
    go_wp2
    go_ret3
    exact ⟨rfl, rfl⟩
  · have hz' : (x == 0) = false := by rw [beq_eq_false_iff_ne]; exact hz
    have hp := partOf_two (w := x) (by omega)
    rcases hx : partF (x % 64 - 1) (x / 64 % 64) with ⟨v, e⟩
    rw [hx] at hp
    simp only [] at hp
    have HX := Lib.hid hx
    clear hx
    by_cases he : e = 0
    · subst he
      by_cases hv : v = x
      · subst hv
        rw [if_pos ⟨rfl, rfl⟩] at hp
        rw [hp]
        clear hp hz
        go_enter Try.func20, Try.ntmps20
        go_wp2_with (first | (go_at_call 16; refine (refPart_at _ _ _ _ HX.out _).mono ?_; rintro e w1 ⟨rfl, rfl⟩))
        go_ret3
        exact ⟨rfl, rfl⟩
      · rw [if_neg (fun h => hv h.2)] at hp
        rw [hp]
        clear hp hz
        go_enter Try.func20, Try.ntmps20
        go_wp2_with (first | (go_at_call 16; refine (refPart_at _ _ _ _ HX.out _).mono ?_; rintro e w1 ⟨rfl, rfl⟩))
        go_ret3
        exact ⟨rfl, rfl⟩
    · rw [if_neg (fun h => he h.1)] at hp
      rw [hp]
      clear hp hz
      go_enter Try.func20, Try.ntmps20
      go_wp2_with (first | (go_at_call 16; refine (refPart_at _ _ _ _ HX.out _).mono ?_; rintro e w1 ⟨rfl, rfl⟩))
      go_ret3
      exact ⟨rfl, rfl⟩

set_option maxHeartbeats 400000 in
theorem refHeadOf_any (x : Int) (w : World) : Calls Try.prog 18 #[.int .u64 x] w fun e w' =>
    e = .returned (.tuple #[.int .i64 (headOfF x).1, .int .i64 (headOfF x).2.1, .bool (headOfF x).2.2]) ∧ w' = w := by
  obtain ⟨R, hR⟩ : ∃ R, headOfF x = R := ⟨_, rfl⟩
  rw [hR]
  have HR := Lib.hid hR
  clear hR
  go_enter Try.func18, Try.ntmps18
  go_wp2
  go_loop [5] (fun j => ∃ s : Int, -1 ≤ s ∧ s ≤ 32 ∧ j = .int .i64 s ∧ Hid (∀ s' i' : Int, -1 ≤ s' → s' < s → -1 ≤ i' → i' < 16 → ¬ headF s' i' = (x, 0))) (fun j => (32 - intOf j).toNat)
  case atStart => exact ⟨-1, by omega, by omega, rfl, Lib.hid (fun s' i' h1 h2 => absurd h2 (by omega))⟩
  case round =>
    obtain ⟨s, hs0, hs1, rfl, HS⟩ := hrel
    by_cases hlt : s < 32
    · go_wp2
      go_loop [6] (fun j => ∃ i : Int, -1 ≤ i ∧ i ≤ 16 ∧ j = .int .i64 i ∧ Hid (∀ i' : Int, -1 ≤ i' → i' < i → ¬ headF s i' = (x, 0))) (fun j => (16 - intOf j).toNat)
      case atStart => exact ⟨-1, by omega, by omega, rfl, Lib.hid (fun i' h1 h2 => absurd h2 (by omega))⟩
      case round =>
        obtain ⟨i, hi0, hi1, rfl, HI⟩ := hrel
        by_cases hlt' : i < 16
        · rcases hx : headF s i with ⟨v, e⟩
          have HX := Lib.hid hx
          clear hx
          by_cases hv : v = x ∧ e = 0
          · obtain ⟨rfl, rfl⟩ := hv
            have HN := Lib.hid (headOf_hit HX.out)
            go_wp2_with (first | (go_at_call 14; refine (refHead_at _ _ _ _ HX.out _).mono ?_; rintro e w1 ⟨rfl, rfl⟩))
            go_ret3
            exact ⟨by rw [← HR.out, HN.out]; (first | done | rfl), rfl⟩
          · have HN : Hid (∀ i' : Int, -1 ≤ i' → i' < i + 1 → ¬ headF s i' = (x, 0)) := Lib.hid (fun i' h1 h2 h => by
              rcases Int.lt_or_le i' i with h' | h'
              · exact HI.out i' h1 h' h
              · have : i' = i := by omega
                subst this
                rw [HX.out] at h
                simp only [Prod.mk.injEq] at h
                exact hv h)
            by_cases he : e = 0
            · subst he
              have hv' : ¬ v = x := fun h => hv ⟨h, rfl⟩
              clear hv
              go_wp2_with (first | (go_at_call 14; refine (refHead_at _ _ _ _ HX.out _).mono ?_; rintro e w1 ⟨rfl, rfl⟩))
              go_round
              case rel => exact ⟨i + 1, by omega, by omega, rfl, HN⟩
              case measure => simp [intOf]; omega
            · clear hv
              go_wp2_with (first | (go_at_call 14; refine (refHead_at _ _ _ _ HX.out _).mono ?_; rintro e w1 ⟨rfl, rfl⟩))
              go_round
              case rel => exact ⟨i + 1, by omega, by omega, rfl, HN⟩
              case measure => simp [intOf]; omega
        · have HN : Hid (∀ s' i' : Int, -1 ≤ s' → s' < s + 1 → -1 ≤ i' → i' < 16 → ¬ headF s' i' = (x, 0)) := Lib.hid (fun s' i' h1 h2 h3 h4 h => by
            rcases Int.lt_or_le s' s with h' | h'
            · exact HS.out s' i' h1 h' h3 h4 h
            · have : s' = s := by omega
              subst this
              exact HI.out i' h3 (by omega) h)
          go_wp2
          go_round
          case rel => exact ⟨s + 1, by omega, by omega, rfl, HN⟩
          case measure => simp [intOf]; omega
    · have hs : s = 32 := by omega
      subst hs
      have HN := Lib.hid (headOf_none (fun s i h1 h2 h3 h4 => HS.out s i h1 h2 h3 h4))
      go_wp2
      go_ret3
      exact ⟨by rw [← HR.out, HN.out]; (first | done | rfl), rfl⟩

theorem headOf_at (x s i : Int) (b : Bool) (h0 : 0 ≤ x) (h1 : x < 18446744073709551616) (h : headOfF x = (s, i, b)) (w : World) : Calls Try.prog 17 #[.int .u64 x] w fun r w' =>
    r = .returned (.tuple #[.int .i64 s, .int .i64 i, .bool b]) ∧ w' = w := by
  have := headOf_any x h0 h1 w
  rw [h] at this
  exact this
theorem refHeadOf_at (x s i : Int) (b : Bool) (h : headOfF x = (s, i, b)) (w : World) : Calls Try.prog 18 #[.int .u64 x] w fun r w' =>
    r = .returned (.tuple #[.int .i64 s, .int .i64 i, .bool b]) ∧ w' = w := by
  have := refHeadOf_any x w
  rw [h] at this
  exact this
theorem partOf_at (x s i : Int) (b : Bool) (h0 : 0 ≤ x) (h1 : x < 18446744073709551616) (h : partOfF x = (s, i, b)) (w : World) : Calls Try.prog 19 #[.int .u64 x] w fun r w' =>
    r = .returned (.tuple #[.int .i64 s, .int .i64 i, .bool b]) ∧ w' = w := by
  have := partOf_any x h0 h1 w
  rw [h] at this
  exact this
theorem refPartOf_at (x s i : Int) (b : Bool) (h0 : 0 ≤ x) (h1 : x < 18446744073709551616) (h : partOfF x = (s, i, b)) (w : World) : Calls Try.prog 20 #[.int .u64 x] w fun r w' =>
    r = .returned (.tuple #[.int .i64 s, .int .i64 i, .bool b]) ∧ w' = w := by
  have := refPartOf_any x h0 h1 w
  rw [h] at this
  exact this

end Go.Proofs.Ytmljiklddjladaa
