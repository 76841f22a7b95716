/-
  The walks of the other text's Check, and of Step (of both texts).
-/
import Derived.Test.YtmmfghialjmgmaaRows
import Derived.Test.YtmmfghialjmgmaaPlain
import Derived.Test.YtmmfghialjmgmaaFrame
import Derived.Test.YtmmfghialjmgmaaWalkB
import Derived.Test.YtmmfghialjmgmaaBits
import Derived.WalkKit
import Derived.WalkSpells
import Derived.WalkLawsBesides
import Derived.Handy
import Derived.Lib.Hide
import Derived.Deep.RegionHeld3
import Derived.Test.YtmmfghialjmgmaaExt
import Derived.Deep.QuietTactic
import Derived.BigQuiet
namespace Go.Proofs.Ytmmfghialjmgmaa
open Go.RowKit


theorem check_yes {s a f : Int} (h : okB s a f = true) (w : World) : Calls Try.prog 9 #[.agg #[.int .i64 s, .int .i64 a, .int .i64 f]] w fun e w' =>
    e = .returned (.int .i64 0) ∧ Below w.heap.size w w' := by
  have := check_any s a f w
  rwa [errOf_ok h] at this
theorem check_no {s a f : Int} (h : okB s a f = false) (w : World) : Calls Try.prog 9 #[.agg #[.int .i64 s, .int .i64 a, .int .i64 f]] w fun e w' =>
    e = .returned (.int .i64 2) ∧ Below w.heap.size w w' := by
  have := check_any s a f w
  rwa [errOf_no h] at this
theorem refCheck_yes {s a f : Int} (h : okB s a f = true) (w : World) : Calls Try.prog 10 #[.agg #[.int .i64 s, .int .i64 a, .int .i64 f]] w fun e w' =>
    e = .returned (.int .i64 0) ∧ Below w.heap.size w w' := by
  have := refCheck_any s a f w
  rwa [errOf_ok h] at this
theorem refCheck_no {s a f : Int} (h : okB s a f = false) (w : World) : Calls Try.prog 10 #[.agg #[.int .i64 s, .int .i64 a, .int .i64 f]] w fun e w' =>
    e = .returned (.int .i64 2) ∧ Below w.heap.size w w' := by
  have := refCheck_any s a f w
  rwa [errOf_no h] at this

theorem step_any (s a f : Int) (w : World) : Calls Try.prog 11 #[.agg #[.int .i64 s, .int .i64 a, .int .i64 f]] w fun e w' =>
    e = .returned (.int .i64 (stepOf s a f)) ∧ Below w.heap.size w w' := by
  cases h : okB s a f
  · rw [stepOf_no h]
    go_enter Try.func11, Try.ntmps11
    go_wp2_with (go_at_call 9; refine (check_no h _).mono ?_; rintro e w1 ⟨rfl, hb1⟩)
    go_ret
    exact ⟨rfl, below_box hb1⟩
  · rw [stepOf_ok h]
    have hok := (okB_iff _ _ _).1 h
    go_enter Try.func11, Try.ntmps11
    go_wp2_with (go_at_call 9; refine (check_yes h _).mono ?_; rintro e w1 ⟨rfl, hb1⟩; obtain ⟨hc1, hf1⟩ := bcell hb1)
    go_ret
    exact ⟨ret_int (stepBits h), below_box hb1⟩

theorem refStep_any (s a f : Int) (w : World) : Calls Try.prog 12 #[.agg #[.int .i64 s, .int .i64 a, .int .i64 f]] w fun e w' =>
    e = .returned (.int .i64 (stepOf s a f)) ∧ Below w.heap.size w w' := by
  cases h : okB s a f
  · rw [stepOf_no h]
    go_enter Try.func12, Try.ntmps12
    go_wp2_with (go_at_call 10; refine (refCheck_no h _).mono ?_; rintro e w1 ⟨rfl, hb1⟩)
    go_ret
    exact ⟨rfl, below_box hb1⟩
  · rw [stepOf_ok h]
    obtain ⟨hal, hs1, hs2, _⟩ := (okB_iff _ _ _).1 h
    have ha1 : 8 ≤ a := by omega
    have ha2 : a ≤ 64 := by omega
    clear hal
    have hu := up_le (n := s + a - 1) (a := a) (by omega)
    have hn := up_nn (n := s + a - 1) (a := a) (by omega) (by omega)
    go_enter Try.func12, Try.ntmps12
    go_wp2_with (go_at_call 10; refine (refCheck_yes h _).mono ?_; rintro e w1 ⟨rfl, hb1⟩; obtain ⟨hc1, hf1⟩ := bcell hb1)
    go_quiet (fail)
    go_wp2
    go_ret
    exact ⟨rfl, below_drewN (below_box hb1) _⟩


theorem errB {s a f : Int} : (errOf s a f != 0) = !okB s a f := by
  unfold errOf; cases okB s a f <;> rfl

theorem serves_any (s a f s' a' f' : Int) (w : World) : Calls Try.prog 13 #[.agg #[.int .i64 s, .int .i64 a, .int .i64 f], .agg #[.int .i64 s', .int .i64 a', .int .i64 f']] w fun e w' =>
    e = .returned (.bool (servesB s a f s' a' f')) ∧ Below w.heap.size w w' := by
  cases h : okB s a f
  · have hs : servesB s a f s' a' f' = false := by simp [servesB, h]
    have e1 := errOf_no h
    rw [hs]
    go_enter Try.func13, Try.ntmps13
    go_wp2_with (first | (go_at_call 9; refine (check_any _ _ _ _).mono ?_; rintro e w1 ⟨rfl, hb1⟩; obtain ⟨hz1, hc1, hf1⟩ := bcellB hb1 (w.heap.size + 2) (by go_size)))
    go_ret
    exact ⟨rfl, by (repeat' (first | (with_reducible exact Below.refl _ _) | (with_reducible assumption) | (with_reducible refine Below.alloc ?_ ?_ _) | (with_reducible refine below_drewN ?_ _) | (with_reducible refine Below.drew ?_) | (with_reducible refine Below.setCell ?_ ?_ _) | (with_reducible refine below_two ?_ (by with_reducible assumption)) | go_size))⟩
  cases h' : okB s' a' f'
  · have hs : servesB s a f s' a' f' = false := by simp [servesB, h']
    have e1 := errOf_ok h
    have e2 := errOf_no h'
    rw [hs]
    go_enter Try.func13, Try.ntmps13
    go_wp2_with (first | (go_at_call 9; refine (check_any _ _ _ _).mono ?_; rintro e w1 ⟨rfl, hb1⟩; obtain ⟨hz1, hc1, hf1⟩ := bcellB hb1 (w.heap.size + 2) (by go_size)))
    go_ret
    exact ⟨rfl, by (repeat' (first | (with_reducible exact Below.refl _ _) | (with_reducible assumption) | (with_reducible refine Below.alloc ?_ ?_ _) | (with_reducible refine below_drewN ?_ _) | (with_reducible refine Below.drew ?_) | (with_reducible refine Below.setCell ?_ ?_ _) | (with_reducible refine below_two ?_ (by with_reducible assumption)) | go_size))⟩
  · obtain ⟨hal, hs1, hs2, hf1, hf2⟩ := (okB_iff _ _ _).1 h
    obtain ⟨hal', hs1', hs2', hf1', hf2'⟩ := (okB_iff _ _ _).1 h'
    have e1 := errOf_ok h
    have e2 := errOf_ok h'
    by_cases hff : f = 0 ∧ f' = 0
    · obtain ⟨rfl, rfl⟩ := hff
      have ha1 : 8 ≤ a := by omega
      have ha1' : 8 ≤ a' := by omega
      have e3 : (bits .or .i64 0 0 != 0) = false := by decide
      clear hal hal'
      have hs : servesB s a 0 s' a' 0 = (stepOf s a 0 == stepOf s' a' 0 && a % a' == 0) := by simp [servesB, h, h']
      rw [hs]
      clear hs
      cases hst : (stepOf s a 0 == stepOf s' a' 0)
      all_goals
        go_enter Try.func13, Try.ntmps13
        go_wp2_with (first | (go_at_call 9; refine (check_any _ _ _ _).mono ?_; rintro e w1 ⟨rfl, hb1⟩; obtain ⟨hz1, hc1, hf1⟩ := bcellB hb1 (w.heap.size + 2) (by go_size)))
        (refine wp_region_ext (w.heap.size + 2) (by kernel_rfl) (by kernel_rfl) (by go_size) (fun hxc hxf hxh hxn => ?_); (repeat (first | go_big_quiet_step (first | (go_at_call 11; exact ext_call (step_any _ _ _ _))) | quiet_step (first | (go_at_call 11; exact ext_call (step_any _ _ _ _))))); refine wpQuiet_nil ?_; intro w1 hs1; clear hxc hxf hxh hxn; obtain ⟨hb1, hz1, hc1, hf1⟩ := ext_known hs1 (w.heap.size + 2) (by go_size); clear hs1)
        go_wp2
        go_ret
        exact ⟨by simp, by (repeat' (first | (with_reducible exact Below.refl _ _) | (with_reducible assumption) | (with_reducible refine Below.alloc ?_ ?_ _) | (with_reducible refine below_drewN ?_ _) | (with_reducible refine Below.drew ?_) | (with_reducible refine Below.setCell ?_ ?_ _) | (with_reducible refine below_two ?_ (by with_reducible assumption)) | go_size))⟩
    · have hs : servesB s a f s' a' f' = false := by
        simp only [servesB, h, h', Bool.true_and, Bool.and_eq_false_iff, beq_eq_false_iff_ne]
        omega
      rw [hs]
      have e3 := orNe hf1 hf2 hf1' hf2'
      have e4 : (f == 0 && f' == 0) = false := by
        simp only [Bool.and_eq_false_iff, beq_eq_false_iff_ne]
        omega
      rw [e4] at e3
      clear hff e4 hs
      go_enter Try.func13, Try.ntmps13
      go_wp2_with (first | (go_at_call 9; refine (check_any _ _ _ _).mono ?_; rintro e w1 ⟨rfl, hb1⟩; obtain ⟨hz1, hc1, hf1⟩ := bcellB hb1 (w.heap.size + 2) (by go_size)))
      go_ret
      exact ⟨rfl, by (repeat' (first | (with_reducible exact Below.refl _ _) | (with_reducible assumption) | (with_reducible refine Below.alloc ?_ ?_ _) | (with_reducible refine below_drewN ?_ _) | (with_reducible refine Below.drew ?_) | (with_reducible refine Below.setCell ?_ ?_ _) | (with_reducible refine below_two ?_ (by with_reducible assumption)) | go_size))⟩

end Go.Proofs.Ytmmfghialjmgmaa
