/-
  The walks of the other text's Check, and of Step (of both texts).
-/
import Derived.Test.YtmmfghialjmgmaaRows
import Derived.Test.YtmmfghialjmgmaaPlain
import Derived.Test.YtmmfghialjmgmaaFrame
import Derived.Test.YtmmfghialjmgmaaWalkC
import Derived.Test.YtmmfghialjmgmaaBits
import Derived.WalkKit
import Derived.WalkSpells
import Derived.WalkLawsBesides
import Derived.Handy
import Derived.Lib.Hide
import Derived.Deep.RegionHeld3
import Derived.Test.YtmmfghialjmgmaaExt
import Derived.Deep.QuietTactic
import Derived.BigQuiet
namespace Go.Proofs.Ytmmfghialjmgmaa
open Go.RowKit


theorem refServes_any (s a f s' a' f' : Int) (w : World) : Calls Try.prog 14 #[.agg #[.int .i64 s, .int .i64 a, .int .i64 f], .agg #[.int .i64 s', .int .i64 a', .int .i64 f']] w fun e w' =>
    e = .returned (.bool (servesB s a f s' a' f')) ∧ Below w.heap.size w w' := by
  cases h : okB s a f
  · have hs : servesB s a f s' a' f' = false := by simp [servesB, h]
    have e1 := errOf_no h
    rw [hs]
    go_enter Try.func14, Try.ntmps14
    go_wp2_with (first | (go_at_call 10; refine (refCheck_any _ _ _ _).mono ?_; rintro e w1 ⟨rfl, hb1⟩; obtain ⟨hz1, hc1, hf1⟩ := bcellB hb1 (w.heap.size + 2) (by go_size)))
    go_ret
    exact ⟨rfl, by (repeat' (first | (with_reducible exact Below.refl _ _) | (with_reducible assumption) | (with_reducible refine Below.alloc ?_ ?_ _) | (with_reducible refine below_drewN ?_ _) | (with_reducible refine Below.drew ?_) | (with_reducible refine Below.setCell ?_ ?_ _) | (with_reducible refine below_two ?_ (by with_reducible assumption)) | go_size))⟩
  cases h' : okB s' a' f'
  · have hs : servesB s a f s' a' f' = false := by simp [servesB, h']
    have e1 := errOf_ok h
    have e2 := errOf_no h'
    rw [hs]
    go_enter Try.func14, Try.ntmps14
    go_wp2_with (first | (go_at_call 10; refine (refCheck_any _ _ _ _).mono ?_; rintro e w1 ⟨rfl, hb1⟩; obtain ⟨hz1, hc1, hf1⟩ := bcellB hb1 (w.heap.size + 2) (by go_size)))
    go_ret
    exact ⟨rfl, by (repeat' (first | (with_reducible exact Below.refl _ _) | (with_reducible assumption) | (with_reducible refine Below.alloc ?_ ?_ _) | (with_reducible refine below_drewN ?_ _) | (with_reducible refine Below.drew ?_) | (with_reducible refine Below.setCell ?_ ?_ _) | (with_reducible refine below_two ?_ (by with_reducible assumption)) | go_size))⟩
  · obtain ⟨hal, hs1, hs2, hf1, hf2⟩ := (okB_iff _ _ _).1 h
    obtain ⟨hal', hs1', hs2', hf1', hf2'⟩ := (okB_iff _ _ _).1 h'
    have e1 := errOf_ok h
    have e2 := errOf_ok h'
    by_cases hff : f = 0 ∧ f' = 0
    · obtain ⟨rfl, rfl⟩ := hff
      have ha1 : 8 ≤ a := by omega
      have ha1' : 8 ≤ a' := by omega
      clear hal hal'
      have hs : servesB s a 0 s' a' 0 = (stepOf s a 0 == stepOf s' a' 0 && a % a' == 0) := by simp [servesB, h, h']
      rw [hs]
      clear hs
      cases hst : (stepOf s a 0 == stepOf s' a' 0)
      all_goals
        go_enter Try.func14, Try.ntmps14
        go_wp2_with (first | (go_at_call 10; refine (refCheck_any _ _ _ _).mono ?_; rintro e w1 ⟨rfl, hb1⟩; obtain ⟨hz1, hc1, hf1⟩ := bcellB hb1 (w.heap.size + 2) (by go_size)))
        (refine wp_region_ext (w.heap.size + 2) (by kernel_rfl) (by kernel_rfl) (by go_size) (fun hxc hxf hxh hxn => ?_); (repeat (first | go_big_quiet_step (first | (go_at_call 12; exact ext_call (refStep_any _ _ _ _))) | quiet_step (first | (go_at_call 12; exact ext_call (refStep_any _ _ _ _))))); refine wpQuiet_nil ?_; intro w1 hs1; clear hxc hxf hxh hxn; obtain ⟨hb1, hz1, hc1, hf1⟩ := ext_known hs1 (w.heap.size + 2) (by go_size); clear hs1)
        go_wp2
        go_ret
        exact ⟨by simp, by (repeat' (first | (with_reducible exact Below.refl _ _) | (with_reducible assumption) | (with_reducible refine Below.alloc ?_ ?_ _) | (with_reducible refine below_drewN ?_ _) | (with_reducible refine Below.drew ?_) | (with_reducible refine Below.setCell ?_ ?_ _) | (with_reducible refine below_two ?_ (by with_reducible assumption)) | go_size))⟩
    · have hs : servesB s a f s' a' f' = false := by
        simp only [servesB, h, h', Bool.true_and, Bool.and_eq_false_iff, beq_eq_false_iff_ne]
        omega
      rw [hs]
      clear hs
      by_cases hf0 : f = 0
      · subst hf0
        have b2 : (f' != 0) = true := by rw [bne_iff_ne]; omega
        clear hff
        go_enter Try.func14, Try.ntmps14
        go_wp2_with (first | (go_at_call 10; refine (refCheck_any _ _ _ _).mono ?_; rintro e w1 ⟨rfl, hb1⟩; obtain ⟨hz1, hc1, hf1⟩ := bcellB hb1 (w.heap.size + 2) (by go_size)))
        go_ret
        exact ⟨rfl, by (repeat' (first | (with_reducible exact Below.refl _ _) | (with_reducible assumption) | (with_reducible refine Below.alloc ?_ ?_ _) | (with_reducible refine below_drewN ?_ _) | (with_reducible refine Below.drew ?_) | (with_reducible refine Below.setCell ?_ ?_ _) | (with_reducible refine below_two ?_ (by with_reducible assumption)) | go_size))⟩
      · have b1 : (f != 0) = true := by rw [bne_iff_ne]; omega
        clear hff hf0
        go_enter Try.func14, Try.ntmps14
        go_wp2_with (first | (go_at_call 10; refine (refCheck_any _ _ _ _).mono ?_; rintro e w1 ⟨rfl, hb1⟩; obtain ⟨hz1, hc1, hf1⟩ := bcellB hb1 (w.heap.size + 2) (by go_size)))
        go_ret
        exact ⟨rfl, by (repeat' (first | (with_reducible exact Below.refl _ _) | (with_reducible assumption) | (with_reducible refine Below.alloc ?_ ?_ _) | (with_reducible refine below_drewN ?_ _) | (with_reducible refine Below.drew ?_) | (with_reducible refine Below.setCell ?_ ?_ _) | (with_reducible refine below_two ?_ (by with_reducible assumption)) | go_size))⟩

end Go.Proofs.Ytmmfghialjmgmaa
