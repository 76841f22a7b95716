/-
  The walks of the laws AliasRoom.
-/
import Derived.Test.YtmmfghialjmgmaaLawA
import Derived.Test.YtmmfghialjmgmaaMade
import Derived.Test.YtmmfghialjmgmaaPlainB
import Derived.Test.YtmmfghialjmgmaaTail
import Derived.Test.YtmmfghialjmgmaaStore
namespace Go.Proofs.Ytmmfghialjmgmaa
open Go.RowKit

theorem room_any (s a f s' a' f' : Int) (w : World) : Calls Try.prog 6 #[.agg #[.int .i64 s, .int .i64 a, .int .i64 f], .agg #[.int .i64 s', .int .i64 a', .int .i64 f']] w fun e w' =>
    e = .returned (.bool true) ∧ Below w.heap.size w w' := by
  cases hs : servesB s a f s' a' f'
  · cases h : okB s a f
    · have e1 := errOf_no h
      clear h
      go_enter Try.func6, Try.ntmps6
      go_wp2_with (first | (go_at_call 13; refine (serves_any _ _ _ _ _ _ _).mono ?_; rintro e w1 ⟨rfl, hb1⟩; obtain ⟨hz1, hc1, hf1⟩ := bcellB hb1 (w.heap.size + 2) (by go_size)))
      (refine wp_region_ext (w.heap.size + 2) (by kernel_rfl) (by kernel_rfl) (by go_size) (fun hxc hxf hxh hxn => ?_); (repeat (first | go_big_quiet_step (first | (go_at_call 9; exact ext_call (check_any _ _ _ _)) | (go_at_call 11; exact ext_call (step_any _ _ _ _)) | (go_at_call 15; exact ext_call (works_any _))) | quiet_step (first | (go_at_call 9; exact ext_call (check_any _ _ _ _)) | (go_at_call 11; exact ext_call (step_any _ _ _ _)) | (go_at_call 15; exact ext_call (works_any _))))); refine wpQuiet_nil ?_; intro w1 hs1; clear hxc hxf hxh hxn; obtain ⟨hb1, hz1, hc1, hf1⟩ := ext_known hs1 (w.heap.size + 2) (by go_size); clear hs1)
      go_wp2
      go_ret
      exact ⟨rfl, by (repeat' (first | (with_reducible exact Below.refl _ _) | (with_reducible assumption) | (with_reducible refine Below.alloc ?_ ?_ _) | (with_reducible refine below_drewN ?_ _) | (with_reducible refine Below.drew ?_) | (with_reducible refine Below.setCell ?_ ?_ _) | (with_reducible refine below_two ?_ (by with_reducible assumption)) | go_size))⟩
    cases h' : okB s' a' f'
    · have e1 := errOf_ok h
      have e2 := errOf_no h'
      clear h h'
      go_enter Try.func6, Try.ntmps6
      go_wp2_with (first | (go_at_call 13; refine (serves_any _ _ _ _ _ _ _).mono ?_; rintro e w1 ⟨rfl, hb1⟩; obtain ⟨hz1, hc1, hf1⟩ := bcellB hb1 (w.heap.size + 2) (by go_size)))
      (refine wp_region_ext (w.heap.size + 2) (by kernel_rfl) (by kernel_rfl) (by go_size) (fun hxc hxf hxh hxn => ?_); (repeat (first | go_big_quiet_step (first | (go_at_call 9; exact ext_call (check_any _ _ _ _)) | (go_at_call 11; exact ext_call (step_any _ _ _ _)) | (go_at_call 15; exact ext_call (works_any _))) | quiet_step (first | (go_at_call 9; exact ext_call (check_any _ _ _ _)) | (go_at_call 11; exact ext_call (step_any _ _ _ _)) | (go_at_call 15; exact ext_call (works_any _))))); refine wpQuiet_nil ?_; intro w1 hs1; clear hxc hxf hxh hxn; obtain ⟨hb1, hz1, hc1, hf1⟩ := ext_known hs1 (w.heap.size + 2) (by go_size); clear hs1)
      go_wp2
      go_ret
      exact ⟨rfl, by (repeat' (first | (with_reducible exact Below.refl _ _) | (with_reducible assumption) | (with_reducible refine Below.alloc ?_ ?_ _) | (with_reducible refine below_drewN ?_ _) | (with_reducible refine Below.drew ?_) | (with_reducible refine Below.setCell ?_ ?_ _) | (with_reducible refine below_two ?_ (by with_reducible assumption)) | go_size))⟩
    have e1 := errOf_ok h
    have e2 := errOf_ok h'
    obtain ⟨hal, hs1, hs2, hf1, hf2⟩ := (okB_iff _ _ _).1 h
    obtain ⟨hal', hs1', hs2', hf1', hf2'⟩ := (okB_iff _ _ _).1 h'
    by_cases hff : 0 < f + f'
    · have b1 : decide (0 < f + f') = true := by simpa using hff
      clear h h' hal hal'
      go_enter Try.func6, Try.ntmps6
      go_wp2_with (first | (go_at_call 13; refine (serves_any _ _ _ _ _ _ _).mono ?_; rintro e w1 ⟨rfl, hb1⟩; obtain ⟨hz1, hc1, hf1⟩ := bcellB hb1 (w.heap.size + 2) (by go_size)))
      (refine wp_region_ext (w.heap.size + 2) (by kernel_rfl) (by kernel_rfl) (by go_size) (fun hxc hxf hxh hxn => ?_); (repeat (first | go_big_quiet_step (first | (go_at_call 9; exact ext_call (check_any _ _ _ _)) | (go_at_call 11; exact ext_call (step_any _ _ _ _)) | (go_at_call 15; exact ext_call (works_any _))) | quiet_step (first | (go_at_call 9; exact ext_call (check_any _ _ _ _)) | (go_at_call 11; exact ext_call (step_any _ _ _ _)) | (go_at_call 15; exact ext_call (works_any _))))); refine wpQuiet_nil ?_; intro w1 hs1; clear hxc hxf hxh hxn; obtain ⟨hb1, hz1, hc1, hf1⟩ := ext_known hs1 (w.heap.size + 2) (by go_size); clear hs1)
      go_wp2
      go_ret
      exact ⟨rfl, by (repeat' (first | (with_reducible exact Below.refl _ _) | (with_reducible assumption) | (with_reducible refine Below.alloc ?_ ?_ _) | (with_reducible refine below_drewN ?_ _) | (with_reducible refine Below.drew ?_) | (with_reducible refine Below.setCell ?_ ?_ _) | (with_reducible refine below_two ?_ (by with_reducible assumption)) | go_size))⟩
    obtain rfl : f = 0 := by omega
    obtain rfl : f' = 0 := by omega
    cases hst : (stepOf s a 0 == stepOf s' a' 0)
    · have b2 : (stepOf s a 0 != stepOf s' a' 0) = true := by rw [bne, hst]; rfl
      clear h h' hal hal' hff
      go_enter Try.func6, Try.ntmps6
      go_wp2_with (first | (go_at_call 13; refine (serves_any _ _ _ _ _ _ _).mono ?_; rintro e w1 ⟨rfl, hb1⟩; obtain ⟨hz1, hc1, hf1⟩ := bcellB hb1 (w.heap.size + 2) (by go_size)))
      (refine wp_region_ext (w.heap.size + 2) (by kernel_rfl) (by kernel_rfl) (by go_size) (fun hxc hxf hxh hxn => ?_); (repeat (first | go_big_quiet_step (first | (go_at_call 9; exact ext_call (check_any _ _ _ _)) | (go_at_call 11; exact ext_call (step_any _ _ _ _)) | (go_at_call 15; exact ext_call (works_any _))) | quiet_step (first | (go_at_call 9; exact ext_call (check_any _ _ _ _)) | (go_at_call 11; exact ext_call (step_any _ _ _ _)) | (go_at_call 15; exact ext_call (works_any _))))); refine wpQuiet_nil ?_; intro w1 hs1; clear hxc hxf hxh hxn; obtain ⟨hb1, hz1, hc1, hf1⟩ := ext_known hs1 (w.heap.size + 2) (by go_size); clear hs1)
      go_wp2
      go_ret
      exact ⟨rfl, by (repeat' (first | (with_reducible exact Below.refl _ _) | (with_reducible assumption) | (with_reducible refine Below.alloc ?_ ?_ _) | (with_reducible refine below_drewN ?_ _) | (with_reducible refine Below.drew ?_) | (with_reducible refine Below.setCell ?_ ?_ _) | (with_reducible refine below_two ?_ (by with_reducible assumption)) | go_size))⟩
    have b2 : (stepOf s a 0 != stepOf s' a' 0) = false := by rw [bne, hst]; rfl
    have hlt : a < a' := align_less hal hal' (by
      intro h6
      have : servesB s a 0 s' a' 0 = true := servesB_iff.2 ⟨h, h', rfl, rfl, by simpa using hst, h6⟩
      rw [hs] at this
      cases this)
    clear h h' hal hal' hff hst
    go_enter Try.func6, Try.ntmps6
    go_wp2_with (first | (go_at_call 13; refine (serves_any _ _ _ _ _ _ _).mono ?_; rintro e w1 ⟨rfl, hb1⟩; obtain ⟨hz1, hc1, hf1⟩ := bcellB hb1 (w.heap.size + 2) (by go_size)))
    (refine wp_region_ext (w.heap.size + 2) (by kernel_rfl) (by kernel_rfl) (by go_size) (fun hxc hxf hxh hxn => ?_); (repeat (first | go_big_quiet_step (first | (go_at_call 9; exact ext_call (check_any _ _ _ _)) | (go_at_call 11; exact ext_call (step_any _ _ _ _)) | (go_at_call 15; exact ext_call (works_any _))) | quiet_step (first | (go_at_call 9; exact ext_call (check_any _ _ _ _)) | (go_at_call 11; exact ext_call (step_any _ _ _ _)) | (go_at_call 15; exact ext_call (works_any _))))); refine wpQuiet_nil ?_; intro w1 hs1; clear hxc hxf hxh hxn; obtain ⟨hb1, hz1, hc1, hf1⟩ := ext_known hs1 (w.heap.size + 2) (by go_size); clear hs1)
    go_wp2
    go_ret
    exact ⟨rfl, by (repeat' (first | (with_reducible exact Below.refl _ _) | (with_reducible assumption) | (with_reducible refine Below.alloc ?_ ?_ _) | (with_reducible refine below_drewN ?_ _) | (with_reducible refine Below.drew ?_) | (with_reducible refine Below.setCell ?_ ?_ _) | (with_reducible refine below_two ?_ (by with_reducible assumption)) | go_size))⟩
  · obtain ⟨-, -, rfl, rfl, -, -⟩ := servesB_iff.1 hs
    obtain ⟨h1, h2, n1, n2, n3, n4, n5⟩ := room_of hs
    obtain ⟨hal, hs1, hs2, _⟩ := (okB_iff _ _ _).1 h1
    obtain ⟨hal', hs1', hs2', _⟩ := (okB_iff _ _ _).1 h2
    have ha1 : 8 ≤ a := by omega
    have ha2 : a ≤ 64 := by omega
    have ha1' : 8 ≤ a' := by omega
    have n6 : 0 ≤ stepOf s a 0 := by omega
    have n7 : stepOf s a 0 - s < a := by omega
    clear hal hal' h1 h2
    go_enter Try.func6, Try.ntmps6
    go_wp2_with (first | (go_at_call 13; refine (serves_any _ _ _ _ _ _ _).mono ?_; rintro e w1 ⟨rfl, hb1⟩; obtain ⟨hz1, hc1, hf1⟩ := bcellB hb1 (w.heap.size + 2) (by go_size)) | (go_at_call 11; refine (step_any _ _ _ _).mono ?_; rintro e w1 ⟨rfl, hb1⟩; obtain ⟨hz1, hc1, hf1⟩ := bcellB hb1 (w.heap.size + 2) (by go_size)) | (go_at_call 15; refine (works_any _).mono ?_; rintro e w1 ⟨rfl, hb1⟩; obtain ⟨hz1, hc1, hf1⟩ := bcellB hb1 (w.heap.size + 2) (by go_size)))
    go_ret
    exact ⟨rfl, by (repeat' (first | (with_reducible exact Below.refl _ _) | (with_reducible assumption) | (with_reducible refine Below.alloc ?_ ?_ _) | (with_reducible refine below_drewN ?_ _) | (with_reducible refine Below.drew ?_) | (with_reducible refine Below.setCell ?_ ?_ _) | (with_reducible refine below_two ?_ (by with_reducible assumption)) | go_size))⟩

end Go.Proofs.Ytmmfghialjmgmaa
