/-
  The walks of Find, of both texts.
-/
import Derived.Test.YtmmfghialjmgmaaWalkE
import Derived.Deep.DeepMust
namespace Go.Proofs.Ytmmfghialjmgmaa
open Go.RowKit

theorem SpAt.alloc {w : World} {b off : Nat} {l : List Sp} (h : SpAt w b off l) (o : Obj) : SpAt (w.alloc o) b off l :=
  fun i hi => ⟨cell_alloc (h i hi).1, cell_alloc (h i hi).2.1, cell_alloc (h i hi).2.2⟩
theorem SpAt.below {w w' : World} {b off : Nat} {l : List Sp} (h : SpAt w b off l) (hb : Below w.heap.size w w') : SpAt w' b off l :=
  fun i hi => ⟨cell_below hb (h i hi).1, cell_below hb (h i hi).2.1, cell_below hb (h i hi).2.2⟩

theorem find_any (l : List Sp) (y : Sp) (A : Option Addr) (c : Nat) (w : World) (hm : l.length ≤ 9223372036854775807) (hA : 0 < l.length → ∃ b off, A = some ⟨b, off, none⟩ ∧ b < w.heap.size ∧ SpAt w b off l) :
    Calls Try.prog 16 #[.slice A l.length c, .agg #[.int .i64 y.s, .int .i64 y.a, .int .i64 y.f]] w fun e w' =>
      e = .returned (.tuple #[.int .i64 (findIx y l 0).1, .bool (findIx y l 0).2]) ∧ Below w.heap.size w w' := by
  rcases Nat.eq_zero_or_pos l.length with h0 | hp
  · obtain rfl := List.eq_nil_of_length_eq_zero h0
    clear hA
    simp only [List.length_nil] at *
    go_enter Try.func16, Try.ntmps16
    go_wp2_with (first | (go_at_call 20; refine (first_none y _ _ _ _).mono ?_; rintro e w1 ⟨rfl, hb1⟩; obtain ⟨hz1, hc1, hf1⟩ := bcellB hb1 (w.heap.size + 1) (by go_size)))
    go_ret2
    exact ⟨rfl, by (repeat' (first | (with_reducible exact Below.refl _ _) | (with_reducible assumption) | (with_reducible refine Below.alloc ?_ ?_ _) | (with_reducible refine below_drewN ?_ _) | (with_reducible refine Below.drew ?_) | (with_reducible refine Below.setCell ?_ ?_ _) | (with_reducible refine below_two ?_ (by with_reducible assumption)) | go_size))⟩
  · obtain ⟨b, off, rfl, hb, hl⟩ := hA hp
    have HL := Lib.hid hl
    clear hl hA
    go_enter Try.func16, Try.ntmps16
    go_wp2_with (first | (go_at_call 20; refine (first_any l y _ _ _ _ _ hp hm ?_ ?_ ?_ ?_ ?_ ?_).mono ?_; go_size; (exact SpAt.alloc HL.out _); go_size; simp [go_sem]; simp [go_sem]; simp [go_sem]; rintro e w1 ⟨rfl, hb1⟩; obtain ⟨hz1, hc1, hf1⟩ := bcellB hb1 (w.heap.size + 1) (by go_size)))
    go_ret2
    exact ⟨rfl, by (repeat' (first | (with_reducible exact Below.refl _ _) | (with_reducible assumption) | (with_reducible refine Below.alloc ?_ ?_ _) | (with_reducible refine below_drewN ?_ _) | (with_reducible refine Below.drew ?_) | (with_reducible refine Below.setCell ?_ ?_ _) | (with_reducible refine below_two ?_ (by with_reducible assumption)) | go_size))⟩

theorem refServes_eq {s a f s' a' f' : Int} {b : Bool} (h : servesB s a f s' a' f' = b) (w : World) : Calls Try.prog 14 #[.agg #[.int .i64 s, .int .i64 a, .int .i64 f], .agg #[.int .i64 s', .int .i64 a', .int .i64 f']] w fun e w' =>
    e = .returned (.bool b) ∧ Below w.heap.size w w' := h ▸ refServes_any s a f s' a' f' w

theorem refFind_any (l : List Sp) (y : Sp) (A : Option Addr) (c : Nat) (w : World) (hm : l.length ≤ 9223372036854775807) (hA : 0 < l.length → ∃ b off, A = some ⟨b, off, none⟩ ∧ b < w.heap.size ∧ SpAt w b off l) :
    Calls Try.prog 17 #[.slice A l.length c, .agg #[.int .i64 y.s, .int .i64 y.a, .int .i64 y.f]] w fun e w' =>
      e = .returned (.tuple #[.int .i64 (findIx y l 0).1, .bool (findIx y l 0).2]) ∧ Below w.heap.size w w' := by
  rcases Nat.eq_zero_or_pos l.length with h0 | hp
  · obtain rfl := List.eq_nil_of_length_eq_zero h0
    clear hA
    simp only [List.length_nil] at *
    go_enter Try.func17, Try.ntmps17
    go_wp2
    go_rounds 1
    go_ret2
    exact ⟨rfl, by (repeat' (first | (with_reducible exact Below.refl _ _) | (with_reducible assumption) | (with_reducible refine Below.alloc ?_ ?_ _) | (with_reducible refine below_drewN ?_ _) | (with_reducible refine Below.drew ?_) | (with_reducible refine Below.setCell ?_ ?_ _) | (with_reducible refine below_two ?_ (by with_reducible assumption)) | go_size))⟩
  · obtain ⟨b, off, rfl, hb, hl⟩ := hA hp
    have HL := Lib.hid hl
    clear hl hA
    go_enter Try.func17, Try.ntmps17
    go_wp2
    go_loopw [6] (fun i wr => ∃ k : Nat, k ≤ l.length ∧ i = .int .i64 k ∧ Hid (findIx y (l.drop k) k = findIx y l 0) ∧ Below (w.alloc (.cells #[.int .i64 y.s, .int .i64 y.a, .int .i64 y.f] 23)).heap.size (w.alloc (.cells #[.int .i64 y.s, .int .i64 y.a, .int .i64 y.f] 23)) wr) (fun i _ => l.length - (intOf i).toNat)
    case atStart => exact ⟨0, Nat.zero_le _, rfl, Lib.hid rfl, Below.refl _ _⟩
    case round =>
      obtain ⟨k, hk, rfl, HK, hw⟩ := hrel
      obtain ⟨hsz, hcw, hfw⟩ := bcellB hw (w.heap.size + 1) (by go_size)
      by_cases hlt' : k < l.length
      · obtain ⟨c0, c1, c2⟩ := HL.out k hlt'
        cases hs : srv l[k] y
        · have HM := Lib.hid (findIx_miss hlt' hs)
          have hs' : servesB l[k].s l[k].a l[k].f y.s y.a y.f = false := hs
          go_wp2
          (refine wp_region_ext (w.heap.size + 1) (by kernel_rfl) (by kernel_rfl) (by go_size) (fun hxc hxf hxh hxn => ?_); (repeat (first | go_big_quiet_step (first | (go_at_call 14; exact ext_call (refServes_eq hs' _))) | quiet_step (first | (go_at_call 14; exact ext_call (refServes_eq hs' _))))); refine wpQuiet_nil ?_; intro w1 hs1; clear hxc hxf hxh hxn; obtain ⟨hb1, hz1, hc1, hf1⟩ := ext_known hs1 (w.heap.size + 1) (by go_size); clear hs1)
          go_wp2
          go_roundw
          case rel => exact ⟨k + 1, by omega, by go_num, Lib.hid (HM.out.symm.trans HK.out), by (repeat' (first | (with_reducible exact Below.refl _ _) | (with_reducible assumption) | (with_reducible refine Below.alloc ?_ ?_ _) | (with_reducible refine below_drewN ?_ _) | (with_reducible refine Below.drew ?_) | (with_reducible refine Below.setCell ?_ ?_ _) | (with_reducible refine below_two ?_ (by with_reducible assumption)) | go_size))⟩
          case measure => simp [intOf]; omega
        · have HM := Lib.hid (findIx_hit hlt' hs)
          have hs' : servesB l[k].s l[k].a l[k].f y.s y.a y.f = true := hs
          go_wp2
          (refine wp_region_ext (w.heap.size + 1) (by kernel_rfl) (by kernel_rfl) (by go_size) (fun hxc hxf hxh hxn => ?_); (repeat (first | go_big_quiet_step (first | (go_at_call 14; exact ext_call (refServes_eq hs' _))) | quiet_step (first | (go_at_call 14; exact ext_call (refServes_eq hs' _))))); refine wpQuiet_nil ?_; intro w1 hs1; clear hxc hxf hxh hxn; obtain ⟨hb1, hz1, hc1, hf1⟩ := ext_known hs1 (w.heap.size + 1) (by go_size); clear hs1)
          go_wp2
          go_ret2
          exact ⟨by rw [← HK.out, HM.out]; rfl, by (repeat' (first | (with_reducible exact Below.refl _ _) | (with_reducible assumption) | (with_reducible refine Below.alloc ?_ ?_ _) | (with_reducible refine below_drewN ?_ _) | (with_reducible refine Below.drew ?_) | (with_reducible refine Below.setCell ?_ ?_ _) | (with_reducible refine below_two ?_ (by with_reducible assumption)) | go_size))⟩
      · have HM := Lib.hid (findIx_nil (one := y) (l := l) (k := k) (by omega))
        go_wp2
        go_ret2
        exact ⟨by rw [← HK.out, HM.out]; rfl, by (repeat' (first | (with_reducible exact Below.refl _ _) | (with_reducible assumption) | (with_reducible refine Below.alloc ?_ ?_ _) | (with_reducible refine below_drewN ?_ _) | (with_reducible refine Below.drew ?_) | (with_reducible refine Below.setCell ?_ ?_ _) | (with_reducible refine below_two ?_ (by with_reducible assumption)) | go_size))⟩

end Go.Proofs.Ytmmfghialjmgmaa
