/-
  The walks of AliasFirst, AliasFinds.
-/
import Derived.Test.YtmmfghialjmgmaaWorks
namespace Go.Proofs.Ytmmfghialjmgmaa
open Go.RowKit

theorem serves_sp {x y : Sp} {b : Bool} (h : srv x y = b) (w : World) : Calls Try.prog 13 #[.agg #[.int .i64 x.s, .int .i64 x.a, .int .i64 x.f], .agg #[.int .i64 y.s, .int .i64 y.a, .int .i64 y.f]] w fun e w' =>
    e = .returned (.bool b) ∧ Below w.heap.size w w' := h ▸ serves_any _ _ _ _ _ _ w

theorem afirst_any (l : List Sp) (y : Sp) (A : Option Addr) (c : Nat) (w : World) (hm : l.length ≤ 9223372036854775807) (hA : 0 < l.length → ∃ b off, A = some ⟨b, off, none⟩ ∧ b < w.heap.size ∧ SpAt w b off l) :
    Calls Try.prog 7 #[.slice A l.length c, .agg #[.int .i64 y.s, .int .i64 y.a, .int .i64 y.f]] w fun e w' =>
      e = .returned (.bool true) ∧ Below w.heap.size w w' := by
  obtain ⟨i, is, hfi⟩ : ∃ i is, findIx y l 0 = (i, is) := ⟨_, _, rfl⟩
  rcases Nat.eq_zero_or_pos l.length with h0 | hp
  · obtain rfl := List.eq_nil_of_length_eq_zero h0
    clear hA
    obtain ⟨rfl, rfl⟩ : (0 : Nat) = i ∧ false = is := by simpa [findIx] using hfi
    simp only [List.length_nil] at *
    go_enter Try.func7, Try.ntmps7
    go_wp2_with (first | (go_at_call 16; refine (find_eq [] y 0 0 false A c _ rfl hm rfl (fun h => absurd h (Nat.lt_irrefl 0))).mono ?_; rintro e w1 ⟨rfl, hb1⟩; obtain ⟨hz1, hc1, hf1⟩ := bcellB hb1 (w.heap.size + 1) (by go_size)))
    refine wp_loop_rounds 1 ?_
    rw [rounds_succ]
    go_wp2_with (first | (go_at_call 15; refine (works_any _).mono ?_; rintro e w1 ⟨rfl, hb1⟩; obtain ⟨hz1, hc1, hf1⟩ := bcellB hb1 (w.heap.size + 1) (by go_size)))
    go_ret
    exact ⟨rfl, by (repeat' (first | (with_reducible exact Below.refl _ _) | (with_reducible assumption) | (with_reducible refine Below.alloc ?_ ?_ _) | (with_reducible refine below_drewN ?_ _) | (with_reducible refine Below.drew ?_) | (with_reducible refine Below.setCell ?_ ?_ _) | (with_reducible refine below_two ?_ (by with_reducible assumption)) | go_size))⟩
  · obtain ⟨b, off, rfl, hb, hl⟩ := hA hp
    have HL := Lib.hid hl
    clear hl hA
    have HF := Lib.hid hfi
    go_enter Try.func7, Try.ntmps7
    go_wp2_with (first | (go_at_call 16; refine (find_eq l y l.length i is _ c _ rfl hm hfi ?_).mono ?_; (exact fun _ => ⟨b, off, rfl, by go_size, SpAt.alloc HL.out _⟩); rintro e w1 ⟨rfl, hb1⟩; obtain ⟨hz1, hc1, hf1⟩ := bcellB hb1 (w.heap.size + 1) (by go_size)))
    clear hfi
    go_loopw [7] (fun j wr => ∃ k : Nat, k ≤ l.length ∧ j = .int .i64 k ∧ Hid (findIx y (l.drop k) k = (i, is)) ∧ Below w1.heap.size w1 wr) (fun j _ => l.length - (intOf j).toNat)
    case atStart => exact ⟨0, Nat.zero_le _, rfl, HF, Below.refl _ _⟩
    case round =>
      obtain ⟨k, hk, rfl, HK, hw⟩ := hrel
      obtain ⟨hsz, hcw, hfw⟩ := bcellB hw (w.heap.size + 1) hz1
      by_cases hlt' : k < l.length
      · obtain ⟨c0, c1, c2⟩ := HL.out k hlt'
        cases hs : srv l[k] y
        · have HM := Lib.hid (findIx_miss hlt' hs)
          go_wp2
          (refine wp_region_ext (w.heap.size + 1) (by kernel_rfl) (by kernel_rfl) (by go_size) (fun hxc hxf hxh hxn => ?_); (repeat (first | go_big_quiet_step (first | (go_at_call 13; exact ext_call (serves_sp hs _))) | quiet_step (first | (go_at_call 13; exact ext_call (serves_sp hs _))))); refine wpQuiet_nil ?_; intro w1 hs1; clear hxc hxf hxh hxn; obtain ⟨hb1, hz1, hc1, hf1⟩ := ext_known hs1 (w.heap.size + 1) (by go_size); clear hs1)
          go_wp2
          go_roundw
          case rel => exact ⟨k + 1, by omega, by go_num, Lib.hid (HM.out.symm.trans HK.out), by (repeat' (first | (with_reducible exact Below.refl _ _) | (with_reducible assumption) | (with_reducible refine Below.alloc ?_ ?_ _) | (with_reducible refine below_drewN ?_ _) | (with_reducible refine Below.drew ?_) | (with_reducible refine Below.setCell ?_ ?_ _) | (with_reducible refine below_two ?_ (by with_reducible assumption)) | go_size))⟩
          case measure => simp [intOf]; omega
        · have hik : k = i ∧ true = is := by
            have h := HK.out
            rw [findIx_hit hlt' hs] at h
            simpa using h
          obtain ⟨rfl, rfl⟩ := hik
          go_wp2
          (refine wp_region_ext (w.heap.size + 1) (by kernel_rfl) (by kernel_rfl) (by go_size) (fun hxc hxf hxh hxn => ?_); (repeat (first | go_big_quiet_step (first | (go_at_call 13; exact ext_call (serves_sp hs _))) | quiet_step (first | (go_at_call 13; exact ext_call (serves_sp hs _))))); refine wpQuiet_nil ?_; intro w1 hs1; clear hxc hxf hxh hxn; obtain ⟨hb1, hz1, hc1, hf1⟩ := ext_known hs1 (w.heap.size + 1) (by go_size); clear hs1)
          go_wp2_with (first | (go_at_call 15; refine (works_any _).mono ?_; rintro e w1 ⟨rfl, hb1⟩; obtain ⟨hz1, hc1, hf1⟩ := bcellB hb1 (w.heap.size + 1) (by go_size)))
          go_ret
          exact ⟨rfl, by (repeat' (first | (with_reducible exact Below.refl _ _) | (with_reducible assumption) | (with_reducible refine Below.alloc ?_ ?_ _) | (with_reducible refine below_drewN ?_ _) | (with_reducible refine Below.drew ?_) | (with_reducible refine Below.setCell ?_ ?_ _) | (with_reducible refine below_two ?_ (by with_reducible assumption)) | go_size))⟩
      · have hik : 0 = i ∧ false = is := by
          have h := HK.out
          rw [findIx_nil (by omega)] at h
          simpa using h
        obtain ⟨rfl, rfl⟩ := hik
        go_wp2_with (first | (go_at_call 15; refine (works_any _).mono ?_; rintro e w1 ⟨rfl, hb1⟩; obtain ⟨hz1, hc1, hf1⟩ := bcellB hb1 (w.heap.size + 1) (by go_size)))
        go_ret
        exact ⟨rfl, by (repeat' (first | (with_reducible exact Below.refl _ _) | (with_reducible assumption) | (with_reducible refine Below.alloc ?_ ?_ _) | (with_reducible refine below_drewN ?_ _) | (with_reducible refine Below.drew ?_) | (with_reducible refine Below.setCell ?_ ?_ _) | (with_reducible refine below_two ?_ (by with_reducible assumption)) | go_size))⟩

end Go.Proofs.Ytmmfghialjmgmaa
