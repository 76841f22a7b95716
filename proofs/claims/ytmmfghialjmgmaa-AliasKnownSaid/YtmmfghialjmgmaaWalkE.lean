/-
  The walks of Find (of both texts), of the function that it hands on, of the generic one.
-/
import Derived.Test.YtmmfghialjmgmaaWalkD
import Derived.Test.YtmmfghialjmgmaaFindP
namespace Go.Proofs.Ytmmfghialjmgmaa
open Go.RowKit

/-- The specs of a list lie in a row of memory. -/
def SpAt (w : World) (b off : Nat) (l : List Sp) : Prop := ∀ (i : Nat) (h : i < l.length), w.cell? ⟨b, off + i * 3, none⟩ = some (.int .i64 l[i].s) ∧ w.cell? ⟨b, off + i * 3 + 1, none⟩ = some (.int .i64 l[i].a) ∧ w.cell? ⟨b, off + i * 3 + 2, none⟩ = some (.int .i64 l[i].f)
def spV (x : Sp) : Value := .agg #[.int .i64 x.s, .int .i64 x.a, .int .i64 x.f]

theorem find1_any (x y : Sp) (bo : Nat) (w : World) (hlt : bo < w.heap.size) (h0 : w.cell? ⟨bo, 0, none⟩ = some (.int .i64 y.s)) (h1 : w.cell? ⟨bo, 1, none⟩ = some (.int .i64 y.a)) (h2 : w.cell? ⟨bo, 2, none⟩ = some (.int .i64 y.f)) :
    Calls Try.prog 21 #[.agg #[.int .i64 x.s, .int .i64 x.a, .int .i64 x.f], .pointer (some ⟨bo, 0, none⟩)] w fun e w' => e = .returned (.bool (srv x y)) ∧ Below w.heap.size w w' := by
  unfold srv
  go_enter Try.func21, Try.ntmps21
  go_wp2_with (first | (go_at_call 13; refine (serves_any _ _ _ _ _ _ _).mono ?_; rintro e w1 ⟨rfl, hb1⟩; obtain ⟨hz1, hc1, hf1⟩ := bcellB hb1 (w.heap.size + 1) (by go_size)))
  go_ret
  exact ⟨rfl, by (repeat' (first | (with_reducible exact Below.refl _ _) | (with_reducible assumption) | (with_reducible refine Below.alloc ?_ ?_ _) | (with_reducible refine below_drewN ?_ _) | (with_reducible refine Below.drew ?_) | (with_reducible refine Below.setCell ?_ ?_ _) | (with_reducible refine below_two ?_ (by with_reducible assumption)) | go_size))⟩

theorem first_any (l : List Sp) (y : Sp) (b off c bo : Nat) (w : World) (hn : 0 < l.length) (hm : l.length ≤ 9223372036854775807) (hb : b < w.heap.size) (hl : SpAt w b off l)
    (hlt : bo < w.heap.size) (h0 : w.cell? ⟨bo, 0, none⟩ = some (.int .i64 y.s)) (h1 : w.cell? ⟨bo, 1, none⟩ = some (.int .i64 y.a)) (h2 : w.cell? ⟨bo, 2, none⟩ = some (.int .i64 y.f)) :
    Calls Try.prog 20 #[.slice (some ⟨b, off, none⟩) l.length c, .func (.func 21) #[] #[.pointer (some ⟨bo, 0, none⟩)]] w fun e w' =>
      e = .returned (.tuple #[.int .i64 (findIx y l 0).1, .bool (findIx y l 0).2]) ∧ Below w.heap.size w w' := by
  have HL := Lib.hid hl
  clear hl
  go_enter Try.func20, Try.ntmps20
  go_wp2
  go_loopw [10] (fun i wr => ∃ k : Nat, k ≤ l.length ∧ i = .int .i64 k ∧ Hid (findIx y (l.drop k) k = findIx y l 0) ∧ Below w.heap.size w wr) (fun i _ => l.length - (intOf i).toNat)
  case atStart => exact ⟨0, Nat.zero_le _, rfl, Lib.hid rfl, Below.refl _ _⟩
  case round =>
    obtain ⟨k, hk, rfl, HK, hw⟩ := hrel
    have hsz := hw.size
    obtain ⟨hcw, hfw⟩ := bcell hw
    by_cases hlt' : k < l.length
    · obtain ⟨c0, c1, c2⟩ := HL.out k hlt'
      cases hs : srv l[k] y
      · have HM := Lib.hid (findIx_miss hlt' hs)
        go_wp2_with (first | (go_at_call 21; refine (find1_any l[k] y bo _ ?_ ?_ ?_ ?_).mono ?_; go_size; (repeat' (first | (with_reducible assumption) | (with_reducible refine cell_alloc ?_) | (with_reducible refine cell_drewN _ ?_) | (with_reducible refine cell_drew ?_) | (with_reducible refine cell_below (by with_reducible assumption) ?_))); (repeat' (first | (with_reducible assumption) | (with_reducible refine cell_alloc ?_) | (with_reducible refine cell_drewN _ ?_) | (with_reducible refine cell_drew ?_) | (with_reducible refine cell_below (by with_reducible assumption) ?_))); (repeat' (first | (with_reducible assumption) | (with_reducible refine cell_alloc ?_) | (with_reducible refine cell_drewN _ ?_) | (with_reducible refine cell_drew ?_) | (with_reducible refine cell_below (by with_reducible assumption) ?_))); rintro e w1 ⟨rfl, hb1⟩; obtain ⟨hz1, hc1, hf1⟩ := bcellB hb1 (w.heap.size) (by go_size)))
        go_roundw
        case rel => exact ⟨k + 1, by omega, by go_num, Lib.hid (HM.out.symm.trans HK.out), by (repeat' (first | (with_reducible exact Below.refl _ _) | (with_reducible assumption) | (with_reducible refine Below.alloc ?_ ?_ _) | (with_reducible refine below_drewN ?_ _) | (with_reducible refine Below.drew ?_) | (with_reducible refine Below.setCell ?_ ?_ _) | (with_reducible refine below_two ?_ (by with_reducible assumption)) | go_size))⟩
        case measure => simp [intOf]; omega
      · have HM := Lib.hid (findIx_hit hlt' hs)
        go_wp2_with (first | (go_at_call 21; refine (find1_any l[k] y bo _ ?_ ?_ ?_ ?_).mono ?_; go_size; (repeat' (first | (with_reducible assumption) | (with_reducible refine cell_alloc ?_) | (with_reducible refine cell_drewN _ ?_) | (with_reducible refine cell_drew ?_) | (with_reducible refine cell_below (by with_reducible assumption) ?_))); (repeat' (first | (with_reducible assumption) | (with_reducible refine cell_alloc ?_) | (with_reducible refine cell_drewN _ ?_) | (with_reducible refine cell_drew ?_) | (with_reducible refine cell_below (by with_reducible assumption) ?_))); (repeat' (first | (with_reducible assumption) | (with_reducible refine cell_alloc ?_) | (with_reducible refine cell_drewN _ ?_) | (with_reducible refine cell_drew ?_) | (with_reducible refine cell_below (by with_reducible assumption) ?_))); rintro e w1 ⟨rfl, hb1⟩; obtain ⟨hz1, hc1, hf1⟩ := bcellB hb1 (w.heap.size) (by go_size)))
        go_ret2
        exact ⟨by rw [← HK.out, HM.out]; rfl, by (repeat' (first | (with_reducible exact Below.refl _ _) | (with_reducible assumption) | (with_reducible refine Below.alloc ?_ ?_ _) | (with_reducible refine below_drewN ?_ _) | (with_reducible refine Below.drew ?_) | (with_reducible refine Below.setCell ?_ ?_ _) | (with_reducible refine below_two ?_ (by with_reducible assumption)) | go_size))⟩
    · have HM := Lib.hid (findIx_nil (one := y) (l := l) (k := k) (by omega))
      go_wp2
      go_ret2
      exact ⟨by rw [← HK.out, HM.out]; rfl, by (repeat' (first | (with_reducible exact Below.refl _ _) | (with_reducible assumption) | (with_reducible refine Below.alloc ?_ ?_ _) | (with_reducible refine below_drewN ?_ _) | (with_reducible refine Below.drew ?_) | (with_reducible refine Below.setCell ?_ ?_ _) | (with_reducible refine below_two ?_ (by with_reducible assumption)) | go_size))⟩

theorem first_none (y : Sp) (A : Option Addr) (c : Nat) (F : Value) (w : World) :
    Calls Try.prog 20 #[.slice A 0 c, F] w fun e w' =>
      e = .returned (.tuple #[.int .i64 (findIx y [] 0).1, .bool (findIx y [] 0).2]) ∧ Below w.heap.size w w' := by
  go_enter Try.func20, Try.ntmps20
  go_wp2
  go_rounds 1
  go_ret2
  exact ⟨rfl, Below.refl _ _⟩

end Go.Proofs.Ytmmfghialjmgmaa
