/-
  The walk of works: the chapter's specs.
-/
import Derived.Test.YtmmfghialjmgmaaWalkF
namespace Go.Proofs.Ytmmfghialjmgmaa
open Go.RowKit

theorem find_eq (l : List Sp) (y : Sp) (n i : Nat) (is : Bool) (A : Option Addr) (c : Nat) (w : World) (hn : l.length = n) (hm : n ≤ 9223372036854775807) (hf : findIx y l 0 = (i, is)) (hA : 0 < n → ∃ b off, A = some ⟨b, off, none⟩ ∧ b < w.heap.size ∧ SpAt w b off l) :
    Calls Try.prog 16 #[.slice A n c, .agg #[.int .i64 y.s, .int .i64 y.a, .int .i64 y.f]] w fun e w' =>
      e = .returned (.tuple #[.int .i64 i, .bool is]) ∧ Below w.heap.size w w' := by
  subst hn
  have h := find_any l y A c w hm hA
  rw [hf] at h
  exact h

theorem find_works (w : World) (b : Nat) (c : Nat) (hb : b < w.heap.size)
    (h : SpAt w b 0 [⟨8, 8, 0⟩, ⟨30, 16, 0⟩, ⟨25, 32, 0⟩]) :
    Calls Try.prog 16 #[.slice (some ⟨b, 0, none⟩) 3 c, .agg #[.int .i64 31, .int .i64 16, .int .i64 0]] w fun e w' =>
      e = .returned (.tuple #[.int .i64 1, .bool true]) ∧ Below w.heap.size w w' :=
  find_eq [⟨8, 8, 0⟩, ⟨30, 16, 0⟩, ⟨25, 32, 0⟩] ⟨31, 16, 0⟩ 3 1 true _ c w rfl (by omega) (by decide) fun _ => ⟨b, 0, rfl, hb, h⟩

theorem works_any (w : World) : Calls Try.prog 15 #[] w fun e w' => e = .returned (.bool true) ∧ Below w.heap.size w w' := by
  have e1 : stepOf 20 8 0 = 24 := by decide
  have e2 : stepOf 20 16 0 = 32 := by decide
  have e3 : stepOf 0 8 0 = 0 := by decide
  have e4 : servesB 30 16 0 25 8 0 = true := by decide
  have e5 : servesB 25 8 0 30 16 0 = false := by decide
  have e6 : servesB 20 8 4 20 8 4 = false := by decide
  go_enter Try.func15, Try.ntmps15
  go_wp2_with (first | (go_at_call 11; refine (step_any _ _ _ _).mono ?_; rintro e w1 ⟨rfl, hb1⟩; obtain ⟨hz1, hc1, hf1⟩ := bcellB hb1 (w.heap.size) (by go_size)) | (go_at_call 16; refine (find_works _ _ _ ?_ ?_).mono ?_; go_size; ((intro i hi; simp only [List.length_cons, List.length_nil] at hi; obtain rfl | rfl | rfl : i = 0 ∨ i = 1 ∨ i = 2 := by omega) <;> simp [go_sem]); rintro e w2 ⟨rfl, hb2⟩; obtain ⟨hz2, hc2, hf2⟩ := bcellB hb2 (w1.heap.size + 3) (by go_size)) | (go_at_call 13; refine (serves_any _ _ _ _ _ _ _).mono ?_; rintro e w3 ⟨rfl, hb3⟩; obtain ⟨hz3, hc3, hf3⟩ := bcellB hb3 (w1.heap.size + 3) (by go_size)))
  go_ret
  exact ⟨rfl, by (repeat' (first | (with_reducible exact Below.refl _ _) | (with_reducible assumption) | (with_reducible refine Below.alloc ?_ ?_ _) | (with_reducible refine below_drewN ?_ _) | (with_reducible refine Below.drew ?_) | (with_reducible refine Below.setCell ?_ ?_ _) | (with_reducible refine below_two ?_ (by with_reducible assumption)) | go_size))⟩

end Go.Proofs.Ytmmfghialjmgmaa
