/-
  The reference's Set, Clear, Of.
-/
import Derived.Test.YtehmegnmfpfopaaRefA
import Derived.WalkKit
import Derived.Deep.DeepMust
import Derived.WalkSpells
import Derived.WalkLawsBesides
import Derived.Handy
import Derived.Lib.Hide
import Derived.Deep.QuietTactic
import Derived.BigQuiet
namespace Go.Proofs.Ytehmegnmfpfopaa
open Go.RowKit

section
variable {B r S O ga c : Nat} {F : Int → Int → Int} {gs : List Nat}
theorem rgroup_any (g : Int) (w : World) : Calls Try.prog 24 #[.int .i64 g] w fun e w' => e = .returned (.bool (grpB g)) ∧ w' = w := by
  unfold grpB
  rcases (by omega : (1 ≤ g ∧ g ≤ 16) ∨ (¬ 1 ≤ g) ∨ (1 ≤ g ∧ ¬ g ≤ 16)) with ⟨h1, h2⟩ | h1 | ⟨h1, h2⟩ <;>
    (go_enter Try.func24, Try.ntmps24; go_wp2; go_ret; exact ⟨ret_bool (by simp; omega), rfl⟩)
set_option maxRecDepth 100000 in
theorem has_any (w : World) (h : RefIn w B r S O F ga c gs) (x y : Int) : Calls Try.prog 23 #[.pointer (some ⟨r, 0, none⟩), .int .i64 x, .int .i64 y] w fun e w' =>
    e = .returned (.bool (decide (0 ≤ x ∧ x < S ∧ 0 ≤ y ∧ y < O))) ∧ w' = w := by
  have c0 := h.cell0
  obtain ⟨g0, -, c1, -⟩ := h.cellS (s := 0) h.s1
  have s1 : (0 : Int) < (S : Int) := by have := h.s1; omega
  have hS : (S : Int) ≤ 256 := by have := h.s2; omega
  have hO : (O : Int) ≤ 16 := by have := h.o2; omega
  clear h
  rcases (by omega : x < 0 ∨ (0 ≤ x ∧ (S : Int) ≤ x) ∨ (0 ≤ x ∧ x < S ∧ y < 0) ∨ (0 ≤ x ∧ x < S ∧ 0 ≤ y ∧ (O : Int) ≤ y) ∨ (0 ≤ x ∧ x < S ∧ 0 ≤ y ∧ y < O)) with h1 | ⟨h1, h2⟩ | ⟨h1, h2, h3⟩ | ⟨h1, h2, h3, h4⟩ | ⟨h1, h2, h3, h4⟩
  all_goals
    first | rw [decide_eq_true (show 0 ≤ x ∧ x < S ∧ 0 ≤ y ∧ y < O from ⟨by assumption, by assumption, by assumption, by assumption⟩)] | rw [decide_eq_false (by omega)]
  all_goals
    go_enter Try.func23, Try.ntmps23
    go_wp2
    go_ret
    exact ⟨ret_bool (by first | rfl | (simp; omega)), rfl⟩

set_option maxRecDepth 100000 in
set_option maxHeartbeats 2000000 in
theorem rof_any (w : World) (h : RefIn w B r S O F ga c gs) (hF : ∀ x y, F x y ≠ 0 → (0 ≤ x ∧ x < S ∧ 0 ≤ y ∧ y < O)) (x y : Int) : Calls Try.prog 27 #[.pointer (some ⟨r, 0, none⟩), .int .i64 x, .int .i64 y] w fun e w' =>
    e = .returned (.int .i64 (F x y)) ∧ w' = w := by
  by_cases hin : 0 ≤ x ∧ x < S ∧ 0 ≤ y ∧ y < O
  · obtain ⟨s, rfl⟩ : ∃ s : Nat, x = (s : Int) := ⟨x.toNat, by omega⟩
    obtain ⟨i, rfl⟩ : ∃ i : Nat, y = (i : Int) := ⟨y.toNat, by omega⟩
    have c0 := h.cell0
    obtain ⟨g, -, c1, c2, -⟩ := h.cellS (s := s) (by omega)
    have c2 := c2 i (by omega)
    obtain ⟨h1, h2, h3, h4⟩ := hin
    go_enter Try.func27, Try.ntmps27
    go_wp2_with (first | (go_at_call 23; (with_reducible refine (has_any _ h (s : Int) (i : Int)).mono ?_); rintro e wq ⟨rfl, hwq⟩; replace hwq := hwq.symm; subst hwq; rw [decide_eq_true (show 0 ≤ (s : Int) ∧ (s : Int) < S ∧ 0 ≤ (i : Int) ∧ (i : Int) < O from ⟨h1, h2, h3, h4⟩)]))
    go_ret
    exact ⟨rfl, rfl⟩
  · have h0 : F x y = 0 := Classical.byContradiction fun e => hin (hF x y e)
    rw [h0]
    go_enter Try.func27, Try.ntmps27
    go_wp2_with (first | (go_at_call 23; (with_reducible refine (has_any _ h x y).mono ?_); rintro e wq ⟨rfl, hwq⟩; replace hwq := hwq.symm; subst hwq; rw [decide_eq_false hin]))
    go_ret
    exact ⟨rfl, rfl⟩

set_option maxRecDepth 100000 in
set_option maxHeartbeats 2000000 in
theorem rset_any (w : World) (h : RefIn w B r S O F ga c gs) (x y v : Int) : Calls Try.prog 11 #[.pointer (some ⟨r, 0, none⟩), .int .i64 x, .int .i64 y, .int .i64 v] w fun e w' =>
    e = .returned (.int .i64 (setE S O F x y v)) ∧ RefIn w' B r S O (setF S O F x y v) ga c gs ∧ Rws gs w w' := by
  by_cases hin : 0 ≤ x ∧ x < S ∧ 0 ≤ y ∧ y < O
  · obtain ⟨s, rfl⟩ : ∃ s : Nat, x = (s : Int) := ⟨x.toNat, by omega⟩
    obtain ⟨i, rfl⟩ : ∃ i : Nat, y = (i : Int) := ⟨y.toNat, by omega⟩
    have c0 := h.cell0
    have hi : i < O := by omega
    obtain ⟨g, hg, c1, c2, f0, hst⟩ := h.cellS (s := s) (by omega)
    have c2 := c2 i hi
    have f0 := f0 i
    have HST := Lib.hid (hst i v hi)
    clear hst
    have HIN := hin
    obtain ⟨h1, h2, h3, h4⟩ := hin
    cases hgr : grpB v with
    | false =>
      rw [setF_no (by rw [setE_no HIN hgr]; decide), setE_no HIN hgr]
      go_enter Try.func11, Try.ntmps11
      go_wp2_with (first | (go_at_call 23; (with_reducible refine (has_any _ h (s : Int) (i : Int)).mono ?_); rintro e wq ⟨rfl, hwq⟩; replace hwq := hwq.symm; subst hwq; rw [decide_eq_true HIN]) | (go_at_call 24; (with_reducible refine (rgroup_any v _).mono ?_); rintro e wq ⟨rfl, hwq⟩; replace hwq := hwq.symm; subst hwq; rw [hgr]))
      go_ret
      exact ⟨rfl, h, Rws.refl _ _⟩
    | true =>
      by_cases hF : F (s : Int) (i : Int) = 0
      · rw [setF_ok (setE_ok HIN hgr hF), setE_ok HIN hgr hF]
        go_enter Try.func11, Try.ntmps11
        go_wp2_with (first | (go_at_call 23; (with_reducible refine (has_any _ h (s : Int) (i : Int)).mono ?_); rintro e wq ⟨rfl, hwq⟩; replace hwq := hwq.symm; subst hwq; rw [decide_eq_true HIN]) | (go_at_call 24; (with_reducible refine (rgroup_any v _).mono ?_); rintro e wq ⟨rfl, hwq⟩; replace hwq := hwq.symm; subst hwq; rw [hgr]))
        go_ret
        exact ⟨rfl, HST.out, (Rws.refl _ _).set hg _ _⟩
      · rw [setF_no (by rw [setE_owned HIN hgr hF]; decide), setE_owned HIN hgr hF]
        go_enter Try.func11, Try.ntmps11
        go_wp2_with (first | (go_at_call 23; (with_reducible refine (has_any _ h (s : Int) (i : Int)).mono ?_); rintro e wq ⟨rfl, hwq⟩; replace hwq := hwq.symm; subst hwq; rw [decide_eq_true HIN]) | (go_at_call 24; (with_reducible refine (rgroup_any v _).mono ?_); rintro e wq ⟨rfl, hwq⟩; replace hwq := hwq.symm; subst hwq; rw [hgr]))
        go_ret
        exact ⟨rfl, h, Rws.refl _ _⟩
  · rw [setF_no (by rw [setE_out hin]; decide), setE_out hin]
    go_enter Try.func11, Try.ntmps11
    go_wp2_with (first | (go_at_call 23; (with_reducible refine (has_any _ h x y).mono ?_); rintro e wq ⟨rfl, hwq⟩; replace hwq := hwq.symm; subst hwq; rw [decide_eq_false hin]))
    go_ret
    exact ⟨rfl, h, Rws.refl _ _⟩

set_option maxRecDepth 100000 in
set_option maxHeartbeats 2000000 in
theorem rclear_any (w : World) (h : RefIn w B r S O F ga c gs) (hF : ∀ x y, F x y ≠ 0 → (0 ≤ x ∧ x < S ∧ 0 ≤ y ∧ y < O)) (x y : Int) : Calls Try.prog 13 #[.pointer (some ⟨r, 0, none⟩), .int .i64 x, .int .i64 y] w fun e w' =>
    e = .returned (.tuple #[.int .i64 (F x y), .int .i64 (clearE S O F x y)]) ∧ RefIn w' B r S O (putF F x y 0) ga c gs ∧ Rws gs w w' := by
  by_cases hin : 0 ≤ x ∧ x < S ∧ 0 ≤ y ∧ y < O
  · obtain ⟨s, rfl⟩ : ∃ s : Nat, x = (s : Int) := ⟨x.toNat, by omega⟩
    obtain ⟨i, rfl⟩ : ∃ i : Nat, y = (i : Int) := ⟨y.toNat, by omega⟩
    have c0 := h.cell0
    have hi : i < O := by omega
    obtain ⟨g, hg, c1, c2, f0, hst⟩ := h.cellS (s := s) (by omega)
    have c2 := c2 i hi
    have f0 := f0 i
    have HST := Lib.hid (hst i 0 hi)
    clear hst
    have HIN := hin
    obtain ⟨h1, h2, h3, h4⟩ := hin
    by_cases hF0 : F (s : Int) (i : Int) = 0
    · rw [putF_same hF0, clearE_none HIN hF0, hF0]
      rw [hF0] at c2
      go_enter Try.func13, Try.ntmps13
      go_wp2_with (first | (go_at_call 23; (with_reducible refine (has_any _ h (s : Int) (i : Int)).mono ?_); rintro e wq ⟨rfl, hwq⟩; replace hwq := hwq.symm; subst hwq; rw [decide_eq_true HIN]))
      go_ret2
      exact ⟨rfl, h, Rws.refl _ _⟩
    · rw [clearE_ok HIN hF0]
      go_enter Try.func13, Try.ntmps13
      go_wp2_with (first | (go_at_call 23; (with_reducible refine (has_any _ h (s : Int) (i : Int)).mono ?_); rintro e wq ⟨rfl, hwq⟩; replace hwq := hwq.symm; subst hwq; rw [decide_eq_true HIN]))
      go_ret2
      exact ⟨rfl, HST.out, (Rws.refl _ _).set hg _ _⟩
  · have h0 : F x y = 0 := Classical.byContradiction fun e => hin (hF x y e)
    rw [putF_same h0, clearE_out hin, h0]
    go_enter Try.func13, Try.ntmps13
    go_wp2_with (first | (go_at_call 23; (with_reducible refine (has_any _ h x y).mono ?_); rintro e wq ⟨rfl, hwq⟩; replace hwq := hwq.symm; subst hwq; rw [decide_eq_false hin]))
    go_ret2
    exact ⟨rfl, h, Rws.refl _ _⟩
end

end Go.Proofs.Ytehmegnmfpfopaa
