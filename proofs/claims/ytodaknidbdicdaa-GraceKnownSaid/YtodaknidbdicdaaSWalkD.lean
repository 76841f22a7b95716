/-
  The walks of row, Add, Next, of both.
-/
import Derived.Test.YtodaknidbdicdaaSWalkC
import Derived.Deep.RegionLaw
import Derived.WalkKit
import Derived.Deep.DeepMust
import Derived.WalkSpells
import Derived.WalkLawsBesides
import Derived.Handy
import Derived.Lib.Hide
import Derived.Deep.QuietTactic
import Derived.BigQuiet
namespace Go.Proofs.Ytodaknidbdicdaa
open Go.RowKit

theorem own_le {w : World} {base base' : Nat} {e : TypeId} {size : Nat} {v : Value} {n : Nat} {xs : List Value} (h : w.ownsRow base e size v n xs) (hb : base' ≤ base) : w.ownsRow base' e size v n xs := by
  obtain ⟨h1, h2⟩ := h
  refine ⟨h1, ?_⟩
  rcases h2 with h2 | ⟨g, cap, cur, h3, h4, h5, h6⟩
  · exact Or.inl h2
  · exact Or.inr ⟨g, cap, cur, h3, by omega, h5, h6⟩
theorem WRow.of_blk {w : World} {g : Nat} {t : TypeId} {x : Wt} (h : Blk w g t #[.int .i64 x.id, .int .i64 x.at_]) : WRow w (some ⟨g, 0, none⟩) [x] := fun _ =>
  ⟨g, 0, rfl, h.lt, fun j u hu => by rw [Nat.zero_add, h.cell, ← Array.getElem?_toList]; exact hu⟩

theorem row_any (l m : List Wt) (A B : Option Addr) (n k c d : Nat) (w : World) (hn : Hid (l.length = n)) (hk : Hid (m.length = k)) (hs : (n + k) * 16 ≤ 140737488355328) (hA : WRow w A l) (hB : WRow w B m) :
    Calls Try.prog 51 #[.slice A n c, .slice B k d] w (Gives w (l ++ m) (n + k)) := by
  have HA := Lib.hid (hA.alloc (.cells #[.slice A n c, .slice B k d] 66))
  have HB := Lib.hid (hB.alloc (.cells #[.slice A n c, .slice B k d] 66))
  have q0 : Hid ((w.alloc (.cells #[.slice A n c, .slice B k d] 66)).cell? ⟨w.heap.size, 0, none⟩ = some (.slice A n c)) := Lib.hid ((Blk.new w 66 #[.slice A n c, .slice B k d]).cell 0)
  have q1 : Hid ((w.alloc (.cells #[.slice A n c, .slice B k d] 66)).cell? ⟨w.heap.size, 1, none⟩ = some (.slice B k d)) := Lib.hid ((Blk.new w 66 #[.slice A n c, .slice B k d]).cell 1)
  clear hA hB
  go_enter Try.func51, Try.ntmps51
  go_wp2_with (first | (go_at_call 54; (with_reducible refine (concat_any l m A B n k c d w.heap.size _ hn hk hs HA.out HB.out q0.out q1.out).mono ?_); rintro e w1 ⟨v1, rfl, ho1, hb1⟩))
  go_ret
  exact ⟨_, rfl, own_le ho1 (by simp), by (repeat' (first | (with_reducible exact Below.refl _ _) | (with_reducible assumption) | (with_reducible refine Below.alloc ?_ ?_ _) | (with_reducible refine below_drewN ?_ _) | (with_reducible refine Below.drew ?_) | (with_reducible refine Below.setCell ?_ ?_ _) | (with_reducible refine below_two ?_ (by with_reducible assumption)) | go_size))⟩

/-- What Add hands back. -/
def Adds (w : World) (r : List Wt) (er : Int) (e : Ending) (w' : World) : Prop := ∃ v, e = .returned (.tuple #[v, .int .i64 er]) ∧ w'.ownsRow w.heap.size 78 2 v r.length (rowV r) ∧ Below w.heap.size w w'

theorem add_err (l : List Wt) (i a : Int) (A : Option Addr) (n c : Nat) (w : World) (hn : Hid (l.length = n)) (hn' : n ≤ 9223372036854775807) (hA : WRow w A l) (er : Int) (he : Hid (errC l = er)) (h0 : er ≠ 0) :
    Calls Try.prog 43 #[.slice A n c, .agg #[.int .i64 i, .int .i64 a]] w (Adds w [] er) := by
  have HA := Lib.hid (hA.alloc (.cells #[.int .i64 i, .int .i64 a] 78))
  have hne : (er != 0) = true := bne_iff_ne.2 h0
  clear hA h0
  go_enter Try.func43, Try.ntmps43
  go_wp2_with (first | (go_at_call 50; with_reducible refine (check_any l A n c _ hn hn' HA.out er he.out).mono ?_; rintro e w1 ⟨rfl, hb1⟩))
  go_ret2
  exact ⟨_, rfl, World.ownsRow_nil _ _ _ _, by (repeat' (first | (with_reducible exact Below.refl _ _) | (with_reducible assumption) | (with_reducible refine Below.alloc ?_ ?_ _) | (with_reducible refine below_drewN ?_ _) | (with_reducible refine Below.drew ?_) | (with_reducible refine Below.setCell ?_ ?_ _) | (with_reducible refine below_two ?_ (by with_reducible assumption)) | go_size))⟩
theorem add_full (l : List Wt) (i a : Int) (A : Option Addr) (c : Nat) (w : World) (hn : Hid (l.length = 256)) (hA : WRow w A l) (he : Hid (errC l = 0)) :
    Calls Try.prog 43 #[.slice A 256 c, .agg #[.int .i64 i, .int .i64 a]] w (Adds w [] 5) := by
  have HA := Lib.hid (hA.alloc (.cells #[.int .i64 i, .int .i64 a] 78))
  clear hA
  go_enter Try.func43, Try.ntmps43
  go_wp2_with (first | (go_at_call 50; with_reducible refine (check_any l A 256 c _ hn (by omega) HA.out 0 he.out).mono ?_; rintro e w1 ⟨rfl, hb1⟩))
  go_ret2
  exact ⟨_, rfl, World.ownsRow_nil _ _ _ _, by (repeat' (first | (with_reducible exact Below.refl _ _) | (with_reducible assumption) | (with_reducible refine Below.alloc ?_ ?_ _) | (with_reducible refine below_drewN ?_ _) | (with_reducible refine Below.drew ?_) | (with_reducible refine Below.setCell ?_ ?_ _) | (with_reducible refine below_two ?_ (by with_reducible assumption)) | go_size))⟩
theorem add_last (l : List Wt) (i a : Int) (A : Option Addr) (n c : Nat) (w : World) (hn : Hid (l.length = n)) (hn' : n < 256) (hA : WRow w A l) (he : Hid (errC l = 0)) (er : Int) (he2 : Hid (errC (l ++ [⟨i, a⟩]) = er)) (r : List Wt) (hr : Hid ((er = 0 ∧ r = l ++ [⟨i, a⟩]) ∨ (er ≠ 0 ∧ r = []))) :
    Calls Try.prog 43 #[.slice A n c, .agg #[.int .i64 i, .int .i64 a]] w (Adds w r er) := by
  have HA := Lib.hid (hA.alloc (.cells #[.int .i64 i, .int .i64 a] 78))
  have hl : Hid ((l ++ [(⟨i, a⟩ : Wt)]).length = n + 1) := Lib.hid (by rw [List.length_append, hn.out]; rfl)
  have h1 : Hid (List.length [(⟨i, a⟩ : Wt)] = 1) := Lib.hid rfl
  have h256 : ((n : Int) == 256) = false := by rw [beq_eq_false_iff_ne]; omega
  clear hA
  by_cases h0 : er = 0
  all_goals first | (have hne : (er != 0) = false := by rw [bne_eq_false_iff_eq]; exact h0) | (have hne : (er != 0) = true := bne_iff_ne.2 h0)
  all_goals have H0 := Lib.hid h0
  all_goals clear h0
  all_goals go_enter Try.func43, Try.ntmps43
  all_goals go_wp2_with (first | (go_at_call 50; with_reducible refine (check_any l A n c _ hn (by omega) HA.out 0 he.out).mono ?_; rintro e w1 ⟨rfl, hb1⟩; have hX := (Blk.new w 78 #[.int .i64 i, .int .i64 a]).below hb1; have hxc := hX.cell; have hA1 := (HA.out.below hb1).alloc (.cells #[.int .i64 i, .int .i64 a] 78); have hB1 := WRow.of_blk (x := ⟨i, a⟩) (Blk.new w1 78 #[.int .i64 i, .int .i64 a]); have z1 := hb1.size; rw [World.size_alloc] at z1) | (go_at_call 51; (with_reducible refine (row_any l [⟨i, a⟩] A _ n 1 c _ _ hn h1 (by omega) hA1 hB1).mono ?_); rintro e w2 ⟨v2, rfl, ho2, hb2⟩; obtain ⟨A2, c2, rfl, hc2, hr2⟩ := WRow.slice ho2; have z2 := hb2.size; rw [World.size_alloc] at z2) | (go_at_call 50; with_reducible refine (check_any (l ++ [⟨i, a⟩]) A2 (n + 1) c2 _ hl (by omega) hr2 er he2.out).mono ?_; rintro e w3 ⟨rfl, hb3⟩))
  all_goals go_ret2
  · have hr' : r = l ++ [⟨i, a⟩] := by
      rcases hr.out with ⟨_, h⟩ | ⟨h, _⟩
      · exact h
      · exact absurd H0.out h
    subst hr'
    exact ⟨_, by rw [H0.out]; rfl, by rw [hl.out]; exact own_below (own_le ho2 (by simp; omega)) hb3, by (repeat' (first | (with_reducible exact Below.refl _ _) | (with_reducible assumption) | (with_reducible refine Below.alloc ?_ ?_ _) | (with_reducible refine below_drewN ?_ _) | (with_reducible refine Below.drew ?_) | (with_reducible refine Below.setCell ?_ ?_ _) | (with_reducible refine below_two ?_ (by with_reducible assumption)) | go_size))⟩
  · have hr' : r = [] := by
      rcases hr.out with ⟨h, _⟩ | ⟨_, h⟩
      · exact absurd h H0.out
      · exact h
    subst hr'
    exact ⟨_, rfl, World.ownsRow_nil _ _ _ _, by (repeat' (first | (with_reducible exact Below.refl _ _) | (with_reducible assumption) | (with_reducible refine Below.alloc ?_ ?_ _) | (with_reducible refine below_drewN ?_ _) | (with_reducible refine Below.drew ?_) | (with_reducible refine Below.setCell ?_ ?_ _) | (with_reducible refine below_two ?_ (by with_reducible assumption)) | go_size))⟩

/-- Add, of any row and record. -/
theorem add_any (l : List Wt) (i a : Int) (A : Option Addr) (n c : Nat) (w : World) (hn : Hid (l.length = n)) (hn' : n ≤ 9223372036854775807) (hA : WRow w A l) (r : List Wt) (er : Int) (h : addF l ⟨i, a⟩ = (r, er)) :
    Calls Try.prog 43 #[.slice A n c, .agg #[.int .i64 i, .int .i64 a]] w (Adds w r er) := by
  by_cases h0 : errC l = 0
  · by_cases h1 : n = 256
    · subst h1
      rw [addF_full h0 hn.out] at h
      injection h with h2 h3
      subst h2 h3
      exact add_full l i a A c w hn hA (Lib.hid h0)
    · have hl := errC_zero.1 h0
      rw [hn.out] at hl
      by_cases h2 : errC (l ++ [⟨i, a⟩]) = 0
      · rw [addF_ok h0 (by rw [hn.out]; exact h1) h2] at h
        injection h with h3 h4
        subst h3 h4
        exact add_last l i a A n c w hn (by omega) hA (Lib.hid h0) 0 (Lib.hid h2) _ (Lib.hid (.inl ⟨rfl, rfl⟩))
      · rw [addF_bad h0 (by rw [hn.out]; exact h1) h2] at h
        injection h with h3 h4
        subst h3 h4
        exact add_last l i a A n c w hn (by omega) hA (Lib.hid h0) 2 (Lib.hid (errC_two (by rw [List.length_append, hn.out]; show n + 1 ≤ 256; omega) h2)) _ (Lib.hid (.inr ⟨by decide, rfl⟩))
  · rw [addF_err h0] at h
    injection h with h2 h3
    subst h2
    exact add_err l i a A n c w hn hn' hA er (Lib.hid h3) (by rw [← h3]; exact h0)

end Go.Proofs.Ytodaknidbdicdaa
