/-
  Counters that are none.
-/
import Derived.Test.YtnbeofbkfopehaaLawE
import Derived.WalkKit
import Derived.Deep.DeepMust
import Derived.WalkSpells
import Derived.WalkLawsBesides
import Derived.Handy
import Derived.Lib.Hide
import Derived.Deep.QuietTactic
import Derived.BigQuiet
namespace Go.Proofs.Ytnbeofbkfopehaa
open Go.RowKit

/-- Nil, or a block that New did not make. -/
def NoneAt (w : World) (P : Option Addr) : Prop := P = none ∨ ∃ b cs, P = some ⟨b, 0, none⟩ ∧ Blk w b 45 cs ∧ cs[0]? = some (.bool false)
theorem NoneAt.alloc {w : World} {P : Option Addr} (h : NoneAt w P) (o : Obj) : NoneAt (w.alloc o) P := by
  rcases h with h | ⟨b, cs, h1, h2, h3⟩
  · exact .inl h
  · exact .inr ⟨b, cs, h1, h2.alloc o, h3⟩
theorem NoneAt.below {w w' : World} {P : Option Addr} (h : NoneAt w P) (hb : Below w.heap.size w w') : NoneAt w' P := by
  rcases h with h | ⟨b, cs, h1, h2, h3⟩
  · exact .inl h
  · exact .inr ⟨b, cs, h1, h2.below hb, h3⟩

theorem none_yes (w : World) (P : Option Addr) (h : NoneAt w P) : Calls Try.prog 25 #[.pointer P] w fun e w' => e = .returned (.bool true) ∧ w' = w := by
  rcases h with rfl | ⟨b, cs, rfl, h2, h3⟩
  · go_enter Try.func25, Try.ntmps25
    go_wp2
    go_ret
    exact ⟨rfl, rfl⟩
  · have c0 : w.cell? ⟨b, 0, none⟩ = some (.bool false) := (h2.cell 0).trans h3
    clear h2 h3
    go_enter Try.func25, Try.ntmps25
    go_wp2
    go_ret
    exact ⟨rfl, rfl⟩
theorem asked_n (w : World) (P : Option Addr) (h : NoneAt w P) (A : Option Addr) (L c : Nat) (n : Int) : Calls Try.prog 23 #[.pointer P, .slice A L c, .int .i64 n] w fun e w' => e = .returned (.int .i64 1) ∧ w' = w := by
  have H := Lib.hid h
  clear h
  go_enter Try.func23, Try.ntmps23
  go_wp2_with (first | (go_at_call 25; (with_reducible refine (none_yes _ P H.out).mono ?_); rintro e w0 ⟨rfl, hw0⟩; replace hw0 := hw0.symm; subst hw0))
  go_ret
  exact ⟨rfl, rfl⟩
theorem limit_n (w : World) (P : Option Addr) (h : NoneAt w P) (x n : Int) : Calls Try.prog 10 #[.pointer P, .int .i64 x, .int .i64 n] w fun e w' => e = .returned (.int .i64 1) ∧ Below w.heap.size w w' := by
  have H := Lib.hid (h.alloc (.cells #[.int .i64 x] 3))
  clear h
  go_enter Try.func10, Try.ntmps10
  go_wp2_with (first | (go_at_call 23; (with_reducible refine (asked_n _ P H.out _ 1 1 n).mono ?_); rintro e w0 ⟨rfl, hw0⟩; replace hw0 := hw0.symm; subst hw0))
  go_ret
  exact ⟨rfl, by (repeat' (first | (with_reducible exact Below.refl _ _) | (with_reducible assumption) | (with_reducible refine Below.alloc ?_ ?_ _) | (with_reducible refine below_drewN ?_ _) | (with_reducible refine Below.drew ?_) | (with_reducible refine Below.setCell ?_ ?_ _) | (with_reducible refine below_two ?_ (by with_reducible assumption)) | go_size))⟩
theorem up_n (w : World) (P : Option Addr) (h : NoneAt w P) (x n : Int) : Calls Try.prog 21 #[.pointer P, .int .i64 x, .int .i64 n] w fun e w' => e = .returned (.int .i64 1) ∧ Below w.heap.size w w' := by
  have H := Lib.hid (h.alloc (.cells #[.int .i64 x] 3))
  clear h
  go_enter Try.func21, Try.ntmps21
  go_wp2_with (first | (go_at_call 23; (with_reducible refine (asked_n _ P H.out _ 1 1 n).mono ?_); rintro e w0 ⟨rfl, hw0⟩; replace hw0 := hw0.symm; subst hw0))
  go_ret
  exact ⟨rfl, by (repeat' (first | (with_reducible exact Below.refl _ _) | (with_reducible assumption) | (with_reducible refine Below.alloc ?_ ?_ _) | (with_reducible refine below_drewN ?_ _) | (with_reducible refine Below.drew ?_) | (with_reducible refine Below.setCell ?_ ?_ _) | (with_reducible refine below_two ?_ (by with_reducible assumption)) | go_size))⟩
theorem down_n (w : World) (P : Option Addr) (h : NoneAt w P) (x n : Int) : Calls Try.prog 22 #[.pointer P, .int .i64 x, .int .i64 n] w fun e w' => e = .returned (.int .i64 1) ∧ Below w.heap.size w w' := by
  have H := Lib.hid (h.alloc (.cells #[.int .i64 x] 3))
  clear h
  go_enter Try.func22, Try.ntmps22
  go_wp2_with (first | (go_at_call 23; (with_reducible refine (asked_n _ P H.out _ 1 1 n).mono ?_); rintro e w0 ⟨rfl, hw0⟩; replace hw0 := hw0.symm; subst hw0))
  go_ret
  exact ⟨rfl, by (repeat' (first | (with_reducible exact Below.refl _ _) | (with_reducible assumption) | (with_reducible refine Below.alloc ?_ ?_ _) | (with_reducible refine below_drewN ?_ _) | (with_reducible refine Below.drew ?_) | (with_reducible refine Below.setCell ?_ ?_ _) | (with_reducible refine below_two ?_ (by with_reducible assumption)) | go_size))⟩
theorem used_n (w : World) (P : Option Addr) (h : NoneAt w P) (x : Int) : Calls Try.prog 14 #[.pointer P, .int .i64 x] w fun e w' => e = .returned (.int .i64 0) ∧ Below w.heap.size w w' := by
  have H := Lib.hid h
  clear h
  go_enter Try.func14, Try.ntmps14
  go_wp2_with (first | (go_at_call 25; (with_reducible refine (none_yes _ P H.out).mono ?_); rintro e w0 ⟨rfl, hw0⟩; replace hw0 := hw0.symm; subst hw0))
  go_ret
  exact ⟨rfl, by (repeat' (first | (with_reducible exact Below.refl _ _) | (with_reducible assumption) | (with_reducible refine Below.alloc ?_ ?_ _) | (with_reducible refine below_drewN ?_ _) | (with_reducible refine Below.drew ?_) | (with_reducible refine Below.setCell ?_ ?_ _) | (with_reducible refine below_two ?_ (by with_reducible assumption)) | go_size))⟩
theorem most_n (w : World) (P : Option Addr) (h : NoneAt w P) (x : Int) : Calls Try.prog 19 #[.pointer P, .int .i64 x] w fun e w' => e = .returned (.int .i64 0) ∧ Below w.heap.size w w' := by
  have H := Lib.hid h
  clear h
  go_enter Try.func19, Try.ntmps19
  go_wp2_with (first | (go_at_call 25; (with_reducible refine (none_yes _ P H.out).mono ?_); rintro e w0 ⟨rfl, hw0⟩; replace hw0 := hw0.symm; subst hw0))
  go_ret
  exact ⟨rfl, by (repeat' (first | (with_reducible exact Below.refl _ _) | (with_reducible assumption) | (with_reducible refine Below.alloc ?_ ?_ _) | (with_reducible refine below_drewN ?_ _) | (with_reducible refine Below.drew ?_) | (with_reducible refine Below.setCell ?_ ?_ _) | (with_reducible refine below_two ?_ (by with_reducible assumption)) | go_size))⟩
theorem back_n0 (w : World) (P : Option Addr) (h : NoneAt w P) (n : Int) : Calls Try.prog 13 #[.pointer P, .slice none 0 0, .int .i64 n] w fun e w' => e = .returned (.int .i64 1) ∧ Below w.heap.size w w' := by
  have H := Lib.hid h
  clear h
  go_enter Try.func13, Try.ntmps13
  go_wp2_with (first | (go_at_call 23; (with_reducible refine (asked_n _ P H.out none 0 0 n).mono ?_); rintro e w0 ⟨rfl, hw0⟩; replace hw0 := hw0.symm; subst hw0))
  go_ret
  exact ⟨rfl, by (repeat' (first | (with_reducible exact Below.refl _ _) | (with_reducible assumption) | (with_reducible refine Below.alloc ?_ ?_ _) | (with_reducible refine below_drewN ?_ _) | (with_reducible refine Below.drew ?_) | (with_reducible refine Below.setCell ?_ ?_ _) | (with_reducible refine below_two ?_ (by with_reducible assumption)) | go_size))⟩
theorem try_n0 (w : World) (P : Option Addr) (h : NoneAt w P) (n : Int) : Calls Try.prog 11 #[.pointer P, .slice none 0 0, .int .i64 n] w fun e w' => e = .returned (.tuple #[.int .i64 0, .int .i64 1]) ∧ Below w.heap.size w w' := by
  have H := Lib.hid ((h.alloc (.cells #[.pointer P] 23)).alloc (.cells #[.int .i64 n] 3))
  clear h
  go_enter_defers Try.func11, Try.ntmps11
  go_wp2_with (first | (go_at_call 23; (with_reducible refine (asked_n _ P H.out none 0 0 n).mono ?_); rintro e w0 ⟨rfl, hw0⟩; replace hw0 := hw0.symm; subst hw0))
  exact ⟨.tuple #[.int .i64 0, .int .i64 1], by simp [results, Try.results11, go_sem]; try rfl, rfl, by (repeat' (first | (with_reducible exact Below.refl _ _) | (with_reducible assumption) | (with_reducible refine Below.alloc ?_ ?_ _) | (with_reducible refine below_drewN ?_ _) | (with_reducible refine Below.drew ?_) | (with_reducible refine Below.setCell ?_ ?_ _) | (with_reducible refine below_two ?_ (by with_reducible assumption)) | go_size))⟩

end Go.Proofs.Ytnbeofbkfopehaa
