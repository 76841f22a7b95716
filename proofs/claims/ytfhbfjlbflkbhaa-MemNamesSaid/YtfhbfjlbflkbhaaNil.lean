/-
  Memories that are none: nil, and one without words.
-/
import Derived.Test.YtfhbfjlbflkbhaaAny
import Derived.WalkKit
import Derived.Deep.DeepMust
import Derived.WalkSpells
import Derived.WalkLawsBesides
import Derived.Handy
import Derived.Lib.Hide
import Derived.Deep.QuietTactic
import Derived.BigQuiet
namespace Go.Proofs.Ytfhbfjlbflkbhaa
open Go.RowKit

/-- The value is a memory that is none. -/
def NoMem (w : World) (v : Value) : Prop := v = .pointer none ∨ ∃ b, v = .pointer (some ⟨b, 0, none⟩) ∧ Blk w b 52 #[.slice none 0 0, .int .i64 0]
theorem NoMem.nil (w : World) : NoMem w (.pointer none) := .inl rfl
theorem NoMem.below {w w' : World} {v : Value} (h : NoMem w v) (hb : Below w.heap.size w w') : NoMem w' v := by
  rcases h with h | ⟨b, h, hB⟩
  · exact .inl h
  · exact .inr ⟨b, h, hB.below hb⟩
theorem NoMem.alloc {w : World} {v : Value} (h : NoMem w v) (o : Obj) : NoMem (w.alloc o) v := by
  rcases h with h | ⟨b, h, hB⟩
  · exact .inl h
  · exact .inr ⟨b, h, hB.alloc o⟩
theorem NoMem.two {w w' : World} {v : Value} {b g : Nat} (h : NoMem w v) (ht : Two b g w w') (h1 : ∀ k, v = .pointer (some ⟨k, 0, none⟩) → k ≠ b ∧ k ≠ g) : NoMem w' v := by
  rcases h with h | ⟨k, h, hB⟩
  · exact .inl h
  · exact .inr ⟨k, h, (ht.block k hB.lt (h1 k h).1 (h1 k h).2).trans hB⟩
theorem nil_nil (n c : Nat) (w : World) : (binOp .eql 22 (.slice none n c) (.slice none 0 0)).run Try.prog w = .ok (.bool true) w :=
  Go.Lib.run_eql_slice_nil w 22 29 none n c 0 0 (by rfl)

set_option maxHeartbeats 1000000 in
theorem load_none (w : World) (v : Value) (h : NoMem w v) : Calls Try.prog 12 #[v, .int .i64 0] w fun e w' =>
    e = .returned (.tuple #[.int .u64 0, .int .i64 1]) ∧ Below w.heap.size w w' := by
  have hmf := @made_func
  rcases h with rfl | ⟨b, rfl, hB⟩
  · go_enter Try.func12, Try.ntmps12
    go_wp2_with (first | go_in)
    go_returns
    exact ⟨rfl, by (repeat' (first | (with_reducible exact Below.refl _ _) | (with_reducible assumption) | (with_reducible refine Below.alloc ?_ ?_ _) | (with_reducible refine below_drewN ?_ _) | (with_reducible refine Below.drew ?_) | (with_reducible refine Below.setCell ?_ ?_ _) | (with_reducible refine below_two ?_ (by with_reducible assumption)) | go_size))⟩
  · have nb := hB.lt
    have cb := hB.cell
    have hnn := nil_nil 0 0
    go_enter Try.func12, Try.ntmps12
    go_wp2_with (first | go_in)
    go_returns
    exact ⟨rfl, by (repeat' (first | (with_reducible exact Below.refl _ _) | (with_reducible assumption) | (with_reducible refine Below.alloc ?_ ?_ _) | (with_reducible refine below_drewN ?_ _) | (with_reducible refine Below.drew ?_) | (with_reducible refine Below.setCell ?_ ?_ _) | (with_reducible refine below_two ?_ (by with_reducible assumption)) | go_size))⟩

set_option maxHeartbeats 1000000 in
theorem store_none (w : World) (v : Value) (h : NoMem w v) : Calls Try.prog 13 #[v, .int .i64 0, .int .u64 0] w fun e w' =>
    e = .returned (.int .i64 1) ∧ Below w.heap.size w w' := by
  have hmf := @made_func
  rcases h with rfl | ⟨b, rfl, hB⟩
  · go_enter Try.func13, Try.ntmps13
    go_wp2_with (first | go_in)
    go_returns
    exact ⟨rfl, by (repeat' (first | (with_reducible exact Below.refl _ _) | (with_reducible assumption) | (with_reducible refine Below.alloc ?_ ?_ _) | (with_reducible refine below_drewN ?_ _) | (with_reducible refine Below.drew ?_) | (with_reducible refine Below.setCell ?_ ?_ _) | (with_reducible refine below_two ?_ (by with_reducible assumption)) | go_size))⟩
  · have nb := hB.lt
    have cb := hB.cell
    have hnn := nil_nil 0 0
    go_enter Try.func13, Try.ntmps13
    go_wp2_with (first | go_in)
    go_returns
    exact ⟨rfl, by (repeat' (first | (with_reducible exact Below.refl _ _) | (with_reducible assumption) | (with_reducible refine Below.alloc ?_ ?_ _) | (with_reducible refine below_drewN ?_ _) | (with_reducible refine Below.drew ?_) | (with_reducible refine Below.setCell ?_ ?_ _) | (with_reducible refine below_two ?_ (by with_reducible assumption)) | go_size))⟩

set_option maxHeartbeats 1000000 in
theorem cas_none (w : World) (v : Value) (h : NoMem w v) : Calls Try.prog 15 #[v, .int .i64 0, .int .u64 0, .int .u64 0] w fun e w' =>
    e = .returned (.tuple #[.bool false, .int .i64 1]) ∧ Below w.heap.size w w' := by
  have hmf := @made_func
  rcases h with rfl | ⟨b, rfl, hB⟩
  · go_enter Try.func15, Try.ntmps15
    go_wp2_with (first | go_in)
    go_returns
    exact ⟨rfl, by (repeat' (first | (with_reducible exact Below.refl _ _) | (with_reducible assumption) | (with_reducible refine Below.alloc ?_ ?_ _) | (with_reducible refine below_drewN ?_ _) | (with_reducible refine Below.drew ?_) | (with_reducible refine Below.setCell ?_ ?_ _) | (with_reducible refine below_two ?_ (by with_reducible assumption)) | go_size))⟩
  · have nb := hB.lt
    have cb := hB.cell
    have hnn := nil_nil 0 0
    have l0 : (((w.alloc (.cells #[.int .u64 0] 29)).alloc (.cells #[.int .u64 0] 29)).alloc (.cells #[.bool false] 4)).cell? ⟨b, 0, none⟩ = some (.slice none 0 0) := (((hB.alloc _).alloc _).alloc _).cell 0
    go_enter Try.func15, Try.ntmps15
    go_wp2_with (first | go_in)
    go_returns
    exact ⟨rfl, by (repeat' (first | (with_reducible exact Below.refl _ _) | (with_reducible assumption) | (with_reducible refine Below.alloc ?_ ?_ _) | (with_reducible refine below_drewN ?_ _) | (with_reducible refine Below.drew ?_) | (with_reducible refine Below.setCell ?_ ?_ _) | (with_reducible refine below_two ?_ (by with_reducible assumption)) | go_size))⟩

set_option maxHeartbeats 1000000 in
theorem cas2_none (w : World) (v : Value) (h : NoMem w v) : Calls Try.prog 14 #[v, .int .i64 0, .int .u64 0, .int .u64 0, .int .u64 0, .int .u64 0] w fun e w' =>
    e = .returned (.tuple #[.bool false, .int .i64 1]) ∧ Below w.heap.size w w' := by
  have hmf := @made_func
  rcases h with rfl | ⟨b, rfl, hB⟩
  · go_enter Try.func14, Try.ntmps14
    go_wp2_with (first | go_in)
    go_returns
    exact ⟨rfl, by (repeat' (first | (with_reducible exact Below.refl _ _) | (with_reducible assumption) | (with_reducible refine Below.alloc ?_ ?_ _) | (with_reducible refine below_drewN ?_ _) | (with_reducible refine Below.drew ?_) | (with_reducible refine Below.setCell ?_ ?_ _) | (with_reducible refine below_two ?_ (by with_reducible assumption)) | go_size))⟩
  · have nb := hB.lt
    have cb := hB.cell
    have hnn := nil_nil 0 0
    have l0 : (((((w.alloc (.cells #[.int .u64 0] 29)).alloc (.cells #[.int .u64 0] 29)).alloc (.cells #[.int .u64 0] 29)).alloc (.cells #[.int .u64 0] 29)).alloc (.cells #[.bool false] 4)).cell? ⟨b, 0, none⟩ = some (.slice none 0 0) := (((((hB.alloc _).alloc _).alloc _).alloc _).alloc _).cell 0
    go_enter Try.func14, Try.ntmps14
    go_wp2_with (first | go_in)
    go_returns
    exact ⟨rfl, by (repeat' (first | (with_reducible exact Below.refl _ _) | (with_reducible assumption) | (with_reducible refine Below.alloc ?_ ?_ _) | (with_reducible refine below_drewN ?_ _) | (with_reducible refine Below.drew ?_) | (with_reducible refine Below.setCell ?_ ?_ _) | (with_reducible refine below_two ?_ (by with_reducible assumption)) | go_size))⟩

set_option maxHeartbeats 1000000 in
theorem add_none (w : World) (v : Value) (h : NoMem w v) : Calls Try.prog 11 #[v, .int .i64 0, .int .u64 0] w fun e w' =>
    e = .returned (.tuple #[.int .u64 0, .int .i64 1]) ∧ Below w.heap.size w w' := by
  have hmf := @made_func
  rcases h with rfl | ⟨b, rfl, hB⟩
  · go_enter Try.func11, Try.ntmps11
    go_wp2_with (first | go_in)
    go_returns
    exact ⟨rfl, by (repeat' (first | (with_reducible exact Below.refl _ _) | (with_reducible assumption) | (with_reducible refine Below.alloc ?_ ?_ _) | (with_reducible refine below_drewN ?_ _) | (with_reducible refine Below.drew ?_) | (with_reducible refine Below.setCell ?_ ?_ _) | (with_reducible refine below_two ?_ (by with_reducible assumption)) | go_size))⟩
  · have nb := hB.lt
    have cb := hB.cell
    have hnn := nil_nil 0 0
    go_enter Try.func11, Try.ntmps11
    go_wp2_with (first | go_in)
    go_returns
    exact ⟨rfl, by (repeat' (first | (with_reducible exact Below.refl _ _) | (with_reducible assumption) | (with_reducible refine Below.alloc ?_ ?_ _) | (with_reducible refine below_drewN ?_ _) | (with_reducible refine Below.drew ?_) | (with_reducible refine Below.setCell ?_ ?_ _) | (with_reducible refine below_two ?_ (by with_reducible assumption)) | go_size))⟩

theorem len_none (w : World) (v : Value) (h : NoMem w v) : Calls Try.prog 20 #[v] w fun e w' => e = .returned (.int .i64 0) ∧ Below w.heap.size w w' := by
  rcases h with rfl | ⟨b, rfl, hB⟩
  · go_enter Try.func20, Try.ntmps20
    go_wp2
    go_ret
    exact ⟨rfl, by (repeat' (first | (with_reducible exact Below.refl _ _) | (with_reducible assumption) | (with_reducible refine Below.alloc ?_ ?_ _) | (with_reducible refine below_drewN ?_ _) | (with_reducible refine Below.drew ?_) | (with_reducible refine Below.setCell ?_ ?_ _) | (with_reducible refine below_two ?_ (by with_reducible assumption)) | go_size))⟩
  · have cb := hB.cell
    go_enter Try.func20, Try.ntmps20
    go_wp2
    go_ret
    exact ⟨rfl, by (repeat' (first | (with_reducible exact Below.refl _ _) | (with_reducible assumption) | (with_reducible refine Below.alloc ?_ ?_ _) | (with_reducible refine below_drewN ?_ _) | (with_reducible refine Below.drew ?_) | (with_reducible refine Below.setCell ?_ ?_ _) | (with_reducible refine below_two ?_ (by with_reducible assumption)) | go_size))⟩

theorem count_none (w : World) (v : Value) (h : NoMem w v) : Calls Try.prog 18 #[v] w fun e w' => e = .returned (.int .i64 0) ∧ Below w.heap.size w w' := by
  rcases h with rfl | ⟨b, rfl, hB⟩
  · go_enter Try.func18, Try.ntmps18
    go_wp2
    go_ret
    exact ⟨rfl, by (repeat' (first | (with_reducible exact Below.refl _ _) | (with_reducible assumption) | (with_reducible refine Below.alloc ?_ ?_ _) | (with_reducible refine below_drewN ?_ _) | (with_reducible refine Below.drew ?_) | (with_reducible refine Below.setCell ?_ ?_ _) | (with_reducible refine below_two ?_ (by with_reducible assumption)) | go_size))⟩
  · have cb := hB.cell
    go_enter Try.func18, Try.ntmps18
    go_wp2
    go_ret
    exact ⟨rfl, by (repeat' (first | (with_reducible exact Below.refl _ _) | (with_reducible assumption) | (with_reducible refine Below.alloc ?_ ?_ _) | (with_reducible refine below_drewN ?_ _) | (with_reducible refine Below.drew ?_) | (with_reducible refine Below.setCell ?_ ?_ _) | (with_reducible refine below_two ?_ (by with_reducible assumption)) | go_size))⟩

theorem words_none (w : World) (v : Value) (h : NoMem w v) : Calls Try.prog 22 #[v] w fun e w' => e = .returned (.slice none 0 0) ∧ Below w.heap.size w w' := by
  rcases h with rfl | ⟨b, rfl, hB⟩
  · go_enter Try.func22, Try.ntmps22
    go_wp2
    go_ret
    exact ⟨rfl, by (repeat' (first | (with_reducible exact Below.refl _ _) | (with_reducible assumption) | (with_reducible refine Below.alloc ?_ ?_ _) | (with_reducible refine below_drewN ?_ _) | (with_reducible refine Below.drew ?_) | (with_reducible refine Below.setCell ?_ ?_ _) | (with_reducible refine below_two ?_ (by with_reducible assumption)) | go_size))⟩
  · have cb := hB.cell
    have hnn := nil_nil 0 0
    go_enter Try.func22, Try.ntmps22
    go_wp2_with (first | go_in)
    go_ret
    exact ⟨rfl, by (repeat' (first | (with_reducible exact Below.refl _ _) | (with_reducible assumption) | (with_reducible refine Below.alloc ?_ ?_ _) | (with_reducible refine below_drewN ?_ _) | (with_reducible refine Below.drew ?_) | (with_reducible refine Below.setCell ?_ ?_ _) | (with_reducible refine below_two ?_ (by with_reducible assumption)) | go_size))⟩

end Go.Proofs.Ytfhbfjlbflkbhaa
