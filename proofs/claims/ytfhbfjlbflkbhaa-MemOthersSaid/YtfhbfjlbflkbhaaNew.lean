/-
  New, Len, Count of both memories.
-/
import Derived.Test.YtfhbfjlbflkbhaaWalkD
import Derived.OwnWalk
import Derived.WalkKit
import Derived.Deep.DeepMust
import Derived.WalkSpells
import Derived.WalkLawsBesides
import Derived.Handy
import Derived.Lib.Hide
import Derived.Deep.QuietTactic
import Derived.BigQuiet
namespace Go.Proofs.Ytfhbfjlbflkbhaa
open Go.RowKit

theorem Try.info29 : (Try.prog.info? 29).map (fun i => (i.zero, i.size, i.bytes)) = some (some (.int .u64 0), 1, 8) := by kernel_rfl

theorem made_words (n : Nat) (h2 : n ≤ 4096) (w : World) : (Instr.makeSlice 22 (.int .i64 (n : Int)) (.int .i64 (n : Int))).run Try.prog w =
    .ok (.slice (some ⟨w.heap.size, 0, none⟩) n n) (w.alloc (.cells (wordV (List.replicate n 0)).toArray 29)) := by
  obtain ⟨i0, hi, hz0, hz1, hz2⟩ := info_parts Try.info29
  have := run_make (P := Try.prog) w 22 29 i0 (.int .u64 0) Try.underlying22 hi hz0 .i64 .i64 n n (by omega) (by omega) (by rw [hz2]; omega) (by omega)
  rw [this, hz1, Int.toNat_natCast, Nat.mul_one]
  have e : madeCells (Value.int .u64 0).cells n = (wordV (List.replicate n 0)).toArray := by
    apply Array.ext'
    rw [show (Value.int .u64 0).cells = #[.int .u64 0] from rfl, toList_madeCells_one]
    simp
  rw [e]

theorem new_ok (n : Nat) (h1 : 1 ≤ n) (h2 : n ≤ 4096) (w : World) : Calls Try.prog 10 #[.int .i64 (n : Int)] w fun e w' =>
    ∃ b g, e = .returned (.tuple #[.pointer (some ⟨b, 0, none⟩), .int .i64 0]) ∧ MemAt 52 w' b g (List.replicate n 0) 0 ∧ w.heap.size ≤ b ∧ w.heap.size ≤ g ∧ Below w.heap.size w w' := by
  have hmk := made_words n h2
  generalize hws : (wordV (List.replicate n 0)).toArray = arr at hmk
  have HW := Lib.hid hws
  clear hws
  have j1 : (1 : Int) ≤ n := by omega
  have j2 : (n : Int) ≤ 4096 := by omega
  go_enter Try.func10, Try.ntmps10
  go_wp2
  go_ret2
  refine ⟨w.heap.size + 1, w.heap.size, rfl, ⟨?_, ?_, by omega⟩, by omega, Nat.le_refl _, by (repeat' (first | (with_reducible exact Below.refl _ _) | (with_reducible assumption) | (with_reducible refine Below.alloc ?_ ?_ _) | (with_reducible refine below_drewN ?_ _) | (with_reducible refine Below.drew ?_) | (with_reducible refine Below.setCell ?_ ?_ _) | (with_reducible refine below_two ?_ (by with_reducible assumption)) | go_size))⟩
  · rw [List.length_replicate]
    have k := Blk.new (w.alloc (.cells arr 29)) 52 #[.slice (some ⟨w.heap.size, 0, none⟩) n n, .int .i64 ((0 : Nat) : Int)]
    rw [World.size_alloc] at k
    exact k
  · rw [HW.out]
    exact (Blk.new w 29 arr).alloc _

theorem new_err (i : Int) (h : i < 1 ∨ 4096 < i) (w : World) : Calls Try.prog 10 #[.int .i64 i] w fun e w' =>
    e = .returned (.tuple #[.pointer none, .int .i64 9]) ∧ w' = w := by
  rcases h with h | h
  · go_enter Try.func10, Try.ntmps10
    go_wp2
    go_ret2
    exact ⟨rfl, rfl⟩
  · go_enter Try.func10, Try.ntmps10
    go_wp2
    go_ret2
    exact ⟨rfl, rfl⟩

theorem rnew_ok (n : Nat) (h1 : 1 ≤ n) (h2 : n ≤ 4096) (w : World) : Calls Try.prog 16 #[.int .i64 (n : Int)] w fun e w' =>
    ∃ b g, e = .returned (.tuple #[.pointer (some ⟨b, 0, none⟩), .int .i64 0]) ∧ MemAt 58 w' b g (List.replicate n 0) 0 ∧ w.heap.size ≤ b ∧ w.heap.size ≤ g ∧ Below w.heap.size w w' := by
  have hmk := made_words n h2
  generalize hws : (wordV (List.replicate n 0)).toArray = arr at hmk
  have HW := Lib.hid hws
  clear hws
  have j1 : (1 : Int) ≤ n := by omega
  have j2 : (n : Int) ≤ 4096 := by omega
  go_enter Try.func16, Try.ntmps16
  go_wp2
  go_ret2
  refine ⟨w.heap.size + 1, w.heap.size, rfl, ⟨?_, ?_, by omega⟩, by omega, Nat.le_refl _, by (repeat' (first | (with_reducible exact Below.refl _ _) | (with_reducible assumption) | (with_reducible refine Below.alloc ?_ ?_ _) | (with_reducible refine below_drewN ?_ _) | (with_reducible refine Below.drew ?_) | (with_reducible refine Below.setCell ?_ ?_ _) | (with_reducible refine below_two ?_ (by with_reducible assumption)) | go_size))⟩
  · rw [List.length_replicate]
    have k := Blk.new (w.alloc (.cells arr 29)) 58 #[.slice (some ⟨w.heap.size, 0, none⟩) n n, .int .i64 ((0 : Nat) : Int)]
    rw [World.size_alloc] at k
    exact k
  · rw [HW.out]
    exact (Blk.new w 29 arr).alloc _

theorem rnew_err (i : Int) (h : i < 1 ∨ 4096 < i) (w : World) : Calls Try.prog 16 #[.int .i64 i] w fun e w' =>
    e = .returned (.tuple #[.pointer none, .int .i64 9]) ∧ w' = w := by
  rcases h with h | h
  · go_enter Try.func16, Try.ntmps16
    go_wp2
    go_ret2
    exact ⟨rfl, rfl⟩
  · go_enter Try.func16, Try.ntmps16
    go_wp2
    go_ret2
    exact ⟨rfl, rfl⟩

theorem len_any (w : World) (b g : Nat) (ws : List Nat) (cnt n : Nat) (hM : MemAt 52 w b g ws cnt) (hn : Hid (ws.length = n)) :
    Calls Try.prog 20 #[.pointer (some ⟨b, 0, none⟩)] w fun e w' => e = .returned (.int .i64 (n : Int)) ∧ w' = w := by
  have hH := hM.head
  rw [hn.out] at hH
  have cb := hH.cell
  go_enter Try.func20, Try.ntmps20
  go_wp2
  go_ret
  exact ⟨rfl, rfl⟩
theorem count_any (w : World) (b g : Nat) (ws : List Nat) (cnt : Nat) (hM : MemAt 52 w b g ws cnt) :
    Calls Try.prog 18 #[.pointer (some ⟨b, 0, none⟩)] w fun e w' => e = .returned (.int .i64 (cnt : Int)) ∧ w' = w := by
  have cb := hM.head.cell
  go_enter Try.func18, Try.ntmps18
  go_wp2
  go_ret
  exact ⟨rfl, rfl⟩
theorem rcount_any (w : World) (b g : Nat) (ws : List Nat) (cnt : Nat) (hM : MemAt 58 w b g ws cnt) :
    Calls Try.prog 19 #[.pointer (some ⟨b, 0, none⟩)] w fun e w' => e = .returned (.int .i64 (cnt : Int)) ∧ w' = w := by
  have cb := hM.head.cell
  go_enter Try.func19, Try.ntmps19
  go_wp2
  go_ret
  exact ⟨rfl, rfl⟩

end Go.Proofs.Ytfhbfjlbflkbhaa
