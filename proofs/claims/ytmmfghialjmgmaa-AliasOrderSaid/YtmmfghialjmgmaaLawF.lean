/-
  The walk of AliasKnown.
-/
import Derived.Test.YtmmfghialjmgmaaLawB
import Derived.Test.YtmmfghialjmgmaaLawE
import Derived.Deep.RegionHeld3
namespace Go.Proofs.Ytmmfghialjmgmaa
open Go.RowKit

def knownSizes : List Int := [-1, 0, 1, 7, 8, 9, 16, 63, 64, 65, 1023, 1024, 1025, 9223372036854775807, -9223372036854775808]
def knownAligns : List Int := [-8, 0, 1, 4, 7, 8, 12, 16, 24, 32, 64, 128]
def intRow (l : List Int) : Obj := .cells (l.map (Value.int .i64)).toArray 3

theorem row_cell {w : World} {g : Nat} {l : List Int} (h : w.heap[g]? = some (intRow l)) (i : Nat) (hi : i < l.length) : ∃ n, w.cell? ⟨g, i, none⟩ = some (.int .i64 n) := by
  refine ⟨l[i], ?_⟩
  rw [Blk.cell (t := 3) (cs := (l.map (Value.int .i64)).toArray) h]
  simp [hi]

theorem finds_none (w : World) : Calls Try.prog 4 #[.slice none 0 0, .agg #[.int .i64 1, .int .i64 8, .int .i64 0]] w fun e w' =>
    e = .returned (.bool true) ∧ Below w.heap.size w w' :=
  afinds_any [] ⟨1, 8, 0⟩ none 0 w (by rw [List.length_nil]; omega) (fun h => absurd h (Nat.lt_irrefl 0))

set_option maxHeartbeats 2000000 in
theorem known_any (w : World) : Calls Try.prog 8 #[] w fun e w' => e = .returned (.bool true) ∧ Below w.heap.size w w' := by
  go_enter Try.func8, Try.ntmps8
  go_wp2
  obtain ⟨W0, hW⟩ : ∃ W0, W0 = (w.alloc (intRow knownSizes)).alloc (intRow knownAligns) := ⟨_, rfl⟩
  change Code.wp _ _ _ _ ((w.alloc (intRow knownSizes)).alloc (intRow knownAligns))
  rw [← hW]
  have h0 : Below w.heap.size w W0 := by rw [hW]; exact ((Below.refl _ _).alloc (Nat.le_refl _) _).alloc (by simp) _
  have hs0 : W0.heap.size = w.heap.size + 2 := by rw [hW, World.size_alloc, World.size_alloc]
  have r0 : W0.heap[w.heap.size]? = some (intRow knownSizes) := by
    rw [hW, Below.heap_alloc _ _ _ (by simp)]
    exact heap_alloc_at _ _
  have r1 : W0.heap[w.heap.size + 1]? = some (intRow knownAligns) := by
    rw [hW]
    have := heap_alloc_at (w.alloc (intRow knownSizes)) (intRow knownAligns)
    rwa [World.size_alloc] at this
  have R0 := Lib.hid (row_cell r0)
  have R1 := Lib.hid (row_cell r1)
  clear hW r0 r1
  have HS := Lib.hid hs0
  have hs1 : w.heap.size + 2 ≤ W0.heap.size := by omega
  clear hs0
  go_loopw [3] (fun j wr => ∃ k : Nat, k ≤ 15 ∧ j = .int .i64 k ∧ Below W0.heap.size W0 wr) (fun j _ => 15 - (intOf j).toNat)
  case atStart => exact ⟨0, by omega, rfl, Below.refl _ _⟩
  case round =>
    obtain ⟨k, hk, rfl, hw⟩ := hrel
    have hz := hw.size
    by_cases hk' : k < 15
    · have hkb : decide ((k : Int) < 15) = true := by simp; omega
      go_wp2
      obtain ⟨wo, rfl⟩ : ∃ wo : World, wo = wr := ⟨_, rfl⟩
      go_loopw [4] (fun j wr => ∃ m : Nat, m ≤ 12 ∧ j = .int .i64 m ∧ Below wo.heap.size wo wr) (fun j _ => 12 - (intOf j).toNat)
      case atStart => exact ⟨0, by omega, rfl, Below.refl _ _⟩
      case round =>
        obtain ⟨m, hm, rfl, hw'⟩ := hrel
        have hz' := hw'.size
        by_cases hm' : m < 12
        · have hmb : decide ((m : Int) < 12) = true := by simp; omega
          go_wp2
          obtain ⟨wm, rfl⟩ : ∃ wm : World, wm = wr := ⟨_, rfl⟩
          go_loopw [5] (fun j wr => ∃ f : Int, -1 ≤ f ∧ f ≤ 9 ∧ j = .int .i64 f ∧ Below wm.heap.size wm wr) (fun j _ => (9 - intOf j).toNat)
          case atStart => exact ⟨-1, by omega, by omega, rfl, Below.refl _ _⟩
          case round =>
            obtain ⟨f, hf0, hf1, rfl, hw''⟩ := hrel
            have hz'' := hw''.size
            by_cases hf' : f < 9
            · obtain ⟨n0, c0⟩ := R0.out k hk'
              obtain ⟨n1, c1⟩ := R1.out m hm'
              have c0' : wr.cell? ⟨w.heap.size, k, none⟩ = some (.int .i64 n0) := by (repeat' (first | (with_reducible assumption) | (with_reducible refine cell_alloc ?_) | (with_reducible refine cell_drewN _ ?_) | (with_reducible refine cell_drew ?_) | (with_reducible refine cell_below (by with_reducible assumption) ?_)))
              have c1' : wr.cell? ⟨w.heap.size + 1, m, none⟩ = some (.int .i64 n1) := by (repeat' (first | (with_reducible assumption) | (with_reducible refine cell_alloc ?_) | (with_reducible refine cell_drewN _ ?_) | (with_reducible refine cell_drew ?_) | (with_reducible refine cell_below (by with_reducible assumption) ?_)))
              have hki : (k : Int) < 15 := by omega
              have hmi : (m : Int) < 12 := by omega
              have hk0 : (0 : Int) ≤ (k : Int) := by omega
              have hm0 : (0 : Int) ≤ (m : Int) := by omega
              have ne0 := World.new_ne wr _ c0'
              have ne1 := World.new_ne wr _ c1'
              go_wp2
              go_region_held3 (fun w' => w'.cell? ⟨w.heap.size, k, none⟩ = some (.int .i64 n0) ∧ w'.cell? ⟨w.heap.size + 1, m, none⟩ = some (.int .i64 n1)) (go_keep) (fail)
              all_goals
                go_wp2_with (first | (go_at_call 3; refine (answers_any _ _ _ _ _ _ _).mono ?_; rintro e w1 ⟨rfl, hb1⟩; obtain ⟨hz1, hc1, hf1⟩ := bcellB hb1 (wr.heap.size + 1) (by go_size)))
                go_roundw
                case rel => exact ⟨f + 1, by omega, by omega, rfl, by (repeat' (first | (with_reducible exact Below.refl _ _) | (with_reducible assumption) | (with_reducible refine Below.alloc ?_ ?_ _) | (with_reducible refine below_drewN ?_ _) | (with_reducible refine Below.drew ?_) | (with_reducible refine Below.setCell ?_ ?_ _) | (with_reducible refine below_two ?_ (by with_reducible assumption)) | go_size))⟩
                case measure => simp [intOf]; omega
            · go_wp2
              go_roundw
              case rel => exact ⟨m + 1, by omega, by go_num, by (repeat' (first | (with_reducible exact Below.refl _ _) | (with_reducible assumption) | (with_reducible refine Below.alloc ?_ ?_ _) | (with_reducible refine below_drewN ?_ _) | (with_reducible refine Below.drew ?_) | (with_reducible refine Below.setCell ?_ ?_ _) | (with_reducible refine below_two ?_ (by with_reducible assumption)) | go_size))⟩
              case measure => simp [intOf]; omega
        · go_wp2
          go_roundw
          case rel => exact ⟨k + 1, by omega, by go_num, by (repeat' (first | (with_reducible exact Below.refl _ _) | (with_reducible assumption) | (with_reducible refine Below.alloc ?_ ?_ _) | (with_reducible refine below_drewN ?_ _) | (with_reducible refine Below.drew ?_) | (with_reducible refine Below.setCell ?_ ?_ _) | (with_reducible refine below_two ?_ (by with_reducible assumption)) | go_size))⟩
          case measure => simp [intOf]; omega
    · go_wp2_with (first | (go_at_call 15; refine (works_any _).mono ?_; rintro e w1 ⟨rfl, hb1⟩; obtain ⟨hz1, hc1, hf1⟩ := bcellB hb1 (w.heap.size) (by go_size)) | (go_at_call 4; refine (finds_none _).mono ?_; rintro e w1 ⟨rfl, hb1⟩; obtain ⟨hz1, hc1, hf1⟩ := bcellB hb1 (w.heap.size) (by go_size)))
      go_ret
      exact ⟨rfl, by (repeat' (first | (with_reducible exact Below.refl _ _) | (with_reducible assumption) | (with_reducible refine Below.alloc ?_ ?_ _) | (with_reducible refine below_drewN ?_ _) | (with_reducible refine Below.drew ?_) | (with_reducible refine Below.setCell ?_ ?_ _) | (with_reducible refine below_two ?_ (by with_reducible assumption)) | go_size))⟩

end Go.Proofs.Ytmmfghialjmgmaa
