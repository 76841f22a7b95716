/-
  The walk of made: a spec that may be, out of any.
-/
import Derived.Test.YtmmfghialjmgmaaWalkC
import Derived.Test.YtmmfghialjmgmaaBring
import Derived.Deep.RegionHeld3
import Derived.IntWalk
namespace Go.Proofs.Ytmmfghialjmgmaa
open Go.RowKit

def alg (r : Int) : Int := if r = 0 then 8 else if r = 1 then 16 else if r = 2 then 32 else 64

theorem made_any (s a f : Int) (w : World) : Calls Try.prog 18 #[.agg #[.int .i64 s, .int .i64 a, .int .i64 f]] w fun e w' =>
    e = .returned (.agg #[.int .i64 (1 + s % 1024), .int .i64 (alg (a % 4)), .int .i64 0]) ∧ Below w.heap.size w w' := by
  have hs0 : 0 ≤ s % 1024 := by omega
  have hs1 : s % 1024 < 1024 := by omega
  have h4 : a % 4 = 0 ∨ a % 4 = 1 ∨ a % 4 = 2 ∨ a % 4 = 3 := by omega
  rcases h4 with h4 | h4 | h4 | h4
  · rw [show alg (a % 4) = 8 by rw [h4]; rfl]
    have hw1 : IntKind.i64.wrap (1 + s % 1024) = 1 + s % 1024 := IntWalk.i64_in _ (by omega)
    have hw2 : IntKind.i64.wrap 8 = 8 := by decide
    go_enter Try.func18, Try.ntmps18
    go_wp2
    go_region_held3 (fun w' => w'.cell? ⟨w.heap.size, 0, none⟩ = some (.int .i64 s) ∧ w'.cell? ⟨w.heap.size, 1, none⟩ = some (.int .i64 a)) ((first | (simp [go_sem, World.cell?_alloc_past, *]; done) | (simp [go_sem, World.cell?_alloc_past, *]; omega))) (first | (go_at_call 22; refine (bring_any _ _ (by omega) (by omega) _).mono ?_; rintro e w1 ⟨rfl, rfl⟩))
    go_wp2
    exact bodyPost_ret (v := .agg #[.int .i64 (1 + s % 1024), .int .i64 8, .int .i64 0]) (by simp [results, Try.results18, go_sem]) rfl ⟨rfl, by (repeat' (first | (with_reducible exact Below.refl _ _) | (with_reducible assumption) | (with_reducible refine Below.alloc ?_ ?_ _) | (with_reducible refine below_drewN ?_ _) | (with_reducible refine Below.drew ?_) | (with_reducible refine Below.setCell ?_ ?_ _) | (with_reducible refine below_two ?_ (by with_reducible assumption)) | go_size))⟩
  · rw [show alg (a % 4) = 16 by rw [h4]; rfl]
    have hw1 : IntKind.i64.wrap (1 + s % 1024) = 1 + s % 1024 := IntWalk.i64_in _ (by omega)
    have hw2 : IntKind.i64.wrap 16 = 16 := by decide
    go_enter Try.func18, Try.ntmps18
    go_wp2
    go_region_held3 (fun w' => w'.cell? ⟨w.heap.size, 0, none⟩ = some (.int .i64 s) ∧ w'.cell? ⟨w.heap.size, 1, none⟩ = some (.int .i64 a)) ((first | (simp [go_sem, World.cell?_alloc_past, *]; done) | (simp [go_sem, World.cell?_alloc_past, *]; omega))) (first | (go_at_call 22; refine (bring_any _ _ (by omega) (by omega) _).mono ?_; rintro e w1 ⟨rfl, rfl⟩))
    go_wp2
    exact bodyPost_ret (v := .agg #[.int .i64 (1 + s % 1024), .int .i64 16, .int .i64 0]) (by simp [results, Try.results18, go_sem]) rfl ⟨rfl, by (repeat' (first | (with_reducible exact Below.refl _ _) | (with_reducible assumption) | (with_reducible refine Below.alloc ?_ ?_ _) | (with_reducible refine below_drewN ?_ _) | (with_reducible refine Below.drew ?_) | (with_reducible refine Below.setCell ?_ ?_ _) | (with_reducible refine below_two ?_ (by with_reducible assumption)) | go_size))⟩
  · rw [show alg (a % 4) = 32 by rw [h4]; rfl]
    have hw1 : IntKind.i64.wrap (1 + s % 1024) = 1 + s % 1024 := IntWalk.i64_in _ (by omega)
    have hw2 : IntKind.i64.wrap 32 = 32 := by decide
    go_enter Try.func18, Try.ntmps18
    go_wp2
    go_region_held3 (fun w' => w'.cell? ⟨w.heap.size, 0, none⟩ = some (.int .i64 s) ∧ w'.cell? ⟨w.heap.size, 1, none⟩ = some (.int .i64 a)) ((first | (simp [go_sem, World.cell?_alloc_past, *]; done) | (simp [go_sem, World.cell?_alloc_past, *]; omega))) (first | (go_at_call 22; refine (bring_any _ _ (by omega) (by omega) _).mono ?_; rintro e w1 ⟨rfl, rfl⟩))
    go_wp2
    exact bodyPost_ret (v := .agg #[.int .i64 (1 + s % 1024), .int .i64 32, .int .i64 0]) (by simp [results, Try.results18, go_sem]) rfl ⟨rfl, by (repeat' (first | (with_reducible exact Below.refl _ _) | (with_reducible assumption) | (with_reducible refine Below.alloc ?_ ?_ _) | (with_reducible refine below_drewN ?_ _) | (with_reducible refine Below.drew ?_) | (with_reducible refine Below.setCell ?_ ?_ _) | (with_reducible refine below_two ?_ (by with_reducible assumption)) | go_size))⟩
  · rw [show alg (a % 4) = 64 by rw [h4]; rfl]
    have hw1 : IntKind.i64.wrap (1 + s % 1024) = 1 + s % 1024 := IntWalk.i64_in _ (by omega)
    have hw2 : IntKind.i64.wrap 64 = 64 := by decide
    go_enter Try.func18, Try.ntmps18
    go_wp2
    go_region_held3 (fun w' => w'.cell? ⟨w.heap.size, 0, none⟩ = some (.int .i64 s) ∧ w'.cell? ⟨w.heap.size, 1, none⟩ = some (.int .i64 a)) ((first | (simp [go_sem, World.cell?_alloc_past, *]; done) | (simp [go_sem, World.cell?_alloc_past, *]; omega))) (first | (go_at_call 22; refine (bring_any _ _ (by omega) (by omega) _).mono ?_; rintro e w1 ⟨rfl, rfl⟩))
    go_wp2
    exact bodyPost_ret (v := .agg #[.int .i64 (1 + s % 1024), .int .i64 64, .int .i64 0]) (by simp [results, Try.results18, go_sem]) rfl ⟨rfl, by (repeat' (first | (with_reducible exact Below.refl _ _) | (with_reducible assumption) | (with_reducible refine Below.alloc ?_ ?_ _) | (with_reducible refine below_drewN ?_ _) | (with_reducible refine Below.drew ?_) | (with_reducible refine Below.setCell ?_ ?_ _) | (with_reducible refine below_two ?_ (by with_reducible assumption)) | go_size))⟩

end Go.Proofs.Ytmmfghialjmgmaa
