/-
  The walks of aligned and of Of (of both texts).
-/
import Derived.Test.YtibpaomkaknbhaaWalkA
import Derived.Test.YtibpaomkaknbhaaStore
import Derived.Laws.BitsLemmas
namespace Go.Proofs.Ytibpaomkaknbhaa
open Go.RowKit

theorem andB65 : ∀ x : Fin 65, 1 ≤ x.val → ((bits .and .i64 (x.val : Int) ((x.val : Int) - 1) != 0) = !alB (x.val : Int)) := by decide +kernel
theorem andB {a : Int} (h1 : 1 ≤ a) (h2 : a ≤ 64) : (bits .and .i64 a (a - 1) != 0) = !alB a := by
  obtain ⟨n, rfl⟩ := Int.eq_ofNat_of_zero_le (show 0 ≤ a by omega)
  exact andB65 ⟨n, by omega⟩ (by simp; omega)

theorem aligned_any (a : Int) (w : World) : Calls Try.prog 18 #[.int .i64 a] w fun e w' => e = .returned (.bool (alB a)) ∧ w' = w := by
  cases h : alB a
  · have hn : ¬ (a = 1 ∨ a = 2 ∨ a = 4 ∨ a = 8 ∨ a = 16 ∨ a = 32 ∨ a = 64) := by rw [← alB_iff, h]; exact Bool.false_ne_true
    have b0 : (a == 1) = false := by rw [beq_eq_false_iff_ne]; omega
    have b1 : (a == 2) = false := by rw [beq_eq_false_iff_ne]; omega
    have b2 : (a == 4) = false := by rw [beq_eq_false_iff_ne]; omega
    have b3 : (a == 8) = false := by rw [beq_eq_false_iff_ne]; omega
    have b4 : (a == 16) = false := by rw [beq_eq_false_iff_ne]; omega
    have b5 : (a == 32) = false := by rw [beq_eq_false_iff_ne]; omega
    have b6 : (a == 64) = false := by rw [beq_eq_false_iff_ne]; omega
    clear hn h
    go_enter Try.func18, Try.ntmps18
    go_wp2
    go_rounds 8
    go_ret
    exact ⟨rfl, rfl⟩
  · rcases (alB_iff a).1 h with rfl | rfl | rfl | rfl | rfl | rfl | rfl
    all_goals
      clear h
      go_enter Try.func18, Try.ntmps18
      go_wp2
      go_rounds 8
      go_ret
      exact ⟨rfl, rfl⟩

def layC (x : Lay) : Array Value := #[.int .i64 x.sz, .int .i64 x.al, .int .i64 x.st, .int .i64 x.off, .int .i64 x.ord, .int .i64 x.obj, .int .i64 x.was]

theorem of_no (s a : Int) (g : Bool) (h : okL s a = false) (w : World) : Calls Try.prog 8 #[.int .i64 s, .int .i64 a, .bool g] w fun e w' =>
    e = .returned (.tuple #[layV lay0, .int .i64 2]) ∧ Below w.heap.size w w' := by
  have hn : ¬ (1 ≤ s ∧ s ≤ 2048 ∧ alB a = true) := by
    rw [alB_iff, ← okL_iff, h]; exact Bool.false_ne_true
  by_cases h1 : s < 1
  · clear hn h
    go_enter Try.func8, Try.ntmps8
    go_wp2
    exact bodyPost_ret (v := .tuple #[.agg #[.int .i64 0, .int .i64 0, .int .i64 0, .int .i64 0, .int .i64 0, .int .i64 0, .int .i64 0], .int .i64 2]) (by simp [results, Try.results8, go_sem]) rfl ⟨rfl, by (repeat' (first | (with_reducible exact Below.refl _ _) | (with_reducible assumption) | (with_reducible refine Below.alloc ?_ ?_ _) | (with_reducible refine below_drewN ?_ _) | (with_reducible refine Below.drew ?_) | (with_reducible refine Below.setCell ?_ ?_ _) | (with_reducible refine below_two ?_ (by with_reducible assumption)) | go_size))⟩
  by_cases h2 : 2048 < s
  · clear hn h
    go_enter Try.func8, Try.ntmps8
    go_wp2
    exact bodyPost_ret (v := .tuple #[.agg #[.int .i64 0, .int .i64 0, .int .i64 0, .int .i64 0, .int .i64 0, .int .i64 0, .int .i64 0], .int .i64 2]) (by simp [results, Try.results8, go_sem]) rfl ⟨rfl, by (repeat' (first | (with_reducible exact Below.refl _ _) | (with_reducible assumption) | (with_reducible refine Below.alloc ?_ ?_ _) | (with_reducible refine below_drewN ?_ _) | (with_reducible refine Below.drew ?_) | (with_reducible refine Below.setCell ?_ ?_ _) | (with_reducible refine below_two ?_ (by with_reducible assumption)) | go_size))⟩
  by_cases h3 : a < 1
  · clear hn h
    go_enter Try.func8, Try.ntmps8
    go_wp2
    exact bodyPost_ret (v := .tuple #[.agg #[.int .i64 0, .int .i64 0, .int .i64 0, .int .i64 0, .int .i64 0, .int .i64 0, .int .i64 0], .int .i64 2]) (by simp [results, Try.results8, go_sem]) rfl ⟨rfl, by (repeat' (first | (with_reducible exact Below.refl _ _) | (with_reducible assumption) | (with_reducible refine Below.alloc ?_ ?_ _) | (with_reducible refine below_drewN ?_ _) | (with_reducible refine Below.drew ?_) | (with_reducible refine Below.setCell ?_ ?_ _) | (with_reducible refine below_two ?_ (by with_reducible assumption)) | go_size))⟩
  by_cases h4 : 64 < a
  · clear hn h
    go_enter Try.func8, Try.ntmps8
    go_wp2
    exact bodyPost_ret (v := .tuple #[.agg #[.int .i64 0, .int .i64 0, .int .i64 0, .int .i64 0, .int .i64 0, .int .i64 0, .int .i64 0], .int .i64 2]) (by simp [results, Try.results8, go_sem]) rfl ⟨rfl, by (repeat' (first | (with_reducible exact Below.refl _ _) | (with_reducible assumption) | (with_reducible refine Below.alloc ?_ ?_ _) | (with_reducible refine below_drewN ?_ _) | (with_reducible refine Below.drew ?_) | (with_reducible refine Below.setCell ?_ ?_ _) | (with_reducible refine below_two ?_ (by with_reducible assumption)) | go_size))⟩
  have hk : alB a = false := by
    cases hx : alB a
    · rfl
    · exact absurd ⟨by omega, by omega, hx⟩ hn
  have hb := andB (a := a) (by omega) (by omega)
  rw [hk] at hb
  clear hn h hk
  go_enter Try.func8, Try.ntmps8
  go_wp2
  exact bodyPost_ret (v := .tuple #[.agg #[.int .i64 0, .int .i64 0, .int .i64 0, .int .i64 0, .int .i64 0, .int .i64 0, .int .i64 0], .int .i64 2]) (by simp [results, Try.results8, go_sem]) rfl ⟨rfl, by (repeat' (first | (with_reducible exact Below.refl _ _) | (with_reducible assumption) | (with_reducible refine Below.alloc ?_ ?_ _) | (with_reducible refine below_drewN ?_ _) | (with_reducible refine Below.drew ?_) | (with_reducible refine Below.setCell ?_ ?_ _) | (with_reducible refine below_two ?_ (by with_reducible assumption)) | go_size))⟩

end Go.Proofs.Ytibpaomkaknbhaa
