/-
  The walks of Check, Step, Serves (of both texts).
-/
import Derived.Test.YtmmfghialjmgmaaRows
import Derived.Test.YtmmfghialjmgmaaPlain
import Derived.Test.YtmmfghialjmgmaaFrame
import Derived.Test.YtmmfghialjmgmaaWorlds
import Derived.Test.YtmmfghialjmgmaaMapInt
import Derived.WalkKit
import Derived.WalkSpells
import Derived.WalkLawsBesides
import Derived.Handy
import Derived.Lib.Hide
import Derived.Deep.RegionHeld3
import Derived.Deep.QuietTactic
import Derived.BigQuiet
namespace Go.Proofs.Ytmmfghialjmgmaa
open Go.RowKit

def alignsMap : List MapEntry := [⟨.int .i64 8, .agg #[], 0⟩, ⟨.int .i64 16, .agg #[], 1⟩, ⟨.int .i64 32, .agg #[], 2⟩, ⟨.int .i64 64, .agg #[], 3⟩]

theorem aligns_any (w : World) : Calls Try.prog 19 #[] w fun e w' =>
    e = .returned (.map (some w.heap.size)) ∧ w' = w.alloc (.map alignsMap.toArray 4) := by
  have hmm := @run_makeMap Try.prog
  have h1 := run_insert_new (P := Try.prog) 38 3 36 .i64 Try.underlying38 Try.underlying3 w [] 0 8 (.agg #[]) rfl
  have h2 := run_insert_new (P := Try.prog) 38 3 36 .i64 Try.underlying38 Try.underlying3 w [⟨.int .i64 8, .agg #[], 0⟩] 1 16 (.agg #[]) rfl
  have h3 := run_insert_new (P := Try.prog) 38 3 36 .i64 Try.underlying38 Try.underlying3 w [⟨.int .i64 8, .agg #[], 0⟩, ⟨.int .i64 16, .agg #[], 1⟩] 2 32 (.agg #[]) rfl
  have h4 := run_insert_new (P := Try.prog) 38 3 36 .i64 Try.underlying38 Try.underlying3 w [⟨.int .i64 8, .agg #[], 0⟩, ⟨.int .i64 16, .agg #[], 1⟩, ⟨.int .i64 32, .agg #[], 2⟩] 3 64 (.agg #[]) rfl
  simp only [List.nil_append, List.cons_append, Nat.zero_add] at h1 h2 h3 h4
  go_enter Try.func19, Try.ntmps19
  go_wp2
  go_ret
  exact ⟨rfl, rfl⟩

theorem zero36 (w : World) : (zeroValue 36).run Try.prog w = .ok (.agg #[]) w := by kernel_rfl

theorem lookup_aligns {w : World} {r : Nat} (n : Int) (hb : w.heap[r]? = some (.map alignsMap.toArray 4)) :
    (Instr.lookup 38 (.map (some r)) (.int .i64 n) true).run Try.prog w = .ok (.tuple #[.agg #[], .bool (alignB n)]) w := by
  refine run_lookup_nothing 38 3 36 .i64 Try.underlying38 Try.underlying3 zero36 hb n _ ?_
  unfold alignB alignsMap
  simp only [Instr.findNow, Instr.sameNow, if_true]
  cases h1 : n == 8 <;> cases h2 : n == 16 <;> cases h3 : n == 32 <;> cases h4 : n == 64 <;> simp

theorem hat1 (w : World) (A M : Obj) : ((w.alloc A).alloc M).drew.heap[w.heap.size + 1]? = some M := by
  have h := heap_alloc_at (w.alloc A) M
  rw [World.size_alloc] at h
  exact h
theorem hat2 (w : World) (A B M : Obj) : (((w.alloc A).alloc B).alloc M).drew.heap[w.heap.size + 2]? = some M := by
  have h := heap_alloc_at ((w.alloc A).alloc B) M
  rw [World.size_alloc, World.size_alloc] at h
  exact h
theorem hat3 (w : World) (A M B : Obj) : (((w.alloc A).alloc M).alloc B).drew.heap[w.heap.size + 1]? = some M :=
  (Below.heap_alloc ((w.alloc A).alloc M) B _ (by rw [World.size_alloc, World.size_alloc]; omega)).trans (hat1 w A M)

theorem check_any (s a f : Int) (w : World) : Calls Try.prog 9 #[.agg #[.int .i64 s, .int .i64 a, .int .i64 f]] w fun e w' =>
    e = .returned (.int .i64 (errOf s a f)) ∧ Below w.heap.size w w' := by
  go_enter Try.func9, Try.ntmps9
  go_wp2
  go_region_held3 (fun w' => w'.cell? ⟨w.heap.size, 0, none⟩ = some (.int .i64 s) ∧ w'.cell? ⟨w.heap.size, 1, none⟩ = some (.int .i64 a) ∧ w'.cell? ⟨w.heap.size, 2, none⟩ = some (.int .i64 f)) (simp [go_sem, World.cell?_alloc_past])
    (first | (go_at_call 19; refine (aligns_any _).mono ?_; rintro e w' ⟨rfl, rfl⟩) | (rw [lookup_aligns a (by first | exact hat1 _ _ _ | exact hat2 _ _ _ _ | exact hat3 _ _ _ _)]))
  all_goals go_wp2
  all_goals
    go_ret
    refine ⟨ret_int ?_, by go_grown⟩
    first
    | exact errOf_align (by assumption)
    | exact errOf_out (by omega)
    | exact errOf_yes (by assumption) (by omega) (by omega) (by omega) (by omega)

end Go.Proofs.Ytmmfghialjmgmaa
