/-
  A map of integers to nothing that a function lays out of constants: what it holds, and what a look-up in it answers.
-/
import Derived.WalkKit
import Derived.MapKept
namespace Go.Proofs.Ytmmfghialjmgmaa
open Go.RowKit

theorem heap_alloc_at (w : World) (o : Obj) : (w.alloc o).heap[w.heap.size]? = some o := (MapKept.heap_alloc w o).1

theorem setObj_alloc (w : World) (o o' : Obj) : ({ w.alloc o with heap := (w.alloc o).heap.setIfInBounds w.heap.size o' } : World) = w.alloc o' := by
  show ({ w with heap := (w.heap.push o).setIfInBounds w.heap.size o' } : World) = { w with heap := w.heap.push o' }
  congr 1
  apply Array.ext_getElem?
  intro i
  rw [Array.getElem?_setIfInBounds, Array.getElem?_push, Array.getElem?_push]
  by_cases hi : w.heap.size = i
  · subst hi; simp
  · rw [if_neg hi, if_neg (fun h => hi h.symm), if_neg (fun h => hi h.symm)]

theorem run_insert_new {P : Program} (mty kt et : TypeId) (q : IntKind) (hm : P.underlying mty = some (.map kt et)) (hk : P.underlying kt = some (.int q)) (w : World) (es : List MapEntry) (clock : Nat) (n : Int) (val : Value)
    (hf : Instr.findNow (.int q) (.int q n) es 0 = some none) :
    (Instr.mapUpdate mty (.map (some w.heap.size)) (.int q n) val).run P (w.alloc (.map es.toArray clock)) = .ok () (w.alloc (.map (es ++ [({ key := .int q n, val := val, born := clock } : MapEntry)]).toArray (clock + 1))) := by
  have hb := heap_alloc_at w (.map es.toArray clock)
  have hc : (Instr.checkKey false 10000 kt (.int q n)).run P (w.alloc (.map es.toArray clock)) = .ok () _ := MapKept.run_checkKey (k := .int q n) hk (by simp [MapKept.IsKey]) false 9999
  simp [Instr.mapUpdate, run_underlying hm, MapKept.run_getObj_map hb, hc, MapKept.run_findKey hk hf, MapKept.run_setObj_map _ hb, Result.andThen]
  exact setObj_alloc _ _ _

/-- What a look-up with 'ok' answers in a map whose elements are nothing. -/
theorem run_lookup_nothing {P : Program} (mty kt et : TypeId) (q : IntKind) (hm : P.underlying mty = some (.map kt et)) (hk : P.underlying kt = some (.int q)) (hz : ∀ w, (zeroValue et).run P w = .ok (.agg #[]) w) {w : World} {r : Nat} {es : Array MapEntry} {clock : Nat}
    (hb : w.heap[r]? = some (.map es clock)) (n : Int) (b : Bool)
    (hf : ∃ a, Instr.findNow (.int q) (.int q n) es.toList 0 = some a ∧ ((b = false ∧ a = none) ∨ (b = true ∧ ∃ i, a = some (i, .agg #[])))) :
    (Instr.lookup mty (.map (some r)) (.int q n) true).run P w = .ok (.tuple #[.agg #[], .bool b]) w := by
  have hc : (Instr.checkKey es.isEmpty 10000 kt (.int q n)).run P w = .ok () w := MapKept.run_checkKey (k := .int q n) hk (by simp [MapKept.IsKey]) _ 9999
  obtain ⟨a, hfa, h⟩ := hf
  rcases h with ⟨rfl, rfl⟩ | ⟨rfl, i, rfl⟩
  · simp [Instr.lookup, run_underlying hm, MapKept.run_getObj_map hb, hc, MapKept.run_findKey hk hfa, hz, Result.andThen]
  · simp [Instr.lookup, run_underlying hm, MapKept.run_getObj_map hb, hc, MapKept.run_findKey hk hfa, Result.andThen]

end Go.Proofs.Ytmmfghialjmgmaa
