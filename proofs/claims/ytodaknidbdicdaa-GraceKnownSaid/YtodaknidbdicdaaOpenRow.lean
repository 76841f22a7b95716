/-
  A slice of numbers as an argument; a row as what an append reads.
-/
import Derived.ProofKit
import Derived.ChangeSlices
import Derived.Test.YtodaknidbdicdaaFrame
import Derived.Test.YtodaknidbdicdaaRow
import Derived.Test.YtodaknidbdicdaaReads
namespace Go.Proofs.Ytodaknidbdicdaa
open Go.ChangeShapes Go.WideShapes Go.RowKit

section
variable {H : Type} {enc : TypeId × Value → H} {P : Program} {w : World}
theorem open_row {b0 : Nat} {t e : TypeId} {k : IntKind} {v : Value} {d : DataW H} {p : List MemPlace} (ht : P.underlying t = some (.slice e)) (he : P.underlying e = some (.int k)) (hc : P.cellsOf e = 1)
    (hv : Value.okWide P w .any b0 t v) (h : DataW.Trod enc P w 0 (fun _ => true) true t v d p) :
    ∃ (zs : List Int) (A : Option Addr) (c : Nat), v = .slice A zs.length c ∧ Row w A (zs.map fun (n : Int) => Value.int k n) ∧ (∀ n ∈ zs, (Lit.int k n).wf = true) ∧ zs.length ≤ maxLen ∧
      (d = .nil ∧ zs = [] ∨ ∃ el sp, d = .slice el sp ∧ zs.length ≤ el.length + sp.length) ∧ zs.length ≤ c := by
  obtain ⟨A, len, cap, rfl⟩ := okWide_slice ht hv
  obtain ⟨fuel, hf⟩ := h
  rcases open_ints ht he hc hf with ⟨hcs, hx⟩ | ⟨a, len', cap', zs, hcs, _, hl, hm, hz, hx, hcell, hwf⟩
  · simp only [Value.cells, List.cons.injEq, Value.slice.injEq, and_true] at hcs
    obtain ⟨rfl, rfl, rfl⟩ := hcs
    simp only [Prod.mk.injEq] at hx
    exact ⟨[], none, 0, rfl, Row.nil _ _, fun n hn => (by cases hn), Nat.zero_le _, .inl ⟨hx.1, rfl⟩, Nat.le_refl _⟩
  · simp only [if_true] at hz
    simp only [Value.cells, List.cons.injEq, Value.slice.injEq, and_true] at hcs
    obtain ⟨rfl, rfl, rfl⟩ := hcs
    simp only [Prod.mk.injEq] at hx
    obtain ⟨rfl, rfl⟩ := hx
    have hlen : (zs.take len).length = len := by rw [List.length_take]; omega
    refine ⟨zs.take len, some a, cap, by rw [hlen], fun hp => ?_, fun n hn => hwf n (List.mem_of_mem_take hn), by omega, .inr ⟨_, _, rfl, by simp [lits]⟩, by omega⟩
    rw [List.length_map, hlen] at hp
    have hs := spot_none (hcell 0 (by omega))
    have ha0 : a.add 0 = a := rfl
    rw [ha0] at hs
    obtain ⟨b, off, spot⟩ := a
    simp only at hs
    subst hs
    have h0 := hcell 0 (by omega)
    rw [addr_add] at h0
    refine ⟨b, off, rfl, World.block_lt_of_cell? w _ h0, fun j u hu => ?_⟩
    rw [List.getElem?_map] at hu
    rcases Nat.lt_or_ge j len with hj | hj
    · have hj' := hcell j (by omega)
      rw [addr_add] at hj'
      rw [hj']
      have e1 : (zs.take len)[j]? = some (zs.getD j 0) := by
        rw [List.getElem?_take_of_lt hj, List.getD_eq_getElem?_getD, List.getElem?_eq_getElem (by omega)]
        rfl
      rw [e1] at hu
      simpa using hu
    · rw [List.getElem?_eq_none (by rw [hlen]; exact hj)] at hu
      cases hu
end

theorem Row.reads {w : World} {A : Option Addr} {xs : List Value} {n : Nat} (h : Row w A xs) (hn : xs.length = n) : Reads w w.heap.size 1 A n xs :=
  ⟨by omega, fun hp => by
    obtain ⟨b, off, e, hb, hc⟩ := h (by omega)
    exact ⟨_, e, hb, fun j u hu => by rw [addr_add]; exact hc j u hu⟩⟩

end Go.Proofs.Ytodaknidbdicdaa
