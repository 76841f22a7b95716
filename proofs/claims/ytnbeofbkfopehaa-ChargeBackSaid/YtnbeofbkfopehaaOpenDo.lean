/-
  Steps as an argument.
-/
import Derived.Test.YtnbeofbkfopehaaSliceFields
import Derived.Test.YtnbeofbkfopehaaDos
import Derived.DataShut
import Derived.OpenShut
namespace Go.Proofs.Ytnbeofbkfopehaa
open Go.ChangeShapes Go.WideShapes Go.RowKit Go.Joins Go.Deep

/-- A slice of numbers, one cell of a struct. -/
theorem open_cell_row {H : Type} {enc : TypeId × Value → H} {P : Program} {w : World} {t e : TypeId} {k : IntKind} {n : Nat} {v : Value} {y : DataW H × List MemPlace} (ht : P.underlying t = some (.slice e)) (he : P.underlying e = some (.int k)) (hc : P.cellsOf e = 1)
    (h : DataW.trod enc P w 0 (fun _ => true) true n t [v] = some y) :
    ∃ (zs : List Int) (A : Option Addr) (c : Nat), v = .slice A zs.length c ∧ Row w A (zs.map fun (n : Int) => Value.int k n) ∧ zs.length ≤ maxLen := by
  rcases open_ints ht he hc h with ⟨hcs, -⟩ | ⟨a, len, cap, zs, hcs, _, hl, hm, hz, -, hcell, hwf⟩
  · simp only [List.cons.injEq, and_true] at hcs
    subst hcs
    exact ⟨[], none, 0, rfl, Row.nil _ _, Nat.zero_le _⟩
  · simp only [if_true] at hz
    simp only [List.cons.injEq, and_true] at hcs
    subst hcs
    have hlen : (zs.take len).length = len := by rw [List.length_take]; omega
    refine ⟨zs.take len, some a, cap, by rw [hlen], fun hp => ?_, by omega⟩
    rw [List.length_map, hlen] at hp
    have hs := spot_none (hcell 0 (by omega))
    have ha0 : a.add 0 = a := rfl
    rw [ha0] at hs
    obtain ⟨b, off, spot⟩ := a
    simp only at hs
    subst hs
    have h0 := hcell 0 (by omega)
    rw [addr_add] at h0
    refine ⟨b, off, rfl, World.block_lt_of_cell? w _ h0, fun j u hu => ?_⟩
    rw [List.getElem?_map] at hu
    rcases Nat.lt_or_ge j len with hj | hj
    · have hj' := hcell j (by omega)
      rw [addr_add] at hj'
      rw [hj']
      have e1 : (zs.take len)[j]? = some (zs.getD j 0) := by
        rw [List.getElem?_take_of_lt hj, List.getD_eq_getElem?_getD, List.getElem?_eq_getElem (by omega)]
        rfl
      rw [e1] at hu
      simpa using hu
    · rw [List.getElem?_eq_none (by rw [hlen]; exact hj)] at hu
      cases hu

theorem open_dos {H : Type} {enc : TypeId × Value → H} {w : World} {b0 : Nat} {v : Value} {d : DataW H} {p : List MemPlace} (hv : Value.okWide Try.prog w .any b0 22 v) (h : DataW.Trod enc Try.prog w 0 (fun _ => true) true 22 v d p) :
    ∃ (n : Nat) (A : Option Addr) (c : Nat) (D : Nat → DoR), v = .slice A n c ∧ n ≤ maxLen ∧ Dos w A n D := by
  obtain ⟨A, len, cap, rfl⟩ := okWide_slice Try.underlying22 hv
  obtain ⟨fuel, hf⟩ := h
  rcases open_slice_fields Try.underlying22 Try.underlying29 (by kernel_rfl) (by kernel_rfl) hf with ⟨hcs, hx⟩ | ⟨a, len', cap', m, _, Pl, hcs, _, hl, hmx, hm, hx, hi⟩
  · simp only [Value.cells, List.cons.injEq, Value.slice.injEq, and_true] at hcs
    obtain ⟨rfl, rfl, rfl⟩ := hcs
    exact ⟨0, none, 0, fun _ => ⟨0, 0, 0, none, [], 0⟩, rfl, Nat.zero_le _, fun hp => absurd hp (Nat.lt_irrefl 0)⟩
  · simp only [if_true] at hm
    simp only [Value.cells, List.cons.injEq, Value.slice.injEq, and_true] at hcs
    obtain ⟨rfl, rfl, rfl⟩ := hcs
    have hel : ∀ i, i < len → ∃ x : DoR, w.cell? (a.add (i * 4)) = some (.int .i64 x.k) ∧ w.cell? (a.add (i * 4 + 1)) = some (.int .i64 x.x) ∧ w.cell? (a.add (i * 4 + 2)) = some (.int .i64 x.n) ∧ w.cell? (a.add (i * 4 + 3)) = some (.slice x.pa x.pp.length x.pc) ∧
        Row w x.pa (intsV x.pp) ∧ x.pp.length ≤ maxLen := by
      intro i hil
      obtain ⟨ys, n, _, _, _, hf⟩ := hi i (by omega)
      obtain ⟨v0, y0, k0, _, t0⟩ := hf 0 _ rfl
      obtain ⟨v1, y1, k1, _, t1⟩ := hf 1 _ rfl
      obtain ⟨v2, y2, k2, _, t2⟩ := hf 2 _ rfl
      obtain ⟨v3, y3, k3, _, t3⟩ := hf 3 _ rfl
      obtain ⟨s, e0, -, -⟩ := DataW.trod_int Try.underlying3 t0
      obtain ⟨a', e1, -, -⟩ := DataW.trod_int Try.underlying3 t1
      obtain ⟨f, e2, -, -⟩ := DataW.trod_int Try.underlying3 t2
      obtain ⟨zs, A3, c3, rfl, r3, m3⟩ := open_cell_row Try.underlying27 Try.underlying3 (by kernel_rfl) t3
      simp only [List.cons.injEq, and_true] at e0 e1 e2
      subst e0 e1 e2
      exact ⟨⟨s, a', f, A3, zs, c3⟩, k0, k1, k2, k3, r3, m3⟩
    obtain ⟨l, hll, hp⟩ := list_of len hel
    subst hll
    refine ⟨l.length, some a, cap, fun i => l.getD i ⟨0, 0, 0, none, [], 0⟩, rfl, by omega, fun hpos => ?_⟩
    have h0 := (hp 0 hpos).1
    have hsp := spot_none h0
    have hz : a.add (0 * 4) = a := rfl
    rw [hz] at h0 hsp
    obtain ⟨b, off, spot⟩ := a
    simp only at hsp
    subst hsp
    refine ⟨b, off, rfl, World.block_lt_of_cell? w _ h0, fun i hi => ?_⟩
    have := hp i hi
    rw [addr_add, addr_add, addr_add, addr_add, ← Nat.add_assoc, ← Nat.add_assoc, ← Nat.add_assoc] at this
    have e : l.getD i ⟨0, 0, 0, none, [], 0⟩ = l[i] := by rw [List.getD_eq_getElem?_getD, List.getElem?_eq_getElem hi]; rfl
    show w.cell? _ = some (.int .i64 (l.getD i ⟨0, 0, 0, none, [], 0⟩).k) ∧ w.cell? _ = some (.int .i64 (l.getD i ⟨0, 0, 0, none, [], 0⟩).x) ∧ w.cell? _ = some (.int .i64 (l.getD i ⟨0, 0, 0, none, [], 0⟩).n) ∧ w.cell? _ = some (.slice (l.getD i ⟨0, 0, 0, none, [], 0⟩).pa (l.getD i ⟨0, 0, 0, none, [], 0⟩).pp.length (l.getD i ⟨0, 0, 0, none, [], 0⟩).pc) ∧ Row w (l.getD i ⟨0, 0, 0, none, [], 0⟩).pa (intsV (l.getD i ⟨0, 0, 0, none, [], 0⟩).pp) ∧ (l.getD i ⟨0, 0, 0, none, [], 0⟩).pp.length ≤ maxLen
    rw [e]
    exact this

end Go.Proofs.Ytnbeofbkfopehaa
