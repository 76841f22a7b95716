/-
  A spec, and a slice of specs, as arguments.
-/
import Derived.Test.YtmmfghialjmgmaaFrame
import Derived.Test.YtmmfghialjmgmaaSliceFields
import Derived.Test.YtmmfghialjmgmaaLawF
namespace Go.Proofs.Ytmmfghialjmgmaa
open Go.ChangeShapes Go.WideShapes Go.RowKit Go.Joins Go.Deep

theorem Try.bytes23 : Try.prog.bytesOf 23 = 24 := by kernel_rfl
theorem Try.cells23 : Try.prog.cellsOf 23 = 3 := by kernel_rfl
section
variable {H : Type} {enc : TypeId × Value → H} {w : World}
theorem open_spec {b0 : Nat} {v : Value} {d : DataW H} {p : List MemPlace} (hv : Value.okWide Try.prog w .any b0 23 v) (h : DataW.Trod enc Try.prog w 0 (fun _ => true) true 23 v d p) :
    ∃ s a f : Int, v = .agg #[.int .i64 s, .int .i64 a, .int .i64 f] := by
  obtain ⟨v0, v1, v2, y0, y1, y2, n, rfl, -, -, h0, h1, h2⟩ := open_agg3 Try.underlying23 (by kernel_rfl) Try.cells23 hv h
  obtain ⟨s, e0, -, -⟩ := DataW.trod_int Try.underlying3 h0
  obtain ⟨a, e1, -, -⟩ := DataW.trod_int Try.underlying3 h1
  obtain ⟨f, e2, -, -⟩ := DataW.trod_int Try.underlying3 h2
  simp only [List.cons.injEq, and_true] at e0 e1 e2
  exact ⟨s, a, f, by rw [e0, e1, e2]⟩

theorem open_specs {b0 : Nat} {v : Value} {d : DataW H} {p : List MemPlace} (hv : Value.okWide Try.prog w .any b0 29 v) (h : DataW.Trod enc Try.prog w 0 (fun _ => true) true 29 v d p)
    (hlt : ∀ x ∈ p, x.block < w.heap.size) :
    ∃ (l : List Sp) (A : Option Addr) (c : Nat), v = .slice A l.length c ∧ SpX w A l ∧ (d = .nil ∧ l = [] ∨ ∃ el sp, d = .slice el sp ∧ l.length ≤ el.length + sp.length) := by
  obtain ⟨A, len, cap, rfl⟩ := okWide_slice Try.underlying29 hv
  obtain ⟨fuel, hf⟩ := h
  rcases open_slice_fields Try.underlying29 Try.underlying23 (by kernel_rfl) (by kernel_rfl) hf with ⟨hcs, hx⟩ | ⟨a, len', cap', m, D, Pl, hcs, _, hl, _, hm, hx, hi⟩
  · simp only [Value.cells, List.cons.injEq, Value.slice.injEq, and_true] at hcs
    obtain ⟨rfl, rfl, rfl⟩ := hcs
    simp only [Prod.mk.injEq] at hx
    exact ⟨[], none, 0, rfl, fun hp => absurd hp (Nat.lt_irrefl 0), .inl ⟨hx.1, rfl⟩⟩
  · simp only [if_true] at hm
    simp only [Value.cells, List.cons.injEq, Value.slice.injEq, and_true] at hcs
    obtain ⟨rfl, rfl, rfl⟩ := hcs
    simp only [Prod.mk.injEq] at hx
    obtain ⟨rfl, rfl⟩ := hx
    have hel : ∀ i, i < len → ∃ x : Sp, w.cell? (a.add (i * 3)) = some (.int .i64 x.s) ∧ w.cell? (a.add (i * 3 + 1)) = some (.int .i64 x.a) ∧ w.cell? (a.add (i * 3 + 2)) = some (.int .i64 x.f) := by
      intro i hil
      obtain ⟨ys, n, _, _, _, hf⟩ := hi i (by omega)
      obtain ⟨v0, y0, k0, _, t0⟩ := hf 0 _ rfl
      obtain ⟨v1, y1, k1, _, t1⟩ := hf 1 _ rfl
      obtain ⟨v2, y2, k2, _, t2⟩ := hf 2 _ rfl
      obtain ⟨s, e0, -, -⟩ := DataW.trod_int Try.underlying3 t0
      obtain ⟨a', e1, -, -⟩ := DataW.trod_int Try.underlying3 t1
      obtain ⟨f, e2, -, -⟩ := DataW.trod_int Try.underlying3 t2
      simp only [List.cons.injEq, and_true] at e0 e1 e2
      subst e0 e1 e2
      exact ⟨⟨s, a', f⟩, k0, k1, k2⟩
    obtain ⟨l, hll, hp⟩ := list_of len hel
    subst hll
    refine ⟨l, some a, cap, rfl, fun hpos => ?_, .inr ⟨_, _, rfl, by simp⟩⟩
    have h0 := (hp 0 hpos).1
    have hz : a.add (0 * 3) = a := rfl
    rw [hz] at h0
    have hsp : a.spot = none := by
      unfold World.cell? at h0
      split at h0
      · split at h0
        · cases h0
        · rename_i hs; simpa using hs
      · cases h0
    obtain ⟨b, off, spot⟩ := a
    simp only at hsp
    subst hsp
    have hadd : ∀ j, (⟨b, off, none⟩ : Addr).add j = ⟨b, off + j, none⟩ := by
      intro j
      unfold Addr.add
      by_cases hj : j = 0
      · subst hj; rfl
      · rw [if_neg hj]
    refine ⟨b, off, rfl, World.block_lt_of_cell? w _ h0, fun i hi => ?_⟩
    have := hp i hi
    rw [hadd, hadd, hadd, ← Nat.add_assoc, ← Nat.add_assoc] at this
    exact this
end

end Go.Proofs.Ytmmfghialjmgmaa
