/-
  A slice of structs whose fields are all numbers, as an argument: a number for each record and field.
-/
import Derived.Test.YtodaknidbdicdaaSliceFields
import Derived.Test.YtodaknidbdicdaaFrame
import Derived.Test.YtodaknidbdicdaaWorlds
import Derived.DataShut
namespace Go.Proofs.Ytodaknidbdicdaa
open Go.ChangeShapes Go.WideShapes Go.RowKit Go.Joins Go.Deep

/-- Record i has the number F i j in field j, of kind ks[j]; m fields each. -/
def Recs (w : World) (A : Option Addr) (n m : Nat) (ks : List IntKind) (F : Nat → Nat → Int) : Prop :=
  0 < n → ∃ b off, A = some ⟨b, off, none⟩ ∧ b < w.heap.size ∧ ∀ i, i < n → ∀ j, j < m → w.cell? ⟨b, off + i * m + j, none⟩ = some (.int (ks.getD j .i64) (F i j)) ∧ (Lit.int (ks.getD j .i64) (F i j)).wf = true

section
variable {w w' : World} {A : Option Addr} {n m : Nat} {ks : List IntKind} {F : Nat → Nat → Int}
theorem Recs.keep (h : Recs w A n m ks F) (hz : w.heap.size ≤ w'.heap.size) (hk : ∀ b o, b < w.heap.size → w'.cell? ⟨b, o, none⟩ = w.cell? ⟨b, o, none⟩) : Recs w' A n m ks F := fun hp => by
  obtain ⟨b, off, e, hb, hc⟩ := h hp
  exact ⟨b, off, e, by omega, fun i hi j hj => ⟨(hk _ _ hb).trans (hc i hi j hj).1, (hc i hi j hj).2⟩⟩
theorem Recs.below (h : Recs w A n m ks F) (hb : Below w.heap.size w w') : Recs w' A n m ks F := h.keep hb.size fun _ _ hl => hb.cell hl
theorem Recs.alloc (h : Recs w A n m ks F) (o : Obj) : Recs (w.alloc o) A n m ks F := h.keep (by simp) fun b off hl => World.cell?_alloc_lt w o ⟨b, off, none⟩ hl
theorem Recs.less {k : Nat} (h : Recs w A n m ks F) (hk : k ≤ n) : Recs w A k m ks F := fun hp => by
  obtain ⟨b, off, e, hb, hc⟩ := h (by omega)
  exact ⟨b, off, e, hb, fun i hi => hc i (by omega)⟩
end

theorem fun_of {P : Nat → Nat → Int → Prop} {n m : Nat} (h : ∀ i, i < n → ∀ j, j < m → ∃ x, P i j x) : ∃ F : Nat → Nat → Int, ∀ i, i < n → ∀ j, j < m → P i j (F i j) := by
  classical
  refine ⟨fun i j => if hi : i < n then if hj : j < m then Classical.choose (h i hi j hj) else 0 else 0, fun i hi j hj => ?_⟩
  simp only [hi, hj, dif_pos]
  exact Classical.choose_spec (h i hi j hj)

section
variable {H : Type} {enc : TypeId × Value → H} {P : Program} {w : World}
theorem open_recs {b0 : Nat} {t e : TypeId} {fs : Array Field} {v : Value} {d : DataW H} {p : List MemPlace} (ks : List IntKind) (ht : P.underlying t = some (.slice e)) (he : P.underlying e = some (.struct fs))
    (hone : oneCellFields P fs = true) (hC : P.cellsOf e = fs.size) (hm : 0 < fs.size) (hk : (fs.toList.map fun f => P.underlying f.type) = ks.map fun k => some (.int k))
    (hv : Value.okWide P w .any b0 t v) (h : DataW.Trod enc P w 0 (fun _ => true) true t v d p) :
    ∃ (n : Nat) (A : Option Addr) (c : Nat) (F : Nat → Nat → Int), v = .slice A n c ∧ Recs w A n fs.size ks F ∧ n ≤ maxLen ∧ (d = .nil ∧ n = 0 ∨ ∃ el sp, d = .slice el sp ∧ n ≤ el.length + sp.length) ∧ n ≤ c := by
  obtain ⟨A, len, cap, rfl⟩ := okWide_slice ht hv
  obtain ⟨fuel, hf⟩ := h
  rcases open_slice_fields ht he hone hC hf with ⟨hcs, hx⟩ | ⟨a, len', cap', m, D, Pl, hcs, _, hl, hmx, hmm, hx, hi⟩
  · simp only [Value.cells, List.cons.injEq, Value.slice.injEq, and_true] at hcs
    obtain ⟨rfl, rfl, rfl⟩ := hcs
    simp only [Prod.mk.injEq] at hx
    exact ⟨0, none, 0, fun _ _ => 0, rfl, fun hp => absurd hp (Nat.lt_irrefl 0), Nat.zero_le _, .inl ⟨hx.1, rfl⟩, Nat.le_refl _⟩
  · simp only [if_true] at hmm
    simp only [Value.cells, List.cons.injEq, Value.slice.injEq, and_true] at hcs
    obtain ⟨rfl, rfl, rfl⟩ := hcs
    simp only [Prod.mk.injEq] at hx
    obtain ⟨rfl, rfl⟩ := hx
    have hel : ∀ i, i < len → ∀ j, j < fs.size → ∃ x : Int, w.cell? (a.add (i * fs.size + j)) = some (.int (ks.getD j .i64) x) ∧ (Lit.int (ks.getD j .i64) x).wf = true := by
      intro i hil j hj
      obtain ⟨ys, n, _, _, _, hf⟩ := hi i (by omega)
      obtain ⟨v, y, k, _, tt⟩ := hf j fs[j] (Array.getElem?_eq_getElem hj)
      have hkj : P.underlying (fs[j]).type = some (.int (ks.getD j .i64)) := by
        have h2 := congrArg (fun l => l[j]?) hk
        simp only [List.getElem?_map, Array.getElem?_toList, Array.getElem?_eq_getElem hj, Option.map_some] at h2
        cases hks : ks[j]? with
        | none => rw [hks] at h2; cases h2
        | some k' =>
          rw [hks] at h2
          simp only [Option.map_some, Option.some.injEq] at h2
          rw [List.getD_eq_getElem?_getD, hks]
          exact h2
      obtain ⟨x, ex, -, hw⟩ := DataW.trod_int hkj tt
      simp only [List.cons.injEq, and_true] at ex
      subst ex
      exact ⟨x, k, hw⟩
    obtain ⟨F, hF⟩ := fun_of hel
    refine ⟨len, some a, cap, F, rfl, fun hpos => ?_, by omega, .inr ⟨_, _, rfl, by simp⟩, hl⟩
    have h0 := (hF 0 hpos 0 hm).1
    have hsp : a.spot = none := by
      have e0 : a.add (0 * fs.size + 0) = a := by rw [Nat.zero_mul]; rfl
      rw [e0] at h0
      unfold World.cell? at h0
      split at h0
      · split at h0
        · cases h0
        · rename_i hs; simpa using hs
      · cases h0
    obtain ⟨b, off, spot⟩ := a
    simp only at hsp
    subst hsp
    have hadd : ∀ j, (⟨b, off, none⟩ : Addr).add j = ⟨b, off + j, none⟩ := by
      intro j
      unfold Addr.add
      by_cases hj : j = 0
      · subst hj; rfl
      · rw [if_neg hj]
    rw [hadd] at h0
    refine ⟨b, off, rfl, World.block_lt_of_cell? w _ h0, fun i hi' j hj => ?_⟩
    have := hF i hi' j hj
    rw [hadd, ← Nat.add_assoc] at this
    exact this
end

end Go.Proofs.Ytodaknidbdicdaa
