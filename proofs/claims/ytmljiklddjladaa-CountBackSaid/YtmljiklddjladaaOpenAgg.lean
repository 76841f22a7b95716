/-
  A struct of any number of fields of one cell each, as an argument.
-/
import Derived.ProofKit
import Derived.Lib.SmallJoins
namespace Go.Proofs.Ytmljiklddjladaa
open Go.ChangeShapes Go.WideShapes Go.RowKit Go.Joins Go.Deep
section
variable {H : Type} {enc : TypeId × Value → H} {P : Program} {w : World} {base : Nat} {spare : Nat → Bool} {held : Bool}
theorem open_agg_any {r : Reach} {b0 : Nat} {t : TypeId} {fs : Array Field} {v : Value} {d : DataW H} {p : List MemPlace} (hs : P.underlying t = some (.struct fs)) (hone : oneCellFields P fs = true) (hC : P.cellsOf t = fs.size)
    (hv : Value.okWide P w r b0 t v) (h : DataW.Trod enc P w base spare held t v d p) :
    ∃ (cs : Array Value) (ys : List (DataW H × List MemPlace)) (n : Nat), v = .agg cs ∧ cs.size = fs.size ∧ d = .agg (ys.map (·.1)) ∧ p = ys.flatMap (·.2) ∧ ys.length = fs.size ∧
      ∀ (j : Nat) (f : Field), fs[j]? = some f → ∃ (x : Value) (y : DataW H × List MemPlace), cs[j]? = some x ∧ ys[j]? = some y ∧ DataW.trod enc P w base spare held n f.type [x] = some y := by
  obtain ⟨cs, rfl, hsz⟩ := okWide_struct hs hv
  obtain ⟨fuel, hf⟩ := h
  obtain ⟨ys, n, hn, hy, hl, hyl, hg⟩ := DataW.trod_struct hs hf
  simp only [Prod.mk.injEq] at hy
  have hsz' : cs.size = fs.size := hsz.trans hC
  refine ⟨cs, ys, n, rfl, hsz', hy.1, hy.2, hyl, fun j f hj => ?_⟩
  obtain ⟨ho, hk⟩ := hone_of hone j f hj
  have hjl : j < fs.size := (Array.getElem?_eq_some_iff.1 hj).1
  have h1 := hg j f hj
  rw [ho, hk] at h1
  have h2 : (cs.toList.drop j).take 1 = [cs[j]'(by omega)] := by
    rw [List.drop_eq_getElem_cons (by simp; omega)]
    simp
  have h3 : DataW.trod enc P w base spare held n f.type [cs[j]'(by omega)] = ys[j]? := by
    rw [← h2, ← h1]
    simp [Value.cells]
  have hys : ys[j]? = some (ys[j]'(by omega)) := List.getElem?_eq_getElem (by omega)
  exact ⟨_, _, Array.getElem?_eq_getElem (by omega), hys, h3.trans hys⟩
theorem trod_int_val {t : TypeId} {k : IntKind} {n : Nat} {x : Value} {y : DataW H × List MemPlace} (ht : P.underlying t = some (.int k)) (h : DataW.trod enc P w base spare held n t [x] = some y) :
    ∃ m, x = .int k m ∧ y = (.lit (.int k m), []) ∧ (Lit.int k m).wf = true := by
  obtain ⟨m, e, hy, hw⟩ := DataW.trod_int ht h
  simp only [List.cons.injEq, and_true] at e
  exact ⟨m, e, hy, hw⟩
end

end Go.Proofs.Ytmljiklddjladaa
