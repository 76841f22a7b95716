/-
  A row of records, and a record, as arguments.
-/
import Derived.Test.YthfnnlcfakkabaaRecs
import Derived.Test.YthfnnlcfakkabaaRowsW
import Derived.Test.YthfnnlcfakkabaaRows
import Derived.DataShut
import Derived.OpenShut
namespace Go.Proofs.Ythfnnlcfakkabaa
open Go.ChangeShapes Go.WideShapes Go.RowKit Go.Joins Go.Deep

theorem Try.cells24 : Try.prog.cellsOf 24 = 2 := by kernel_rfl
def listW (n : Nat) (F : Nat → Nat → Int) : List Wt := (List.range n).map fun i => ⟨F i 0, F i 1⟩
theorem listW_len (n : Nat) (F : Nat → Nat → Int) : (listW n F).length = n := by simp [listW]
theorem listW_at {n : Nat} {F : Nat → Nat → Int} {i : Nat} (h : i < (listW n F).length) : (listW n F)[i] = ⟨F i 0, F i 1⟩ := by simp [listW]
theorem wrow_of {w : World} {b off : Nat} {l : List Wt} (h : ∀ (i : Nat) (hi : i < l.length), w.cell? ⟨b, off + i * 2, none⟩ = some (.int .i64 l[i].id) ∧ w.cell? ⟨b, off + i * 2 + 1, none⟩ = some (.int .i64 l[i].at_)) : ∀ j u, (rowV l)[j]? = some u → w.cell? ⟨b, off + j, none⟩ = some u := by
  intro j u hu
  have hj := (List.getElem?_eq_some_iff.1 hu).1
  rw [rowV_len] at hj
  obtain ⟨i, rfl | rfl⟩ : ∃ i, j = i * 2 ∨ j = i * 2 + 1 := ⟨j / 2, by omega⟩
  · rw [rowV_id (by omega)] at hu
    rw [(h i (by omega)).1]
    exact hu
  · rw [rowV_at (by omega)] at hu
    rw [← Nat.add_assoc, (h i (by omega)).2]
    exact hu
section
variable {H : Type} {enc : TypeId × Value → H} {w : World}
theorem open_waits {b0 : Nat} {v : Value} {d : DataW H} {p : List MemPlace} (hv : Value.okWide Try.prog w .any b0 22 v) (h : DataW.Trod enc Try.prog w 0 (fun _ => true) true 22 v d p) :
    ∃ (l : List Wt) (n : Nat) (A : Option Addr) (c : Nat), v = .slice A n c ∧ l.length = n ∧ WRow w A l ∧ n ≤ 9223372036854775807 ∧ n ≤ c := by
  obtain ⟨n, A, c, F, h1, h2, h3, -, h5⟩ := open_recs [.i64, .i64] Try.underlying22 Try.underlying24 (by kernel_rfl) (by kernel_rfl) (by decide) (by kernel_rfl) hv h
  unfold maxLen at h3
  refine ⟨listW n F, n, A, c, h1, listW_len _ _, fun hp => ?_, h3, h5⟩
  rw [rowV_len, listW_len] at hp
  obtain ⟨b, off, rfl, hb, hc⟩ := h2 (by omega)
  refine ⟨b, off, rfl, hb, wrow_of fun i hi => ?_⟩
  rw [listW_at hi]
  rw [listW_len] at hi
  exact ⟨(hc i hi 0 (by decide)).1, (hc i hi 1 (by decide)).1⟩
theorem open_wait {b0 : Nat} {v : Value} {d : DataW H} {p : List MemPlace} (hv : Value.okWide Try.prog w .any b0 24 v) (h : DataW.Trod enc Try.prog w 0 (fun _ => true) true 24 v d p) :
    ∃ i a : Int, v = .agg #[.int .i64 i, .int .i64 a] := by
  obtain ⟨v0, v1, y0, y1, n, rfl, -, -, h0, h1⟩ := open_agg2 Try.underlying24 (by kernel_rfl) Try.cells24 hv h
  obtain ⟨i, e0, -, -⟩ := DataW.trod_int Try.underlying3 h0
  obtain ⟨a, e1, -, -⟩ := DataW.trod_int Try.underlying3 h1
  simp only [List.cons.injEq, and_true] at e0 e1
  exact ⟨i, a, by rw [e0, e1]⟩
end

end Go.Proofs.Ythfnnlcfakkabaa
