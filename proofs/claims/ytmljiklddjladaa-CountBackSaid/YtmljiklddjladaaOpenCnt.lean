/-
  Counts as an argument.
-/
import Derived.Test.YtmljiklddjladaaOpenAgg
import Derived.Test.YtmljiklddjladaaPlain
import Derived.Test.YtmljiklddjladaaFrame
import Derived.Test.YtmljiklddjladaaRows
import Derived.DataShut
namespace Go.Proofs.Ytmljiklddjladaa
open Go.ChangeShapes Go.WideShapes Go.RowKit Go.Joins Go.Deep

theorem Try.cells23 : Try.prog.cellsOf 23 = 4 := by kernel_rfl
section
variable {H : Type} {enc : TypeId × Value → H} {w : World}
theorem trod_bool_val {P : Program} {base : Nat} {spare : Nat → Bool} {held : Bool} {t : TypeId} {n : Nat} {x : Value} {y : DataW H × List MemPlace} (ht : P.underlying t = some .bool) (h : DataW.trod enc P w base spare held n t [x] = some y) :
    ∃ b, x = .bool b := by
  obtain ⟨b, e, -⟩ := DataW.trod_bool ht h
  simp only [List.cons.injEq, and_true] at e
  exact ⟨b, e⟩
theorem open_cnt {b0 : Nat} {v : Value} {d : DataW H} {p : List MemPlace} (hv : Value.okWide Try.prog w .any b0 23 v) (h : DataW.Trod enc Try.prog w 0 (fun _ => true) true 23 v d p) :
    ∃ c : Cnt, v = .agg #[.int .i64 c.i, .int .i64 c.o, .bool c.f, .bool c.l] := by
  obtain ⟨cs, ys, n, rfl, hsz, -, -, -, hg⟩ := open_agg_any Try.underlying23 (by kernel_rfl) Try.cells23 hv h
  obtain ⟨x0, y0, e0, -, t0⟩ := hg 0 _ rfl
  obtain ⟨x1, y1, e1, -, t1⟩ := hg 1 _ rfl
  obtain ⟨x2, y2, e2, -, t2⟩ := hg 2 _ rfl
  obtain ⟨x3, y3, e3, -, t3⟩ := hg 3 _ rfl
  obtain ⟨m0, rfl, -, -⟩ := trod_int_val Try.underlying3 t0
  obtain ⟨m1, rfl, -, -⟩ := trod_int_val Try.underlying3 t1
  obtain ⟨m2, rfl⟩ := trod_bool_val Try.underlying4 t2
  obtain ⟨m3, rfl⟩ := trod_bool_val Try.underlying4 t3
  refine ⟨⟨m0, m1, m2, m3⟩, ?_⟩
  congr 1
  apply Array.ext_getElem?
  intro i
  have hs4 : cs.size = 4 := hsz
  rcases Nat.lt_or_ge i 4 with hi | hi
  · obtain rfl | rfl | rfl | rfl : i = 0 ∨ i = 1 ∨ i = 2 ∨ i = 3 := by omega
    · exact e0
    · exact e1
    · exact e2
    · exact e3
  · rw [Array.getElem?_eq_none (by omega), Array.getElem?_eq_none (by simp; omega)]
end

end Go.Proofs.Ytmljiklddjladaa
