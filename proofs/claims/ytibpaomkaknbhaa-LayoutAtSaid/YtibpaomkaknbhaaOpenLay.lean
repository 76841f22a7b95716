/-
  A layout as an argument.
-/
import Derived.Test.YtibpaomkaknbhaaOpenAgg
import Derived.Test.YtibpaomkaknbhaaPlainB
import Derived.Test.YtibpaomkaknbhaaFrame
import Derived.Test.YtibpaomkaknbhaaWalkA
namespace Go.Proofs.Ytibpaomkaknbhaa
open Go.ChangeShapes Go.WideShapes Go.RowKit Go.Joins Go.Deep

theorem Try.cells23 : Try.prog.cellsOf 23 = 7 := by kernel_rfl
section
variable {H : Type} {enc : TypeId × Value → H} {w : World}
theorem open_lay {b0 : Nat} {v : Value} {d : DataW H} {p : List MemPlace} (hv : Value.okWide Try.prog w .any b0 23 v) (h : DataW.Trod enc Try.prog w 0 (fun _ => true) true 23 v d p) :
    ∃ l : Lay, v = .agg #[.int .i64 l.sz, .int .i64 l.al, .int .i64 l.st, .int .i64 l.off, .int .i64 l.ord, .int .i64 l.obj, .int .i64 l.was] := by
  obtain ⟨cs, ys, n, rfl, hsz, -, -, -, hg⟩ := open_agg_any Try.underlying23 (by kernel_rfl) Try.cells23 hv h
  obtain ⟨x0, y0, e0, -, t0⟩ := hg 0 _ rfl
  obtain ⟨x1, y1, e1, -, t1⟩ := hg 1 _ rfl
  obtain ⟨x2, y2, e2, -, t2⟩ := hg 2 _ rfl
  obtain ⟨x3, y3, e3, -, t3⟩ := hg 3 _ rfl
  obtain ⟨x4, y4, e4, -, t4⟩ := hg 4 _ rfl
  obtain ⟨x5, y5, e5, -, t5⟩ := hg 5 _ rfl
  obtain ⟨x6, y6, e6, -, t6⟩ := hg 6 _ rfl
  obtain ⟨m0, rfl, -, -⟩ := trod_int_val Try.underlying3 t0
  obtain ⟨m1, rfl, -, -⟩ := trod_int_val Try.underlying3 t1
  obtain ⟨m2, rfl, -, -⟩ := trod_int_val Try.underlying3 t2
  obtain ⟨m3, rfl, -, -⟩ := trod_int_val Try.underlying3 t3
  obtain ⟨m4, rfl, -, -⟩ := trod_int_val Try.underlying3 t4
  obtain ⟨m5, rfl, -, -⟩ := trod_int_val Try.underlying3 t5
  obtain ⟨m6, rfl, -, -⟩ := trod_int_val Try.underlying3 t6
  refine ⟨⟨m0, m1, m2, m3, m4, m5, m6⟩, ?_⟩
  congr 1
  apply Array.ext_getElem?
  intro i
  have hs7 : cs.size = 7 := hsz
  rcases Nat.lt_or_ge i 7 with hi | hi
  · obtain rfl | rfl | rfl | rfl | rfl | rfl | rfl : i = 0 ∨ i = 1 ∨ i = 2 ∨ i = 3 ∨ i = 4 ∨ i = 5 ∨ i = 6 := by omega
    · exact e0
    · exact e1
    · exact e2
    · exact e3
    · exact e4
    · exact e5
    · exact e6
  · rw [Array.getElem?_eq_none (by omega), Array.getElem?_eq_none (by simp; omega)]
end

end Go.Proofs.Ytibpaomkaknbhaa
