/-
  Words as an argument.
-/
import Derived.Test.YtklhlhfplkmpmaaOpenRow
import Derived.Test.YtklhlhfplkmpmaaWalkC
import Derived.DataShut
import Derived.OpenShut
namespace Go.Proofs.Ytklhlhfplkmpmaa
open Go.ChangeShapes Go.WideShapes Go.RowKit

theorem Try.bytes22 : Try.prog.bytesOf 22 = 8 := by kernel_rfl
section
variable {H : Type} {enc : TypeId × Value → H} {w : World}
theorem open_words {b0 : Nat} {v : Value} {d : DataW H} {p : List MemPlace} (hv : Value.okWide Try.prog w .any b0 26 v) (h : DataW.Trod enc Try.prog w 0 (fun _ => true) true 26 v d p) :
    ∃ (ws : List Nat) (A : Option Addr) (c : Nat), v = .slice A ws.length c ∧ Row w A (wordV ws) ∧ (∀ x ∈ ws, x < 18446744073709551616) ∧ ws.length ≤ maxLen ∧ (d = .nil ∧ ws = [] ∨ ∃ el sp, d = .slice el sp ∧ ws.length ≤ el.length + sp.length) ∧ ws.length ≤ c := by
  obtain ⟨zs, A, c, rfl, hr, hwf, hm, hd, hcap⟩ := open_row Try.underlying26 Try.underlying22 (by kernel_rfl) hv h
  have e : zs = (zs.map Int.toNat).map fun (n : Nat) => (n : Int) := by
    rw [List.map_map]
    conv => lhs; rw [← List.map_id zs]
    apply List.map_congr_left
    intro x hx
    have := ((Lit.wf_int_iff _ _).1 (hwf x hx)).1
    have h0 : 0 ≤ x := this
    show x = ((x.toNat : Nat) : Int)
    omega
  refine ⟨zs.map Int.toNat, A, c, by rw [List.length_map], ?_, ?_, by rw [List.length_map]; exact hm, ?_, by rw [List.length_map]; exact hcap⟩
  · rw [e, List.map_map] at hr
    exact hr
  · intro x hx
    obtain ⟨y, hy, rfl⟩ := List.mem_map.1 hx
    have h1 := (Lit.wf_int_iff _ _).1 (hwf y hy)
    have h0 : 0 ≤ y := h1.1
    have h2 : y ≤ 18446744073709551615 := h1.2
    omega
  · rcases hd with ⟨h1, h2⟩ | ⟨el, sp, h1, h2⟩
    · exact Or.inl ⟨h1, by rw [h2]; rfl⟩
    · exact Or.inr ⟨el, sp, h1, by rw [List.length_map]; exact h2⟩

theorem Try.cells41 : Try.prog.cellsOf 41 = 2 := by kernel_rfl
theorem Try.cells3 : Try.prog.cellsOf 3 = 1 := by kernel_rfl
theorem open_two {b0 : Nat} {v : Value} {d : DataW H} {p : List MemPlace} (hv : Value.okWide Try.prog w .any b0 41 v) (h : DataW.Trod enc Try.prog w 0 (fun _ => true) true 41 v d p) :
    ∃ a b : Int, v = .agg #[.int .i64 a, .int .i64 b] := by
  simp only [Value.okWide, Try.underlying41] at hv
  obtain ⟨cs, rfl, hsz, -⟩ := hv
  rw [Try.cells41] at hsz
  obtain ⟨fuel, hf⟩ := h
  obtain ⟨xs, n, -, -, -, hxl, hg⟩ := DataW.trod_array Try.underlying41 hf
  have h0 := hg 0 (by omega)
  have h1 := hg 1 (by omega)
  rw [Try.cells3] at h0 h1
  obtain ⟨c0, c1, hc⟩ : ∃ c0 c1, cs = #[c0, c1] := by
    refine ⟨cs[0], cs[1], ?_⟩
    apply Array.ext
    · simpa using hsz
    · intro i hi hi'
      have : i = 0 ∨ i = 1 := by simp at hi'; omega
      rcases this with rfl | rfl <;> rfl
  subst hc
  have e0 : DataW.trod enc Try.prog w 0 (fun _ => true) true n 3 [c0] = xs[0]? := h0
  have e1 : DataW.trod enc Try.prog w 0 (fun _ => true) true n 3 [c1] = xs[1]? := h1
  rw [List.getElem?_eq_getElem (by omega)] at e0 e1
  obtain ⟨a, h2, -, -⟩ := DataW.trod_int Try.underlying3 e0
  obtain ⟨b, h3, -, -⟩ := DataW.trod_int Try.underlying3 e1
  simp only [List.cons.injEq, and_true] at h2 h3
  exact ⟨a, b, by rw [h2, h3]⟩
end

end Go.Proofs.Ytklhlhfplkmpmaa
