/-
  Words, and accesses, as arguments.
-/
import Derived.Test.YtfhbfjlbflkbhaaOpenRow
import Derived.Test.YtfhbfjlbflkbhaaRecs
import Derived.Test.YtfhbfjlbflkbhaaLawG
import Derived.DataShut
import Derived.OpenShut
namespace Go.Proofs.Ytfhbfjlbflkbhaa
open Go.ChangeShapes Go.WideShapes Go.RowKit

section
variable {H : Type} {enc : TypeId × Value → H} {w : World}
theorem open_words {b0 : Nat} {v : Value} {d : DataW H} {p : List MemPlace} (hv : Value.okWide Try.prog w .any b0 22 v) (h : DataW.Trod enc Try.prog w 0 (fun _ => true) true 22 v d p) :
    ∃ (ws : List Nat) (A : Option Addr) (c : Nat), v = .slice A ws.length c ∧ Row w A (wordV ws) ∧ ws.length ≤ maxLen ∧ ws.length ≤ c := by
  obtain ⟨zs, A, c, rfl, hr, hwf, hm, -, hcap⟩ := open_row Try.underlying22 Try.underlying29 (by kernel_rfl) hv h
  have e : zs = (zs.map Int.toNat).map fun (n : Nat) => (n : Int) := by
    rw [List.map_map]
    conv => lhs; rw [← List.map_id zs]
    apply List.map_congr_left
    intro x hx
    have := ((Lit.wf_int_iff _ _).1 (hwf x hx)).1
    have h0 : 0 ≤ x := this
    show x = ((x.toNat : Nat) : Int)
    omega
  refine ⟨zs.map Int.toNat, A, c, by rw [List.length_map], ?_, by rw [List.length_map]; exact hm, by rw [List.length_map]; exact hcap⟩
  rw [e, List.map_map] at hr
  exact hr
theorem open_dos {b0 : Nat} {v : Value} {d : DataW H} {p : List MemPlace} (hv : Value.okWide Try.prog w .any b0 39 v) (h : DataW.Trod enc Try.prog w 0 (fun _ => true) true 39 v d p) :
    ∃ (n : Nat) (A : Option Addr) (c : Nat) (F : Nat → Nat → Int), v = .slice A n c ∧ Recs w A n 6 doK F ∧ n ≤ maxLen := by
  obtain ⟨n, A, c, F, h1, h2, h3, -, -⟩ := open_recs doK Try.underlying39 Try.underlying41 (by kernel_rfl) (by kernel_rfl) (by decide) (by kernel_rfl) hv h
  exact ⟨n, A, c, F, h1, h2, h3⟩
end

end Go.Proofs.Ytfhbfjlbflkbhaa
