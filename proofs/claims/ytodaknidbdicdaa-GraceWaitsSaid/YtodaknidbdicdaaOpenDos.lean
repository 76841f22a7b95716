/-
  Calls, as an argument.
-/
import Derived.Test.YtodaknidbdicdaaOpenRow
import Derived.Test.YtodaknidbdicdaaLawA
import Derived.DataShut
import Derived.OpenShut
namespace Go.Proofs.Ytodaknidbdicdaa
open Go.ChangeShapes Go.WideShapes Go.RowKit

section
variable {H : Type} {enc : TypeId × Value → H} {w : World}
theorem open_dos {b0 : Nat} {v : Value} {d : DataW H} {p : List MemPlace} (hv : Value.okWide Try.prog w .any b0 22 v) (h : DataW.Trod enc Try.prog w 0 (fun _ => true) true 22 v d p) :
    ∃ (n : Nat) (A : Option Addr) (c : Nat) (F : Nat → Nat → Int), v = .slice A n c ∧ Recs w A n 3 doK F ∧ n ≤ maxLen := by
  obtain ⟨n, A, c, F, h1, h2, h3, -, -⟩ := open_recs doK Try.underlying22 Try.underlying36 (by kernel_rfl) (by kernel_rfl) (by decide) (by kernel_rfl) hv h
  exact ⟨n, A, c, F, h1, h2, h3⟩
end

end Go.Proofs.Ytodaknidbdicdaa
