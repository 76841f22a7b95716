/-
  Steps as they lie: three numbers and a path each.
-/
import Derived.Test.YtnbeofbkfopehaaWalkG
import Derived.Test.YtnbeofbkfopehaaOpenRow
namespace Go.Proofs.Ytnbeofbkfopehaa
open Go.RowKit

structure DoR where
  k : Int
  x : Int
  n : Int
  pa : Option Addr
  pp : List Int
  pc : Nat

def Dos (w : World) (A : Option Addr) (L : Nat) (D : Nat → DoR) : Prop :=
  0 < L → ∃ b off, A = some ⟨b, off, none⟩ ∧ b < w.heap.size ∧ ∀ i, i < L → w.cell? ⟨b, off + i * 4, none⟩ = some (.int .i64 (D i).k) ∧ w.cell? ⟨b, off + i * 4 + 1, none⟩ = some (.int .i64 (D i).x) ∧
    w.cell? ⟨b, off + i * 4 + 2, none⟩ = some (.int .i64 (D i).n) ∧ w.cell? ⟨b, off + i * 4 + 3, none⟩ = some (.slice (D i).pa (D i).pp.length (D i).pc) ∧
    Row w (D i).pa (intsV (D i).pp) ∧ (D i).pp.length ≤ maxLen

section
variable {w w' : World} {A : Option Addr} {L : Nat} {D : Nat → DoR}
theorem Dos.below (h : Dos w A L D) (hb : Below w.heap.size w w') : Dos w' A L D := fun hp => by
  obtain ⟨b, off, e, hl, hc⟩ := h hp
  refine ⟨b, off, e, Nat.lt_of_lt_of_le hl hb.size, fun i hi => ?_⟩
  obtain ⟨h0, h1, h2, h3, h4, h5⟩ := hc i hi
  exact ⟨(hb.cell (p := ⟨b, _, none⟩) hl).trans h0, (hb.cell (p := ⟨b, _, none⟩) hl).trans h1, (hb.cell (p := ⟨b, _, none⟩) hl).trans h2, (hb.cell (p := ⟨b, _, none⟩) hl).trans h3, h4.below hb, h5⟩
end

end Go.Proofs.Ytnbeofbkfopehaa
