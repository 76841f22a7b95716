/-
  Check, Add and Next answer as the reference does, of all rows and records: SegsRows returns true. No condition.
-/
import Derived.Test.YthfnnlcfakkabaaLawB
import Derived.SizedLaws
import Derived.Test.YthfnnlcfakkabaaOpenSegs
import Derived.DataShut
import Derived.Test.YthfnnlcfakkabaaFrame
import Derived.ProofKit
namespace Go.Proofs.Ythfnnlcfakkabaa
open Go.ChangeShapes Go.WideShapes Go.ChangeAt Go.RowKit

theorem Try.ownSegsRows : ownKnob Try.prog.godebug = none := by kernel_rfl
theorem Try.laidSegsRows : laidOutB Try.prog = true := by kernel_rfl

set_option maxRecDepth 100000 in
theorem segsRows_lifted (os : Os) (started : os.Started) (H : Type) (enc : TypeId × Value → H) :
    ReturnsInHanded {} Try.checked os 3 .any (Rows.segsRowsSpec.pre6 enc Try.prog Try.f3 Rows.segsRowsRow.domain false) (Rows.segsRowsSpec.post enc Try.prog Try.f3 false true false false) := by
  refine law_lifted (C := Try.checked) (tb := 4) Try.ownSegsRows started (by kernel_rfl) Try.func3 Try.laidSegsRows rfl rfl Try.underlying4 (by kernel_rfl)
    (fun ds hds => by
      have hds' : ds.length = 2 := hds
      match ds, hds' with
      | [d0, d1], _ => rfl)
    (ChangeSpec.witness6 (enc := enc) (C := Try.checked) false ⟨#[], #[.slice none 0 0, .agg #[.int .i64 0, .int .i64 0]], []⟩ 8 (by kernel_rfl) (by kernel_rfl) (by kernel_rfl) (by kernel_rfl)) ?_
  intro W base args ds p hval0 hA0 hlt _hfz hsz0
  have hval : ∀ (j : Nat) t v, Try.f3.params[j]? = some t → args[j]? = some v → Value.okWide Try.prog W .any base t v := hval0
  have hA : DataW.TrodAll enc Try.prog W 0 (fun _ => true) true Try.f3.params.toList args.toList ds p := hA0
  have hsz : (DataW.weightsEach Try.prog Try.f3.params.toList ds).all (· ≤ reachBytes) = true := hsz0
  rw [Try.params3] at hA hval hsz
  obtain ⟨v0, v1, d0, d1, p0, p1, rfl, rfl, rfl, h0, h1⟩ := trodAll_two hA
  obtain ⟨l, n, A, c, rfl, hn, hX, -, hc⟩ := open_waits (hval 0 22 v0 rfl rfl) h0
  obtain ⟨i, a, rfl⟩ := open_wait (hval 1 24 v1 rfl rfl) h1
  exact rows_any l n c A i a hn hc W hX

theorem segsRows_holds : Rows.SegsRowsSaid :=
  OpenClaim.holds_of_wide 3 Try.f3 rfl rfl rfl rfl rfl rfl rfl ⟨rfl, rfl, rfl, rfl, rfl⟩ rfl rfl rfl rfl rfl (by kernel_rfl) Try.func3 (by kernel_rfl)
    (of_decide_eq_true (by kernel_rfl)) (by unfold Func.isWrapper; first | (rw [if_pos (by decide +kernel)]; kernel_rfl) | (rw [if_neg (by decide +kernel)]; exact ⟨rfl, rfl⟩))
    (fun os started H enc _ => segsRows_lifted os started H enc)

end Go.Proofs.Ythfnnlcfakkabaa
