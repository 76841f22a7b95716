/-
  No count falls below 0 or rises above its limit; an error changes nothing: ChargeBounds returns true. No condition.
-/
import Derived.Test.YtnbeofbkfopehaaLawD
import Derived.SizedLaws
import Derived.Test.YtnbeofbkfopehaaOpenDo
import Derived.DataShut
import Derived.Test.YtnbeofbkfopehaaFrame
import Derived.ProofKit
namespace Go.Proofs.Ytnbeofbkfopehaa
open Go.ChangeShapes Go.WideShapes Go.ChangeAt Go.RowKit

theorem Try.ownChargeBounds : ownKnob Try.prog.godebug = none := by kernel_rfl
theorem Try.laidChargeBounds : laidOutB Try.prog = true := by kernel_rfl

set_option maxRecDepth 100000 in
theorem chargeBounds_lifted (os : Os) (started : os.Started) (H : Type) (enc : TypeId × Value → H) :
    ReturnsInHanded {} Try.checked os 5 .any (Rows.chargeBoundsSpec.pre6 enc Try.prog Try.f5 Rows.chargeBoundsRow.domain false) (Rows.chargeBoundsSpec.post enc Try.prog Try.f5 false true false false) := by
  refine law_lifted (C := Try.checked) (tb := 4) Try.ownChargeBounds started (by kernel_rfl) Try.func5 Try.laidChargeBounds rfl rfl Try.underlying4 (by kernel_rfl)
    (fun ds hds => by
      have hds' : ds.length = 1 := hds
      match ds, hds' with
      | [d0], _ => rfl)
    (ChangeSpec.witness6 (enc := enc) (C := Try.checked) false ⟨#[], #[.slice none 0 0], []⟩ 8 (by kernel_rfl) (by kernel_rfl) (by kernel_rfl) (by kernel_rfl)) ?_
  intro W base args ds p hval0 hA0 hlt _hfz hsz0
  have hval : ∀ (j : Nat) t v, Try.f5.params[j]? = some t → args[j]? = some v → Value.okWide Try.prog W .any base t v := hval0
  have hA : DataW.TrodAll enc Try.prog W 0 (fun _ => true) true Try.f5.params.toList args.toList ds p := hA0
  have hsz : (DataW.weightsEach Try.prog Try.f5.params.toList ds).all (· ≤ reachBytes) = true := hsz0
  rw [Try.params5] at hA hval hsz
  obtain ⟨v0, d0, rfl, rfl, h0⟩ := trodAll_one hA
  obtain ⟨l, A, c, D, rfl, -, hX⟩ := open_dos (hval 0 22 v0 rfl rfl) h0
  exact bounds_any l A c D W hX

theorem chargeBounds_holds : Rows.ChargeBoundsSaid :=
  OpenClaim.holds_of_wide 5 Try.f5 rfl rfl rfl rfl rfl rfl rfl ⟨rfl, rfl, rfl, rfl, rfl⟩ rfl rfl rfl rfl rfl (by kernel_rfl) Try.func5 (by kernel_rfl)
    (of_decide_eq_true (by kernel_rfl)) (by unfold Func.isWrapper; first | (rw [if_pos (by decide +kernel)]; kernel_rfl) | (rw [if_neg (by decide +kernel)]; exact ⟨rfl, rfl⟩))
    (fun os started H enc _ => chargeBounds_lifted os started H enc)

end Go.Proofs.Ytnbeofbkfopehaa
