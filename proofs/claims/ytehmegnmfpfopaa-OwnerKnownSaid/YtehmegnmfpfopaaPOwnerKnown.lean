/-
  Both ends of all; owners that are none: OwnerKnown returns true. No condition.
-/
import Derived.Test.YtehmegnmfpfopaaLawD
import Derived.SizedLaws
import Derived.DataShut
import Derived.Test.YtehmegnmfpfopaaFrame
import Derived.ProofKit
namespace Go.Proofs.Ytehmegnmfpfopaa
open Go.ChangeShapes Go.WideShapes Go.ChangeAt Go.RowKit

theorem Try.ownOwnerKnown : ownKnob Try.prog.godebug = none := by kernel_rfl
theorem Try.laidOwnerKnown : laidOutB Try.prog = true := by kernel_rfl

set_option maxRecDepth 100000 in
theorem ownerKnown_lifted (os : Os) (started : os.Started) (H : Type) (enc : TypeId × Value → H) :
    ReturnsInHanded {} Try.checked os 6 .any (Rows.ownerKnownSpec.pre6 enc Try.prog Try.f6 Rows.ownerKnownRow.domain false) (Rows.ownerKnownSpec.post enc Try.prog Try.f6 false true false false) := by
  refine law_lifted (C := Try.checked) (tb := 4) Try.ownOwnerKnown started (by kernel_rfl) Try.func6 Try.laidOwnerKnown rfl rfl Try.underlying4 (by kernel_rfl)
    (fun ds hds => by
      have hds' : ds.length = 0 := hds
      match ds, hds' with
      | [], _ => rfl)
    (ChangeSpec.witness6 (enc := enc) (C := Try.checked) false ⟨#[], #[], []⟩ 8 (by kernel_rfl) (by kernel_rfl) (by kernel_rfl) (by kernel_rfl)) ?_
  intro W base args ds p hval0 hA0 hlt _hfz hsz0
  have hval : ∀ (j : Nat) t v, Try.f6.params[j]? = some t → args[j]? = some v → Value.okWide Try.prog W .any base t v := hval0
  have hA : DataW.TrodAll enc Try.prog W 0 (fun _ => true) true Try.f6.params.toList args.toList ds p := hA0
  have hsz : (DataW.weightsEach Try.prog Try.f6.params.toList ds).all (· ≤ reachBytes) = true := hsz0
  rw [Try.params6] at hA hval hsz
  obtain ⟨rfl, rfl, rfl⟩ := trodAll_none hA
  exact known_any W

theorem ownerKnown_holds : Rows.OwnerKnownSaid :=
  OpenClaim.holds_of_wide 6 Try.f6 rfl rfl rfl rfl rfl rfl rfl ⟨rfl, rfl, rfl, rfl, rfl⟩ rfl rfl rfl rfl rfl (by kernel_rfl) Try.func6 (by kernel_rfl)
    (of_decide_eq_true (by kernel_rfl)) (by unfold Func.isWrapper; first | (rw [if_pos (by decide +kernel)]; kernel_rfl) | (rw [if_neg (by decide +kernel)]; exact ⟨rfl, rfl⟩))
    (fun os started H enc _ => ownerKnown_lifted os started H enc)

end Go.Proofs.Ytehmegnmfpfopaa
