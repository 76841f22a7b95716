/-
  Both ends of all; machines that are none: GraceKnown returns true. No condition.
-/
import Derived.Test.YtodaknidbdicdaaLawD
import Derived.SizedLaws
import Derived.DataShut
import Derived.Test.YtodaknidbdicdaaFrame
import Derived.ProofKit
namespace Go.Proofs.Ytodaknidbdicdaa
open Go.ChangeShapes Go.WideShapes Go.ChangeAt Go.RowKit

theorem Try.ownGraceKnown : ownKnob Try.prog.godebug = none := by kernel_rfl
theorem Try.laidGraceKnown : laidOutB Try.prog = true := by kernel_rfl

set_option maxRecDepth 100000 in
theorem graceKnown_lifted (os : Os) (started : os.Started) (H : Type) (enc : TypeId × Value → H) :
    ReturnsInHanded {} Try.checked os 5 .any (Rows.graceKnownSpec.pre6 enc Try.prog Try.f5 Rows.graceKnownRow.domain false) (Rows.graceKnownSpec.post enc Try.prog Try.f5 false true false false) := by
  refine law_lifted (C := Try.checked) (tb := 4) Try.ownGraceKnown started (by kernel_rfl) Try.func5 Try.laidGraceKnown rfl rfl Try.underlying4 (by kernel_rfl)
    (fun ds hds => by
      have hds' : ds.length = 0 := hds
      match ds, hds' with
      | [], _ => rfl)
    (ChangeSpec.witness6 (enc := enc) (C := Try.checked) false ⟨#[], #[], []⟩ 8 (by kernel_rfl) (by kernel_rfl) (by kernel_rfl) (by kernel_rfl)) ?_
  intro W base args ds p hval0 hA0 hlt _hfz hsz0
  have hval : ∀ (j : Nat) t v, Try.f5.params[j]? = some t → args[j]? = some v → Value.okWide Try.prog W .any base t v := hval0
  have hA : DataW.TrodAll enc Try.prog W 0 (fun _ => true) true Try.f5.params.toList args.toList ds p := hA0
  have hsz : (DataW.weightsEach Try.prog Try.f5.params.toList ds).all (· ≤ reachBytes) = true := hsz0
  rw [Try.params5] at hA hval hsz
  obtain ⟨rfl, rfl, rfl⟩ := trodAll_none hA
  exact known_any W

theorem graceKnown_holds : Rows.GraceKnownSaid :=
  OpenClaim.holds_of_wide 5 Try.f5 rfl rfl rfl rfl rfl rfl rfl ⟨rfl, rfl, rfl, rfl, rfl⟩ rfl rfl rfl rfl rfl (by kernel_rfl) Try.func5 (by kernel_rfl)
    (of_decide_eq_true (by kernel_rfl)) (by unfold Func.isWrapper; first | (rw [if_pos (by decide +kernel)]; kernel_rfl) | (rw [if_neg (by decide +kernel)]; exact ⟨rfl, rfl⟩))
    (fun os started H enc _ => graceKnown_lifted os started H enc)

end Go.Proofs.Ytodaknidbdicdaa
