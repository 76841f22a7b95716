/-
  What was set, and not cleared, is owned, once each; all Counts together are how many: OwnerOnce returns true. No condition.
-/
import Derived.Test.YtehmegnmfpfopaaOpenDos
import Derived.Test.YtehmegnmfpfopaaLawB
import Derived.SizedLaws
import Derived.DataShut
import Derived.Test.YtehmegnmfpfopaaFrame
import Derived.ProofKit
namespace Go.Proofs.Ytehmegnmfpfopaa
open Go.ChangeShapes Go.WideShapes Go.ChangeAt Go.RowKit

theorem Try.ownOwnerOnce : ownKnob Try.prog.godebug = none := by kernel_rfl
theorem Try.laidOwnerOnce : laidOutB Try.prog = true := by kernel_rfl

set_option maxRecDepth 100000 in
theorem ownerOnce_lifted (os : Os) (started : os.Started) (H : Type) (enc : TypeId × Value → H) :
    ReturnsInHanded {} Try.checked os 4 .any (Rows.ownerOnceSpec.pre6 enc Try.prog Try.f4 Rows.ownerOnceRow.domain false) (Rows.ownerOnceSpec.post enc Try.prog Try.f4 false true false false) := by
  refine law_lifted (C := Try.checked) (tb := 4) Try.ownOwnerOnce started (by kernel_rfl) Try.func4 Try.laidOwnerOnce rfl rfl Try.underlying4 (by kernel_rfl)
    (fun ds hds => by
      have hds' : ds.length = 1 := hds
      match ds, hds' with
      | [d0], _ => rfl)
    (ChangeSpec.witness6 (enc := enc) (C := Try.checked) false ⟨#[], #[.slice none 0 0], []⟩ 8 (by kernel_rfl) (by kernel_rfl) (by kernel_rfl) (by kernel_rfl)) ?_
  intro W base args ds p hval0 hA0 hlt _hfz hsz0
  have hval : ∀ (j : Nat) t v, Try.f4.params[j]? = some t → args[j]? = some v → Value.okWide Try.prog W .any base t v := hval0
  have hA : DataW.TrodAll enc Try.prog W 0 (fun _ => true) true Try.f4.params.toList args.toList ds p := hA0
  have hsz : (DataW.weightsEach Try.prog Try.f4.params.toList ds).all (· ≤ reachBytes) = true := hsz0
  rw [Try.params4] at hA hval hsz
  obtain ⟨v0, d0, rfl, rfl, h0⟩ := trodAll_one hA
  obtain ⟨n, A, c, F, rfl, hX, hl⟩ := open_dos (hval 0 22 v0 rfl rfl) h0
  exact once_any n F A c hl W hX

theorem ownerOnce_holds : Rows.OwnerOnceSaid :=
  OpenClaim.holds_of_wide 4 Try.f4 rfl rfl rfl rfl rfl rfl rfl ⟨rfl, rfl, rfl, rfl, rfl⟩ rfl rfl rfl rfl rfl (by kernel_rfl) Try.func4 (by kernel_rfl)
    (of_decide_eq_true (by kernel_rfl)) (by unfold Func.isWrapper; first | (rw [if_pos (by decide +kernel)]; kernel_rfl) | (rw [if_neg (by decide +kernel)]; exact ⟨rfl, rfl⟩))
    (fun os started H enc _ => ownerOnce_lifted os started H enc)

end Go.Proofs.Ytehmegnmfpfopaa
