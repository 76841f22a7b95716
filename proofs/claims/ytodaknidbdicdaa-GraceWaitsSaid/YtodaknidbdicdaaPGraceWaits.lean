/-
  A record is not polled before the sections that were open are closed, and each processor has reported: GraceWaits returns true. No condition.
-/
import Derived.Test.YtodaknidbdicdaaOpenDos
import Derived.Test.YtodaknidbdicdaaLawB
import Derived.SizedLaws
import Derived.DataShut
import Derived.Test.YtodaknidbdicdaaFrame
import Derived.ProofKit
namespace Go.Proofs.Ytodaknidbdicdaa
open Go.ChangeShapes Go.WideShapes Go.ChangeAt Go.RowKit

theorem Try.ownGraceWaits : ownKnob Try.prog.godebug = none := by kernel_rfl
theorem Try.laidGraceWaits : laidOutB Try.prog = true := by kernel_rfl

set_option maxRecDepth 100000 in
theorem graceWaits_lifted (os : Os) (started : os.Started) (H : Type) (enc : TypeId × Value → H) :
    ReturnsInHanded {} Try.checked os 3 .any (Rows.graceWaitsSpec.pre6 enc Try.prog Try.f3 Rows.graceWaitsRow.domain false) (Rows.graceWaitsSpec.post enc Try.prog Try.f3 false true false false) := by
  refine law_lifted (C := Try.checked) (tb := 4) Try.ownGraceWaits started (by kernel_rfl) Try.func3 Try.laidGraceWaits rfl rfl Try.underlying4 (by kernel_rfl)
    (fun ds hds => by
      have hds' : ds.length = 1 := hds
      match ds, hds' with
      | [d0], _ => rfl)
    (ChangeSpec.witness6 (enc := enc) (C := Try.checked) false ⟨#[], #[.slice none 0 0], []⟩ 8 (by kernel_rfl) (by kernel_rfl) (by kernel_rfl) (by kernel_rfl)) ?_
  intro W base args ds p hval0 hA0 hlt _hfz hsz0
  have hval : ∀ (j : Nat) t v, Try.f3.params[j]? = some t → args[j]? = some v → Value.okWide Try.prog W .any base t v := hval0
  have hA : DataW.TrodAll enc Try.prog W 0 (fun _ => true) true Try.f3.params.toList args.toList ds p := hA0
  have hsz : (DataW.weightsEach Try.prog Try.f3.params.toList ds).all (· ≤ reachBytes) = true := hsz0
  rw [Try.params3] at hA hval hsz
  obtain ⟨v0, d0, rfl, rfl, h0⟩ := trodAll_one hA
  obtain ⟨n, A, c, F, rfl, hX, hl⟩ := open_dos (hval 0 22 v0 rfl rfl) h0
  exact waits_law n F A c hl W hX

theorem graceWaits_holds : Rows.GraceWaitsSaid :=
  OpenClaim.holds_of_wide 3 Try.f3 rfl rfl rfl rfl rfl rfl rfl ⟨rfl, rfl, rfl, rfl, rfl⟩ rfl rfl rfl rfl rfl (by kernel_rfl) Try.func3 (by kernel_rfl)
    (of_decide_eq_true (by kernel_rfl)) (by unfold Func.isWrapper; first | (rw [if_pos (by decide +kernel)]; kernel_rfl) | (rw [if_neg (by decide +kernel)]; exact ⟨rfl, rfl⟩))
    (fun os started H enc _ => graceWaits_lifted os started H enc)

end Go.Proofs.Ytodaknidbdicdaa
