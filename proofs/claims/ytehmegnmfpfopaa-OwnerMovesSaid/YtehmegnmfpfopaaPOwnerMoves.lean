/-
  Move changes no sum of the two Counts: OwnerMoves returns true. No condition.
-/
import Derived.Test.YtehmegnmfpfopaaOpenDos
import Derived.Test.YtehmegnmfpfopaaLawC
import Derived.SizedLaws
import Derived.DataShut
import Derived.Test.YtehmegnmfpfopaaFrame
import Derived.ProofKit
namespace Go.Proofs.Ytehmegnmfpfopaa
open Go.ChangeShapes Go.WideShapes Go.ChangeAt Go.RowKit

theorem Try.ownOwnerMoves : ownKnob Try.prog.godebug = none := by kernel_rfl
theorem Try.laidOwnerMoves : laidOutB Try.prog = true := by kernel_rfl

set_option maxRecDepth 100000 in
theorem ownerMoves_lifted (os : Os) (started : os.Started) (H : Type) (enc : TypeId × Value → H) :
    ReturnsInHanded {} Try.checked os 5 .any (Rows.ownerMovesSpec.pre6 enc Try.prog Try.f5 Rows.ownerMovesRow.domain false) (Rows.ownerMovesSpec.post enc Try.prog Try.f5 false true false false) := by
  refine law_lifted (C := Try.checked) (tb := 4) Try.ownOwnerMoves started (by kernel_rfl) Try.func5 Try.laidOwnerMoves rfl rfl Try.underlying4 (by kernel_rfl)
    (fun ds hds => by
      have hds' : ds.length = 3 := hds
      match ds, hds' with
      | [d0, d1, d2], _ => rfl)
    (ChangeSpec.witness6 (enc := enc) (C := Try.checked) false ⟨#[], #[.slice none 0 0, .int .i64 0, .int .i64 0], []⟩ 8 (by kernel_rfl) (by kernel_rfl) (by kernel_rfl) (by kernel_rfl)) ?_
  intro W base args ds p hval0 hA0 hlt _hfz hsz0
  have hval : ∀ (j : Nat) t v, Try.f5.params[j]? = some t → args[j]? = some v → Value.okWide Try.prog W .any base t v := hval0
  have hA : DataW.TrodAll enc Try.prog W 0 (fun _ => true) true Try.f5.params.toList args.toList ds p := hA0
  have hsz : (DataW.weightsEach Try.prog Try.f5.params.toList ds).all (· ≤ reachBytes) = true := hsz0
  rw [Try.params5] at hA hval hsz
  obtain ⟨v0, v1, v2, d0, d1, d2, p0, p1, p2, rfl, rfl, rfl, h0, h1, h2⟩ := trodAll_three hA
  obtain ⟨n, A, c, F, rfl, hX, hl⟩ := open_dos (hval 0 22 v0 rfl rfl) h0
  obtain ⟨n1, rfl, -, -, -⟩ := open_int Try.underlying3 (hval 1 3 v1 rfl rfl) h1
  obtain ⟨n2, rfl, -, -, -⟩ := open_int Try.underlying3 (hval 2 3 v2 rfl rfl) h2
  exact moves_any n1 n2 n F A c hl W hX

theorem ownerMoves_holds : Rows.OwnerMovesSaid :=
  OpenClaim.holds_of_wide 5 Try.f5 rfl rfl rfl rfl rfl rfl rfl ⟨rfl, rfl, rfl, rfl, rfl⟩ rfl rfl rfl rfl rfl (by kernel_rfl) Try.func5 (by kernel_rfl)
    (of_decide_eq_true (by kernel_rfl)) (by unfold Func.isWrapper; first | (rw [if_pos (by decide +kernel)]; kernel_rfl) | (rw [if_neg (by decide +kernel)]; exact ⟨rfl, rfl⟩))
    (fun os started H enc _ => ownerMoves_lifted os started H enc)

end Go.Proofs.Ytehmegnmfpfopaa
