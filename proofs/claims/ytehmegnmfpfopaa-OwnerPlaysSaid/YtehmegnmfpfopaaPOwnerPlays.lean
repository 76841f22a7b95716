/-
  What owners answer, call by call, is what the reference answers: OwnerPlays returns true. No condition.
-/
import Derived.Test.YtehmegnmfpfopaaOpenDos
import Derived.SizedLaws
import Derived.DataShut
import Derived.Test.YtehmegnmfpfopaaFrame
import Derived.ProofKit
namespace Go.Proofs.Ytehmegnmfpfopaa
open Go.ChangeShapes Go.WideShapes Go.ChangeAt Go.RowKit

theorem Try.ownOwnerPlays : ownKnob Try.prog.godebug = none := by kernel_rfl
theorem Try.laidOwnerPlays : laidOutB Try.prog = true := by kernel_rfl

set_option maxRecDepth 100000 in
theorem ownerPlays_lifted (os : Os) (started : os.Started) (H : Type) (enc : TypeId × Value → H) :
    ReturnsInHanded {} Try.checked os 3 .any (Rows.ownerPlaysSpec.pre6 enc Try.prog Try.f3 Rows.ownerPlaysRow.domain false) (Rows.ownerPlaysSpec.post enc Try.prog Try.f3 false true false false) := by
  refine law_lifted (C := Try.checked) (tb := 4) Try.ownOwnerPlays started (by kernel_rfl) Try.func3 Try.laidOwnerPlays rfl rfl Try.underlying4 (by kernel_rfl)
    (fun ds hds => by
      have hds' : ds.length = 3 := hds
      match ds, hds' with
      | [d0, d1, d2], _ => rfl)
    (ChangeSpec.witness6 (enc := enc) (C := Try.checked) false ⟨#[], #[.int .i64 0, .int .i64 0, .slice none 0 0], []⟩ 8 (by kernel_rfl) (by kernel_rfl) (by kernel_rfl) (by kernel_rfl)) ?_
  intro W base args ds p hval0 hA0 hlt _hfz hsz0
  have hval : ∀ (j : Nat) t v, Try.f3.params[j]? = some t → args[j]? = some v → Value.okWide Try.prog W .any base t v := hval0
  have hA : DataW.TrodAll enc Try.prog W 0 (fun _ => true) true Try.f3.params.toList args.toList ds p := hA0
  have hsz : (DataW.weightsEach Try.prog Try.f3.params.toList ds).all (· ≤ reachBytes) = true := hsz0
  rw [Try.params3] at hA hval hsz
  obtain ⟨v0, v1, v2, d0, d1, d2, p0, p1, p2, rfl, rfl, rfl, h0, h1, h2⟩ := trodAll_three hA
  obtain ⟨n0, rfl, -, -, -⟩ := open_int Try.underlying3 (hval 0 3 v0 rfl rfl) h0
  obtain ⟨n1, rfl, -, -, -⟩ := open_int Try.underlying3 (hval 1 3 v1 rfl rfl) h1
  obtain ⟨n, A, c, F, rfl, hX, hl⟩ := open_dos (hval 2 22 v2 rfl rfl) h2
  exact plays_any n0 n1 n F A c hl W hX

theorem ownerPlays_holds : Rows.OwnerPlaysSaid :=
  OpenClaim.holds_of_wide 3 Try.f3 rfl rfl rfl rfl rfl rfl rfl ⟨rfl, rfl, rfl, rfl, rfl⟩ rfl rfl rfl rfl rfl (by kernel_rfl) Try.func3 (by kernel_rfl)
    (of_decide_eq_true (by kernel_rfl)) (by unfold Func.isWrapper; first | (rw [if_pos (by decide +kernel)]; kernel_rfl) | (rw [if_neg (by decide +kernel)]; exact ⟨rfl, rfl⟩))
    (fun os started H enc _ => ownerPlays_lifted os started H enc)

end Go.Proofs.Ytehmegnmfpfopaa
