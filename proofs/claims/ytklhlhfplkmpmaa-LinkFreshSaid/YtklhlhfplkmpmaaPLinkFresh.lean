/-
  Fresh answers as the reference does, of all numbers and keys: LinkFresh returns true. No condition.
-/
import Derived.Test.YtklhlhfplkmpmaaLawB
import Derived.SizedLaws
import Derived.DataShut
import Derived.Test.YtklhlhfplkmpmaaFrame
import Derived.ProofKit
namespace Go.Proofs.Ytklhlhfplkmpmaa
open Go.ChangeShapes Go.WideShapes Go.ChangeAt Go.RowKit

theorem Try.ownLinkFresh : ownKnob Try.prog.godebug = none := by kernel_rfl
theorem Try.laidLinkFresh : laidOutB Try.prog = true := by kernel_rfl

set_option maxRecDepth 100000 in
theorem linkFresh_lifted (os : Os) (started : os.Started) (H : Type) (enc : TypeId × Value → H) :
    ReturnsInHanded {} Try.checked os 5 .any (Rows.linkFreshSpec.pre6 enc Try.prog Try.f5 Rows.linkFreshRow.domain false) (Rows.linkFreshSpec.post enc Try.prog Try.f5 false true false false) := by
  refine law_lifted (C := Try.checked) (tb := 4) Try.ownLinkFresh started (by kernel_rfl) Try.func5 Try.laidLinkFresh rfl rfl Try.underlying4 (by kernel_rfl)
    (fun ds hds => by
      have hds' : ds.length = 2 := hds
      match ds, hds' with
      | [d0, d1], _ => rfl)
    (ChangeSpec.witness6 (enc := enc) (C := Try.checked) false ⟨#[], #[.int .i64 0, .int .u64 0], []⟩ 8 (by kernel_rfl) (by kernel_rfl) (by kernel_rfl) (by kernel_rfl)) ?_
  intro W base args ds p hval0 hA0 hlt _hfz hsz0
  have hval : ∀ (j : Nat) t v, Try.f5.params[j]? = some t → args[j]? = some v → Value.okWide Try.prog W .any base t v := hval0
  have hA : DataW.TrodAll enc Try.prog W 0 (fun _ => true) true Try.f5.params.toList args.toList ds p := hA0
  have hsz : (DataW.weightsEach Try.prog Try.f5.params.toList ds).all (· ≤ reachBytes) = true := hsz0
  rw [Try.params5] at hA hval hsz
  obtain ⟨v0, v1, d0, d1, p0, p1, rfl, rfl, rfl, h0, h1⟩ := trodAll_two hA
  obtain ⟨n0, rfl, -, -, hw0⟩ := open_int Try.underlying3 (hval 0 3 v0 rfl rfl) h0
  obtain ⟨n1, rfl, -, -, hw1⟩ := open_int Try.underlying22 (hval 1 22 v1 rfl rfl) h1
  have hu1 := (Lit.wf_int_iff _ _).1 hw1
  have hu10 : 0 ≤ n1 := hu1.1
  have hu11 : n1 ≤ 18446744073709551615 := hu1.2
  obtain ⟨m1, rfl⟩ := Int.eq_ofNat_of_zero_le hu10
  exact linkFresh_any n0 m1 (by omega) W

theorem linkFresh_holds : Rows.LinkFreshSaid :=
  OpenClaim.holds_of_wide 5 Try.f5 rfl rfl rfl rfl rfl rfl rfl ⟨rfl, rfl, rfl, rfl, rfl⟩ rfl rfl rfl rfl rfl (by kernel_rfl) Try.func5 (by kernel_rfl)
    (of_decide_eq_true (by kernel_rfl)) (by unfold Func.isWrapper; first | (rw [if_pos (by decide +kernel)]; kernel_rfl) | (rw [if_neg (by decide +kernel)]; exact ⟨rfl, rfl⟩))
    (fun os started H enc _ => linkFresh_lifted os started H enc)

end Go.Proofs.Ytklhlhfplkmpmaa
