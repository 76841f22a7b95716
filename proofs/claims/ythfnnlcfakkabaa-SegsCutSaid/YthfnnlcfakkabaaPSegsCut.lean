/-
  What Ready answers first is the beginning of the row, which waits for no more; the others wait for more; asked again it answers none: SegsCut returns true. No condition.
-/
import Derived.Test.YthfnnlcfakkabaaLawD
import Derived.SizedLaws
import Derived.Test.YthfnnlcfakkabaaOpenSegs
import Derived.DataShut
import Derived.Test.YthfnnlcfakkabaaFrame
import Derived.ProofKit
namespace Go.Proofs.Ythfnnlcfakkabaa
open Go.ChangeShapes Go.WideShapes Go.ChangeAt Go.RowKit

theorem Try.ownSegsCut : ownKnob Try.prog.godebug = none := by kernel_rfl
theorem Try.laidSegsCut : laidOutB Try.prog = true := by kernel_rfl

set_option maxRecDepth 100000 in
theorem segsCut_lifted (os : Os) (started : os.Started) (H : Type) (enc : TypeId × Value → H) :
    ReturnsInHanded {} Try.checked os 5 .any (Rows.segsCutSpec.pre6 enc Try.prog Try.f5 Rows.segsCutRow.domain false) (Rows.segsCutSpec.post enc Try.prog Try.f5 false true false false) := by
  refine law_lifted (C := Try.checked) (tb := 4) Try.ownSegsCut started (by kernel_rfl) Try.func5 Try.laidSegsCut rfl rfl Try.underlying4 (by kernel_rfl)
    (fun ds hds => by
      have hds' : ds.length = 2 := hds
      match ds, hds' with
      | [d0, d1], _ => rfl)
    (ChangeSpec.witness6 (enc := enc) (C := Try.checked) false ⟨#[], #[.slice none 0 0, .int .i64 0], []⟩ 8 (by kernel_rfl) (by kernel_rfl) (by kernel_rfl) (by kernel_rfl)) ?_
  intro W base args ds p hval0 hA0 hlt _hfz hsz0
  have hval : ∀ (j : Nat) t v, Try.f5.params[j]? = some t → args[j]? = some v → Value.okWide Try.prog W .any base t v := hval0
  have hA : DataW.TrodAll enc Try.prog W 0 (fun _ => true) true Try.f5.params.toList args.toList ds p := hA0
  have hsz : (DataW.weightsEach Try.prog Try.f5.params.toList ds).all (· ≤ reachBytes) = true := hsz0
  rw [Try.params5] at hA hval hsz
  obtain ⟨v0, v1, d0, d1, p0, p1, rfl, rfl, rfl, h0, h1⟩ := trodAll_two hA
  obtain ⟨l, n, A, c, rfl, hn, hX, hl, -⟩ := open_waits (hval 0 22 v0 rfl rfl) h0
  obtain ⟨n1, rfl, -, -, -⟩ := open_int Try.underlying3 (hval 1 3 v1 rfl rfl) h1
  exact cut_any l n c A n1 hn hl W hX

theorem segsCut_holds : Rows.SegsCutSaid :=
  OpenClaim.holds_of_wide 5 Try.f5 rfl rfl rfl rfl rfl rfl rfl ⟨rfl, rfl, rfl, rfl, rfl⟩ rfl rfl rfl rfl rfl (by kernel_rfl) Try.func5 (by kernel_rfl)
    (of_decide_eq_true (by kernel_rfl)) (by unfold Func.isWrapper; first | (rw [if_pos (by decide +kernel)]; kernel_rfl) | (rw [if_neg (by decide +kernel)]; exact ⟨rfl, rfl⟩))
    (fun os started H enc _ => segsCut_lifted os started H enc)

end Go.Proofs.Ythfnnlcfakkabaa
