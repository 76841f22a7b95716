/-
  Pack and Counts answer as the reference does, of all counts and words: CountPacks returns true. No condition.
-/
import Derived.Test.YtmljiklddjladaaLawB
import Derived.SizedLaws
import Derived.Test.YtmljiklddjladaaOpenCnt
import Derived.DataShut
import Derived.Test.YtmljiklddjladaaFrame
import Derived.ProofKit
namespace Go.Proofs.Ytmljiklddjladaa
open Go.ChangeShapes Go.WideShapes Go.ChangeAt Go.RowKit

theorem Try.ownCountPacks : ownKnob Try.prog.godebug = none := by kernel_rfl
theorem Try.laidCountPacks : laidOutB Try.prog = true := by kernel_rfl

set_option maxRecDepth 100000 in
theorem countPacks_lifted (os : Os) (started : os.Started) (H : Type) (enc : TypeId × Value → H) :
    ReturnsInHanded {} Try.checked os 3 .any (Rows.countPacksSpec.pre6 enc Try.prog Try.f3 Rows.countPacksRow.domain false) (Rows.countPacksSpec.post enc Try.prog Try.f3 false true false false) := by
  refine law_lifted (C := Try.checked) (tb := 4) Try.ownCountPacks started (by kernel_rfl) Try.func3 Try.laidCountPacks rfl rfl Try.underlying4 (by kernel_rfl)
    (fun ds hds => by
      have hds' : ds.length = 2 := hds
      match ds, hds' with
      | [d0, d1], _ => rfl)
    (ChangeSpec.witness6 (enc := enc) (C := Try.checked) false ⟨#[], #[.agg #[.int .i64 0, .int .i64 0, .bool false, .bool false], .int .u64 0], []⟩ 8 (by kernel_rfl) (by kernel_rfl) (by kernel_rfl) (by kernel_rfl)) ?_
  intro W base args ds p hval0 hA0 hlt _hfz hsz0
  have hval : ∀ (j : Nat) t v, Try.f3.params[j]? = some t → args[j]? = some v → Value.okWide Try.prog W .any base t v := hval0
  have hA : DataW.TrodAll enc Try.prog W 0 (fun _ => true) true Try.f3.params.toList args.toList ds p := hA0
  have hsz : (DataW.weightsEach Try.prog Try.f3.params.toList ds).all (· ≤ reachBytes) = true := hsz0
  rw [Try.params3] at hA hval hsz
  obtain ⟨v0, v1, d0, d1, p0, p1, rfl, rfl, rfl, h0, h1⟩ := trodAll_two hA
  obtain ⟨c0, rfl⟩ := open_cnt (hval 0 23 v0 rfl rfl) h0
  obtain ⟨n1, rfl, -, -, hw1⟩ := open_int Try.underlying24 (hval 1 24 v1 rfl rfl) h1
  have hu := (Lit.wf_int_iff _ _).1 hw1
  have hu0 : 0 ≤ n1 := hu.1
  have hu1 : n1 ≤ 18446744073709551615 := hu.2
  exact countPacks_any _ _ _ _ n1 hu0 (by omega) W

theorem countPacks_holds : Rows.CountPacksSaid :=
  OpenClaim.holds_of_wide 3 Try.f3 rfl rfl rfl rfl rfl rfl rfl ⟨rfl, rfl, rfl, rfl, rfl⟩ rfl rfl rfl rfl rfl (by kernel_rfl) Try.func3 (by kernel_rfl)
    (of_decide_eq_true (by kernel_rfl)) (by unfold Func.isWrapper; first | (rw [if_pos (by decide +kernel)]; kernel_rfl) | (rw [if_neg (by decide +kernel)]; exact ⟨rfl, rfl⟩))
    (fun os started H enc _ => countPacks_lifted os started H enc)

end Go.Proofs.Ytmljiklddjladaa
