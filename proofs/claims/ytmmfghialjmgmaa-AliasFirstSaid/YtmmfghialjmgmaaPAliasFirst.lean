/-
  Find tells the first one that serves: AliasFirst returns true. No condition.
-/
import Derived.Test.YtmmfghialjmgmaaOpen
import Derived.SizedLaws
import Derived.Test.YtmmfghialjmgmaaFrame
import Derived.ProofKit
namespace Go.Proofs.Ytmmfghialjmgmaa
open Go.ChangeShapes Go.WideShapes Go.ChangeAt Go.RowKit

theorem Try.ownAliasFirst : ownKnob Try.prog.godebug = none := by kernel_rfl
theorem Try.laidAliasFirst : laidOutB Try.prog = true := by kernel_rfl

set_option maxRecDepth 100000 in
theorem aliasFirst_lifted (os : Os) (started : os.Started) (H : Type) (enc : TypeId × Value → H) :
    ReturnsInHanded {} Try.checked os 7 .any (Rows.aliasFirstSpec.pre6 enc Try.prog Try.f7 Rows.aliasFirstRow.domain false) (Rows.aliasFirstSpec.post enc Try.prog Try.f7 false true false false) := by
  refine law_lifted (C := Try.checked) (tb := 4) Try.ownAliasFirst started (by kernel_rfl) Try.func7 Try.laidAliasFirst rfl rfl Try.underlying4 (by kernel_rfl)
    (fun ds hds => by
      have hds' : ds.length = 2 := hds
      match ds, hds' with
      | [d0, d1], _ => rfl)
    (ChangeSpec.witness6 (enc := enc) (C := Try.checked) false ⟨#[], #[.slice none 0 0, .agg #[.int .i64 0, .int .i64 0, .int .i64 0]], []⟩ 8 (by kernel_rfl) (by kernel_rfl) (by kernel_rfl) (by kernel_rfl)) ?_
  intro W base args ds p hval0 hA0 hlt _hfz hsz0
  have hval : ∀ (j : Nat) t v, Try.f7.params[j]? = some t → args[j]? = some v → Value.okWide Try.prog W .any base t v := hval0
  have hA : DataW.TrodAll enc Try.prog W 0 (fun _ => true) true Try.f7.params.toList args.toList ds p := hA0
  have hsz : (DataW.weightsEach Try.prog Try.f7.params.toList ds).all (· ≤ reachBytes) = true := hsz0
  rw [Try.params7] at hA hval hsz
  obtain ⟨v0, v1, d0, d1, p0, p1, rfl, rfl, rfl, h0, h1⟩ := trodAll_two hA
  obtain ⟨l, A, c, rfl, hX, hd⟩ := open_specs (hval 0 29 v0 rfl rfl) h0 (fun x hx => hlt x (List.mem_append.2 (.inl hx)))
  obtain ⟨s1, a1, f1, rfl⟩ := open_spec (hval 1 23 v1 rfl rfl) h1
  have hr : l.length * 24 ≤ 140737488355328 := by
    rcases hd with ⟨-, rfl⟩ | ⟨el, sp, rfl, hle⟩
    · rw [List.length_nil]; omega
    · have hb := sized_slice hsz (j := 0) rfl rfl Try.underlying29
      rw [Try.bytes23] at hb
      have := reachBytes_lt
      omega
  exact afirst_any l ⟨s1, a1, f1⟩ A c W (by omega) hX

theorem aliasFirst_holds : Rows.AliasFirstSaid :=
  OpenClaim.holds_of_wide 7 Try.f7 rfl rfl rfl rfl rfl rfl rfl ⟨rfl, rfl, rfl, rfl, rfl⟩ rfl rfl rfl rfl rfl (by kernel_rfl) Try.func7 (by kernel_rfl)
    (of_decide_eq_true (by kernel_rfl)) (by unfold Func.isWrapper; first | (rw [if_pos (by decide +kernel)]; kernel_rfl) | (rw [if_neg (by decide +kernel)]; exact ⟨rfl, rfl⟩))
    (fun os started H enc _ => aliasFirst_lifted os started H enc)

end Go.Proofs.Ytmmfghialjmgmaa
