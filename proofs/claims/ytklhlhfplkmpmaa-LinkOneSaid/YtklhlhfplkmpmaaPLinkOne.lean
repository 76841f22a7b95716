/-
  A list has no object twice; a link that is hidden anew at its end, to the head of another list that shares none with it, makes both one: LinkOne returns true. No condition.
-/
import Derived.Test.YtklhlhfplkmpmaaLawD
import Derived.SizedLaws
import Derived.Test.YtklhlhfplkmpmaaOpenW
import Derived.DataShut
import Derived.Test.YtklhlhfplkmpmaaFrame
import Derived.ProofKit
namespace Go.Proofs.Ytklhlhfplkmpmaa
open Go.ChangeShapes Go.WideShapes Go.ChangeAt Go.RowKit

theorem Try.ownLinkOne : ownKnob Try.prog.godebug = none := by kernel_rfl
theorem Try.laidLinkOne : laidOutB Try.prog = true := by kernel_rfl

set_option maxRecDepth 100000 in
theorem linkOne_lifted (os : Os) (started : os.Started) (H : Type) (enc : TypeId × Value → H) :
    ReturnsInHanded {} Try.checked os 7 .any (Rows.linkOneSpec.pre6 enc Try.prog Try.f7 Rows.linkOneRow.domain false) (Rows.linkOneSpec.post enc Try.prog Try.f7 false true false false) := by
  refine law_lifted (C := Try.checked) (tb := 4) Try.ownLinkOne started (by kernel_rfl) Try.func7 Try.laidLinkOne rfl rfl Try.underlying4 (by kernel_rfl)
    (fun ds hds => by
      have hds' : ds.length = 3 := hds
      match ds, hds' with
      | [d0, d1, d2], _ => rfl)
    (ChangeSpec.witness6 (enc := enc) (C := Try.checked) false ⟨#[], #[.slice none 0 0, .int .u64 0, .agg #[.int .i64 0, .int .i64 0]], []⟩ 8 (by kernel_rfl) (by kernel_rfl) (by kernel_rfl) (by kernel_rfl)) ?_
  intro W base args ds p hval0 hA0 hlt _hfz hsz0
  have hval : ∀ (j : Nat) t v, Try.f7.params[j]? = some t → args[j]? = some v → Value.okWide Try.prog W .any base t v := hval0
  have hA : DataW.TrodAll enc Try.prog W 0 (fun _ => true) true Try.f7.params.toList args.toList ds p := hA0
  have hsz : (DataW.weightsEach Try.prog Try.f7.params.toList ds).all (· ≤ reachBytes) = true := hsz0
  rw [Try.params7] at hA hval hsz
  obtain ⟨v0, v1, v2, d0, d1, d2, p0, p1, p2, rfl, rfl, rfl, h0, h1, h2⟩ := trodAll_three hA
  obtain ⟨ws, A, c, rfl, hX, hws, hl, hd, hcap⟩ := open_words (hval 0 26 v0 rfl rfl) h0
  obtain ⟨n1, rfl, -, -, hw1⟩ := open_int Try.underlying22 (hval 1 22 v1 rfl rfl) h1
  have hu1 := (Lit.wf_int_iff _ _).1 hw1
  have hu10 : 0 ≤ n1 := hu1.1
  have hu11 : n1 ≤ 18446744073709551615 := hu1.2
  obtain ⟨m1, rfl⟩ := Int.eq_ofNat_of_zero_le hu10
  obtain ⟨a, b, rfl⟩ := open_two (hval 2 41 v2 rfl rfl) h2
  exact linkOne_any ws m1 (by omega) a b A c hws hl hcap W hX

theorem linkOne_holds : Rows.LinkOneSaid :=
  OpenClaim.holds_of_wide 7 Try.f7 rfl rfl rfl rfl rfl rfl rfl ⟨rfl, rfl, rfl, rfl, rfl⟩ rfl rfl rfl rfl rfl (by kernel_rfl) Try.func7 (by kernel_rfl)
    (of_decide_eq_true (by kernel_rfl)) (by unfold Func.isWrapper; first | (rw [if_pos (by decide +kernel)]; kernel_rfl) | (rw [if_neg (by decide +kernel)]; exact ⟨rfl, rfl⟩))
    (fun os started H enc _ => linkOne_lifted os started H enc)

end Go.Proofs.Ytklhlhfplkmpmaa
