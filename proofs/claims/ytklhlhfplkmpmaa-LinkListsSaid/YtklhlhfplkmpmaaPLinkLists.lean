/-
  List answers as the reference does, of all links, keys and numbers: LinkLists returns true. No condition.
-/
import Derived.Test.YtklhlhfplkmpmaaLawC
import Derived.SizedLaws
import Derived.Test.YtklhlhfplkmpmaaOpenW
import Derived.DataShut
import Derived.Test.YtklhlhfplkmpmaaFrame
import Derived.ProofKit
namespace Go.Proofs.Ytklhlhfplkmpmaa
open Go.ChangeShapes Go.WideShapes Go.ChangeAt Go.RowKit

theorem Try.ownLinkLists : ownKnob Try.prog.godebug = none := by kernel_rfl
theorem Try.laidLinkLists : laidOutB Try.prog = true := by kernel_rfl

set_option maxRecDepth 100000 in
theorem linkLists_lifted (os : Os) (started : os.Started) (H : Type) (enc : TypeId × Value → H) :
    ReturnsInHanded {} Try.checked os 4 .any (Rows.linkListsSpec.pre6 enc Try.prog Try.f4 Rows.linkListsRow.domain false) (Rows.linkListsSpec.post enc Try.prog Try.f4 false true false false) := by
  refine law_lifted (C := Try.checked) (tb := 4) Try.ownLinkLists started (by kernel_rfl) Try.func4 Try.laidLinkLists rfl rfl Try.underlying4 (by kernel_rfl)
    (fun ds hds => by
      have hds' : ds.length = 3 := hds
      match ds, hds' with
      | [d0, d1, d2], _ => rfl)
    (ChangeSpec.witness6 (enc := enc) (C := Try.checked) false ⟨#[], #[.slice none 0 0, .int .u64 0, .int .i64 0], []⟩ 8 (by kernel_rfl) (by kernel_rfl) (by kernel_rfl) (by kernel_rfl)) ?_
  intro W base args ds p hval0 hA0 hlt _hfz hsz0
  have hval : ∀ (j : Nat) t v, Try.f4.params[j]? = some t → args[j]? = some v → Value.okWide Try.prog W .any base t v := hval0
  have hA : DataW.TrodAll enc Try.prog W 0 (fun _ => true) true Try.f4.params.toList args.toList ds p := hA0
  have hsz : (DataW.weightsEach Try.prog Try.f4.params.toList ds).all (· ≤ reachBytes) = true := hsz0
  rw [Try.params4] at hA hval hsz
  obtain ⟨v0, v1, v2, d0, d1, d2, p0, p1, p2, rfl, rfl, rfl, h0, h1, h2⟩ := trodAll_three hA
  obtain ⟨ws, A, c, rfl, hX, hws, hl, hd⟩ := open_words (hval 0 26 v0 rfl rfl) h0
  obtain ⟨n1, rfl, -, -, hw1⟩ := open_int Try.underlying22 (hval 1 22 v1 rfl rfl) h1
  obtain ⟨n2, rfl, -, -, hw2⟩ := open_int Try.underlying3 (hval 2 3 v2 rfl rfl) h2
  have hu1 := (Lit.wf_int_iff _ _).1 hw1
  have hu10 : 0 ≤ n1 := hu1.1
  have hu11 : n1 ≤ 18446744073709551615 := hu1.2
  obtain ⟨m1, rfl⟩ := Int.eq_ofNat_of_zero_le hu10
  have hr : ws.length * 8 ≤ 140737488355328 := by
    rcases hd with ⟨-, rfl⟩ | ⟨el, sp, rfl, hle⟩
    · rw [List.length_nil]; omega
    · have hb := sized_slice hsz (j := 0) rfl rfl Try.underlying26
      rw [Try.bytes22] at hb
      have := reachBytes_lt
      omega
  exact linkLists_any ws m1 (by omega) n2 A c hws hr W hX

theorem linkLists_holds : Rows.LinkListsSaid :=
  OpenClaim.holds_of_wide 4 Try.f4 rfl rfl rfl rfl rfl rfl rfl ⟨rfl, rfl, rfl, rfl, rfl⟩ rfl rfl rfl rfl rfl (by kernel_rfl) Try.func4 (by kernel_rfl)
    (of_decide_eq_true (by kernel_rfl)) (by unfold Func.isWrapper; first | (rw [if_pos (by decide +kernel)]; kernel_rfl) | (rw [if_neg (by decide +kernel)]; exact ⟨rfl, rfl⟩))
    (fun os started H enc _ => linkLists_lifted os started H enc)

end Go.Proofs.Ytklhlhfplkmpmaa
