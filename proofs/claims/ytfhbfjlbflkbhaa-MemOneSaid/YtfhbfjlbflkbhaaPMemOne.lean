/-
  Of those who would turn a word at once, each from what it has read, one has its way, the first one: MemOne returns true. No condition.
-/
import Derived.Test.YtfhbfjlbflkbhaaOpenMem
import Derived.SizedLaws
import Derived.DataShut
import Derived.Test.YtfhbfjlbflkbhaaFrame
import Derived.ProofKit
namespace Go.Proofs.Ytfhbfjlbflkbhaa
open Go.ChangeShapes Go.WideShapes Go.ChangeAt Go.RowKit

theorem Try.ownMemOne : ownKnob Try.prog.godebug = none := by kernel_rfl
theorem Try.laidMemOne : laidOutB Try.prog = true := by kernel_rfl

set_option maxRecDepth 100000 in
theorem memOne_lifted (os : Os) (started : os.Started) (H : Type) (enc : TypeId × Value → H) :
    ReturnsInHanded {} Try.checked os 4 .any (Rows.memOneSpec.pre6 enc Try.prog Try.f4 Rows.memOneRow.domain false) (Rows.memOneSpec.post enc Try.prog Try.f4 false true false false) := by
  refine law_lifted (C := Try.checked) (tb := 4) Try.ownMemOne started (by kernel_rfl) Try.func4 Try.laidMemOne rfl rfl Try.underlying4 (by kernel_rfl)
    (fun ds hds => by
      have hds' : ds.length = 3 := hds
      match ds, hds' with
      | [d0, d1, d2], _ => rfl)
    (ChangeSpec.witness6 (enc := enc) (C := Try.checked) false ⟨#[], #[.int .u64 0, .slice none 0 0, .bool false], []⟩ 8 (by kernel_rfl) (by kernel_rfl) (by kernel_rfl) (by kernel_rfl)) ?_
  intro W base args ds p hval0 hA0 hlt _hfz hsz0
  have hval : ∀ (j : Nat) t v, Try.f4.params[j]? = some t → args[j]? = some v → Value.okWide Try.prog W .any base t v := hval0
  have hA : DataW.TrodAll enc Try.prog W 0 (fun _ => true) true Try.f4.params.toList args.toList ds p := hA0
  have hsz : (DataW.weightsEach Try.prog Try.f4.params.toList ds).all (· ≤ reachBytes) = true := hsz0
  rw [Try.params4] at hA hval hsz
  obtain ⟨v0, v1, v2, d0, d1, d2, p0, p1, p2, rfl, rfl, rfl, h0, h1, h2⟩ := trodAll_three hA
  obtain ⟨n0, rfl, -, -, hw0⟩ := open_int Try.underlying29 (hval 0 29 v0 rfl rfl) h0
  obtain ⟨m0, rfl⟩ := Int.eq_ofNat_of_zero_le ((Lit.wf_int_iff _ _).1 hw0).1
  obtain ⟨ws, A, c, rfl, hX, hl, -⟩ := open_words (hval 1 22 v1 rfl rfl) h1
  obtain ⟨b2, rfl, -, -⟩ := open_bool Try.underlying4 (hval 2 4 v2 rfl rfl) h2
  exact one_any m0 ws A c b2 hl W hX

theorem memOne_holds : Rows.MemOneSaid :=
  OpenClaim.holds_of_wide 4 Try.f4 rfl rfl rfl rfl rfl rfl rfl ⟨rfl, rfl, rfl, rfl, rfl⟩ rfl rfl rfl rfl rfl (by kernel_rfl) Try.func4 (by kernel_rfl)
    (of_decide_eq_true (by kernel_rfl)) (by unfold Func.isWrapper; first | (rw [if_pos (by decide +kernel)]; kernel_rfl) | (rw [if_neg (by decide +kernel)]; exact ⟨rfl, rfl⟩))
    (fun os started H enc _ => memOne_lifted os started H enc)

end Go.Proofs.Ytfhbfjlbflkbhaa
