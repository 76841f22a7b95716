/-
  No cell of these rows narrows 'for every input' (looked for: loops, veiled, ifaces, maps, wideKeys, modest, calm, conditions, laid).
  DERIVED. THE GIVEN ROWS OF THIS SEAT. 6 by the template 'for every input the law returns true; each argument reads behind the call as it read before'; 0 by the template 'total and deterministic' (their statements: YtmmfghialjmgmaaTotals.lean).
  GIVEN WITH THE SEED: the statements are not yours to turn. If you find one false, say at which input.
  Laid BY PROGRAM, IN A SANDBOX (cutbox-rows.mjs): the forced cells as the released guide's own fill.sh prints them over the translation 865ce4ae37fd18f3… (all of the seat's roots in one cut). By AI agents, Wed Nov 11 2026. No macro, syntax, notation, axiom, sorry.
-/
import Derived.Test.YtmmfghialjmgmaaChecked
import GoSem.Claim
import GoSem.ClaimJoined
import GoSem.ClaimMapViews
import Derived.JoinedTies
import Derived.KernelRfl
namespace Go.Proofs.Ytmmfghialjmgmaa
/- THE CELL 'sum', in the pinned program and in every row, IS THE sha256 OF THE DUMP (.gsa) THAT YtmmfghialjmgmaaProg.lean LOADS. Nothing in Lean hashes anything: it is a label: what it is worth is what the hold of that sum in a sandbox is worth. -/
noncomputable def Try.pinned : Pinned := { name := "ytmmfghialjmgmaa", sum := "865ce4ae37fd18f344d0f43f1b0846e77cbd9dda83b472a316642850f61db29c", checked := Try.checked }
namespace Rows
def none {H : Type} : Left H := { results := [], args := [] }

/-- 'wainscotlaw20.AliasAnswers': WHATEVER THE INPUT: true; the input reads as it did. -/
def aliasAnswersSpec : ChangeSpec := { name := "aliasAnswers", fn := fun _ => fun
  | [d1, d2] => { results := [.lit (.bool true)], args := [d1, d2] }
  | _ => none }
def aliasAnswersRow : OpenClaim := { program := "ytmmfghialjmgmaa", sum := "865ce4ae37fd18f344d0f43f1b0846e77cbd9dda83b472a316642850f61db29c", func := "wainscot/wainscotlaw20.AliasAnswers", spec := "aliasAnswers", unfollowed := true, recurses := true, apart := false }
def AliasAnswersSaid : Prop := aliasAnswersRow.holds Try.pinned (OpenSpec.ofChange aliasAnswersSpec)

/-- ITS FALSE NEIGHBOUR: 'it returns false'. Refute it at one input. -/
def aliasAnswersWrong : ChangeSpec := { name := "aliasAnswers", fn := fun _ => fun
  | [d1, d2] => { results := [.lit (.bool false)], args := [d1, d2] }
  | _ => none }
def AliasAnswersWrongFalsely : Prop := aliasAnswersRow.holds Try.pinned (OpenSpec.ofChange aliasAnswersWrong)

/-- 'wainscotlaw20.AliasFinds': WHATEVER THE INPUT: true; the input reads as it did. -/
def aliasFindsSpec : ChangeSpec := { name := "aliasFinds", fn := fun _ => fun
  | [d1, d2] => { results := [.lit (.bool true)], args := [d1, d2] }
  | _ => none }
def aliasFindsRow : OpenClaim := { program := "ytmmfghialjmgmaa", sum := "865ce4ae37fd18f344d0f43f1b0846e77cbd9dda83b472a316642850f61db29c", func := "wainscot/wainscotlaw20.AliasFinds", spec := "aliasFinds", unfollowed := true, recurses := true, apart := false }
def AliasFindsSaid : Prop := aliasFindsRow.holds Try.pinned (OpenSpec.ofChange aliasFindsSpec)

/-- ITS FALSE NEIGHBOUR: 'it returns false'. Refute it at one input. -/
def aliasFindsWrong : ChangeSpec := { name := "aliasFinds", fn := fun _ => fun
  | [d1, d2] => { results := [.lit (.bool false)], args := [d1, d2] }
  | _ => none }
def AliasFindsWrongFalsely : Prop := aliasFindsRow.holds Try.pinned (OpenSpec.ofChange aliasFindsWrong)

/-- 'wainscotlaw20.AliasOrder': WHATEVER THE INPUT: true; the input reads as it did. -/
def aliasOrderSpec : ChangeSpec := { name := "aliasOrder", fn := fun _ => fun
  | [d1, d2, d3] => { results := [.lit (.bool true)], args := [d1, d2, d3] }
  | _ => none }
def aliasOrderRow : OpenClaim := { program := "ytmmfghialjmgmaa", sum := "865ce4ae37fd18f344d0f43f1b0846e77cbd9dda83b472a316642850f61db29c", func := "wainscot/wainscotlaw20.AliasOrder", spec := "aliasOrder", unfollowed := true, recurses := true, apart := false }
def AliasOrderSaid : Prop := aliasOrderRow.holds Try.pinned (OpenSpec.ofChange aliasOrderSpec)

/-- ITS FALSE NEIGHBOUR: 'it returns false'. Refute it at one input. -/
def aliasOrderWrong : ChangeSpec := { name := "aliasOrder", fn := fun _ => fun
  | [d1, d2, d3] => { results := [.lit (.bool false)], args := [d1, d2, d3] }
  | _ => none }
def AliasOrderWrongFalsely : Prop := aliasOrderRow.holds Try.pinned (OpenSpec.ofChange aliasOrderWrong)

/-- 'wainscotlaw20.AliasRoom': WHATEVER THE INPUT: true; the input reads as it did. -/
def aliasRoomSpec : ChangeSpec := { name := "aliasRoom", fn := fun _ => fun
  | [d1, d2] => { results := [.lit (.bool true)], args := [d1, d2] }
  | _ => none }
def aliasRoomRow : OpenClaim := { program := "ytmmfghialjmgmaa", sum := "865ce4ae37fd18f344d0f43f1b0846e77cbd9dda83b472a316642850f61db29c", func := "wainscot/wainscotlaw20.AliasRoom", spec := "aliasRoom", unfollowed := true, recurses := true, apart := false }
def AliasRoomSaid : Prop := aliasRoomRow.holds Try.pinned (OpenSpec.ofChange aliasRoomSpec)

/-- ITS FALSE NEIGHBOUR: 'it returns false'. Refute it at one input. -/
def aliasRoomWrong : ChangeSpec := { name := "aliasRoom", fn := fun _ => fun
  | [d1, d2] => { results := [.lit (.bool false)], args := [d1, d2] }
  | _ => none }
def AliasRoomWrongFalsely : Prop := aliasRoomRow.holds Try.pinned (OpenSpec.ofChange aliasRoomWrong)

/-- 'wainscotlaw20.AliasFirst': WHATEVER THE INPUT: true; the input reads as it did. -/
def aliasFirstSpec : ChangeSpec := { name := "aliasFirst", fn := fun _ => fun
  | [d1, d2] => { results := [.lit (.bool true)], args := [d1, d2] }
  | _ => none }
def aliasFirstRow : OpenClaim := { program := "ytmmfghialjmgmaa", sum := "865ce4ae37fd18f344d0f43f1b0846e77cbd9dda83b472a316642850f61db29c", func := "wainscot/wainscotlaw20.AliasFirst", spec := "aliasFirst", unfollowed := true, recurses := true, apart := false }
def AliasFirstSaid : Prop := aliasFirstRow.holds Try.pinned (OpenSpec.ofChange aliasFirstSpec)

/-- ITS FALSE NEIGHBOUR: 'it returns false'. Refute it at one input. -/
def aliasFirstWrong : ChangeSpec := { name := "aliasFirst", fn := fun _ => fun
  | [d1, d2] => { results := [.lit (.bool false)], args := [d1, d2] }
  | _ => none }
def AliasFirstWrongFalsely : Prop := aliasFirstRow.holds Try.pinned (OpenSpec.ofChange aliasFirstWrong)

/-- 'wainscotlaw20.AliasKnown': WHATEVER THE INPUT: true; the input reads as it did. -/
def aliasKnownSpec : ChangeSpec := { name := "aliasKnown", fn := fun _ => fun
  | [] => { results := [.lit (.bool true)], args := [] }
  | _ => none }
def aliasKnownRow : OpenClaim := { program := "ytmmfghialjmgmaa", sum := "865ce4ae37fd18f344d0f43f1b0846e77cbd9dda83b472a316642850f61db29c", func := "wainscot/wainscotlaw20.AliasKnown", spec := "aliasKnown", unfollowed := true, recurses := true, apart := false }
def AliasKnownSaid : Prop := aliasKnownRow.holds Try.pinned (OpenSpec.ofChange aliasKnownSpec)

/-- ITS FALSE NEIGHBOUR: 'it returns false'. Refute it at one input. -/
def aliasKnownWrong : ChangeSpec := { name := "aliasKnown", fn := fun _ => fun
  | [] => { results := [.lit (.bool false)], args := [] }
  | _ => none }
def AliasKnownWrongFalsely : Prop := aliasKnownRow.holds Try.pinned (OpenSpec.ofChange aliasKnownWrong)

/- THE SECOND FORM. 'bulk': how many values and letters a reading holds, each counted each time it is reached (what is shared counts as often as it is met; a slice's spare places count too). A statement '..UptoSaid' is the law's where the arguments, and the package variables that the reading takes, are together of bulk at most 1048576: NARROWER than '..Said'. Prove '..Said' where nothing that the law and all that it calls make is longer than what came in: it says more and counts as full. Else prove '..UptoSaid'. A law counts once. -/
mutual
def uptoBulk {H : Type} : DataW H → Nat
  | .lit (.string bytes) => bytes.length + 1
  | .lit _ => 1
  | .nil => 1
  | .ptr d => uptoBulk d + 1
  | .slice elems spare => uptoBulkAll elems + uptoBulkAll spare + 1
  | .agg parts => uptoBulkAll parts + 1
  | .iface _ d => uptoBulk d + 1
  | .map entries => uptoBulkEntries entries + 1
  | .held _ => 1
def uptoBulkAll {H : Type} : List (DataW H) → Nat
  | [] => 0
  | d :: r => uptoBulk d + uptoBulkAll r
def uptoBulkEntries {H : Type} : List (Lit × DataW H) → Nat
  | [] => 0
  | x :: r => uptoBulkEntry x + uptoBulkEntries r
def uptoBulkEntry {H : Type} : Lit × DataW H → Nat
  | (.string bytes, d) => bytes.length + uptoBulk d + 1
  | (_, d) => uptoBulk d + 1
 end
def uptoSmall : (H : Type) → List (DataW H) → Bool := fun _ ds => decide (uptoBulkAll ds ≤ 1048576)
def OpenSpec.upto (s : _root_.Go.ChangeSpec) : _root_.Go.OpenSpec := { _root_.Go.OpenSpec.ofChange s with cond := some uptoSmall }

/-- 'wainscotlaw20.AliasAnswers', WHERE WHAT IT READS IS OF BULK AT MOST 1048576: true; the input reads as it did. -/
def aliasAnswersUptoRow : OpenClaim := { program := "ytmmfghialjmgmaa", sum := "865ce4ae37fd18f344d0f43f1b0846e77cbd9dda83b472a316642850f61db29c", func := "wainscot/wainscotlaw20.AliasAnswers", spec := "aliasAnswers", unfollowed := true, recurses := true, apart := false, narrowed := true }
def AliasAnswersUptoSaid : Prop := aliasAnswersUptoRow.holds Try.pinned (OpenSpec.upto aliasAnswersSpec)

/-- 'wainscotlaw20.AliasFinds', WHERE WHAT IT READS IS OF BULK AT MOST 1048576: true; the input reads as it did. -/
def aliasFindsUptoRow : OpenClaim := { program := "ytmmfghialjmgmaa", sum := "865ce4ae37fd18f344d0f43f1b0846e77cbd9dda83b472a316642850f61db29c", func := "wainscot/wainscotlaw20.AliasFinds", spec := "aliasFinds", unfollowed := true, recurses := true, apart := false, narrowed := true }
def AliasFindsUptoSaid : Prop := aliasFindsUptoRow.holds Try.pinned (OpenSpec.upto aliasFindsSpec)

/-- 'wainscotlaw20.AliasOrder', WHERE WHAT IT READS IS OF BULK AT MOST 1048576: true; the input reads as it did. -/
def aliasOrderUptoRow : OpenClaim := { program := "ytmmfghialjmgmaa", sum := "865ce4ae37fd18f344d0f43f1b0846e77cbd9dda83b472a316642850f61db29c", func := "wainscot/wainscotlaw20.AliasOrder", spec := "aliasOrder", unfollowed := true, recurses := true, apart := false, narrowed := true }
def AliasOrderUptoSaid : Prop := aliasOrderUptoRow.holds Try.pinned (OpenSpec.upto aliasOrderSpec)

/-- 'wainscotlaw20.AliasRoom', WHERE WHAT IT READS IS OF BULK AT MOST 1048576: true; the input reads as it did. -/
def aliasRoomUptoRow : OpenClaim := { program := "ytmmfghialjmgmaa", sum := "865ce4ae37fd18f344d0f43f1b0846e77cbd9dda83b472a316642850f61db29c", func := "wainscot/wainscotlaw20.AliasRoom", spec := "aliasRoom", unfollowed := true, recurses := true, apart := false, narrowed := true }
def AliasRoomUptoSaid : Prop := aliasRoomUptoRow.holds Try.pinned (OpenSpec.upto aliasRoomSpec)

/-- 'wainscotlaw20.AliasFirst', WHERE WHAT IT READS IS OF BULK AT MOST 1048576: true; the input reads as it did. -/
def aliasFirstUptoRow : OpenClaim := { program := "ytmmfghialjmgmaa", sum := "865ce4ae37fd18f344d0f43f1b0846e77cbd9dda83b472a316642850f61db29c", func := "wainscot/wainscotlaw20.AliasFirst", spec := "aliasFirst", unfollowed := true, recurses := true, apart := false, narrowed := true }
def AliasFirstUptoSaid : Prop := aliasFirstUptoRow.holds Try.pinned (OpenSpec.upto aliasFirstSpec)

/-- 'wainscotlaw20.AliasKnown', WHERE WHAT IT READS IS OF BULK AT MOST 1048576: true; the input reads as it did. -/
def aliasKnownUptoRow : OpenClaim := { program := "ytmmfghialjmgmaa", sum := "865ce4ae37fd18f344d0f43f1b0846e77cbd9dda83b472a316642850f61db29c", func := "wainscot/wainscotlaw20.AliasKnown", spec := "aliasKnown", unfollowed := true, recurses := true, apart := false, narrowed := true }
def AliasKnownUptoSaid : Prop := aliasKnownUptoRow.holds Try.pinned (OpenSpec.upto aliasKnownSpec)

end Rows
end Go.Proofs.Ytmmfghialjmgmaa
