/-
  No cell of these rows narrows 'for every input' (looked for: loops, veiled, ifaces, maps, wideKeys, modest, calm, conditions, laid).
  DERIVED. THE GIVEN ROWS OF THIS SEAT. 7 by the template 'for every input the law returns true; each argument reads behind the call as it read before'; 0 by the template 'total and deterministic' (their statements: YtklhlhfplkmpmaaTotals.lean).
  GIVEN WITH THE SEED: the statements are not yours to turn. If you find one false, say at which input.
  Laid BY PROGRAM, IN A SANDBOX (cutbox-rows.mjs): the forced cells as the released guide's own fill.sh prints them over the translation a4b2e88a162f173d… (all of the seat's roots in one cut). By AI agents, Wed Nov 11 2026. No macro, syntax, notation, axiom, sorry.
-/
import Derived.Test.YtklhlhfplkmpmaaChecked
import GoSem.Claim
import GoSem.ClaimJoined
import GoSem.ClaimMapViews
import Derived.JoinedTies
import Derived.KernelRfl
namespace Go.Proofs.Ytklhlhfplkmpmaa
/- THE CELL 'sum', in the pinned program and in every row, IS THE sha256 OF THE DUMP (.gsa) THAT YtklhlhfplkmpmaaProg.lean LOADS. Nothing in Lean hashes anything: it is a label: what it is worth is what the hold of that sum in a sandbox is worth. -/
noncomputable def Try.pinned : Pinned := { name := "ytklhlhfplkmpmaa", sum := "a4b2e88a162f173d2333ad3bd9eac8e412af591d5a1ea7d4b79f0645584b851d", checked := Try.checked }
namespace Rows
def none {H : Type} : Left H := { results := [], args := [] }

/-- 'wainscotlaw16.LinkHides': WHATEVER THE INPUT: true; the input reads as it did. -/
def linkHidesSpec : ChangeSpec := { name := "linkHides", fn := fun _ => fun
  | [d1, d2, d3] => { results := [.lit (.bool true)], args := [d1, d2, d3] }
  | _ => none }
def linkHidesRow : OpenClaim := { program := "ytklhlhfplkmpmaa", sum := "a4b2e88a162f173d2333ad3bd9eac8e412af591d5a1ea7d4b79f0645584b851d", func := "wainscot/wainscotlaw16.LinkHides", spec := "linkHides", apart := false }
def LinkHidesSaid : Prop := linkHidesRow.holds Try.pinned (OpenSpec.ofChange linkHidesSpec)

/-- ITS FALSE NEIGHBOUR: 'it returns false'. Refute it at one input. -/
def linkHidesWrong : ChangeSpec := { name := "linkHides", fn := fun _ => fun
  | [d1, d2, d3] => { results := [.lit (.bool false)], args := [d1, d2, d3] }
  | _ => none }
def LinkHidesWrongFalsely : Prop := linkHidesRow.holds Try.pinned (OpenSpec.ofChange linkHidesWrong)

/-- 'wainscotlaw16.LinkLists': WHATEVER THE INPUT: true; the input reads as it did. -/
def linkListsSpec : ChangeSpec := { name := "linkLists", fn := fun _ => fun
  | [d1, d2, d3] => { results := [.lit (.bool true)], args := [d1, d2, d3] }
  | _ => none }
def linkListsRow : OpenClaim := { program := "ytklhlhfplkmpmaa", sum := "a4b2e88a162f173d2333ad3bd9eac8e412af591d5a1ea7d4b79f0645584b851d", func := "wainscot/wainscotlaw16.LinkLists", spec := "linkLists", apart := false }
def LinkListsSaid : Prop := linkListsRow.holds Try.pinned (OpenSpec.ofChange linkListsSpec)

/-- ITS FALSE NEIGHBOUR: 'it returns false'. Refute it at one input. -/
def linkListsWrong : ChangeSpec := { name := "linkLists", fn := fun _ => fun
  | [d1, d2, d3] => { results := [.lit (.bool false)], args := [d1, d2, d3] }
  | _ => none }
def LinkListsWrongFalsely : Prop := linkListsRow.holds Try.pinned (OpenSpec.ofChange linkListsWrong)

/-- 'wainscotlaw16.LinkFresh': WHATEVER THE INPUT: true; the input reads as it did. -/
def linkFreshSpec : ChangeSpec := { name := "linkFresh", fn := fun _ => fun
  | [d1, d2] => { results := [.lit (.bool true)], args := [d1, d2] }
  | _ => none }
def linkFreshRow : OpenClaim := { program := "ytklhlhfplkmpmaa", sum := "a4b2e88a162f173d2333ad3bd9eac8e412af591d5a1ea7d4b79f0645584b851d", func := "wainscot/wainscotlaw16.LinkFresh", spec := "linkFresh", apart := false }
def LinkFreshSaid : Prop := linkFreshRow.holds Try.pinned (OpenSpec.ofChange linkFreshSpec)

/-- ITS FALSE NEIGHBOUR: 'it returns false'. Refute it at one input. -/
def linkFreshWrong : ChangeSpec := { name := "linkFresh", fn := fun _ => fun
  | [d1, d2] => { results := [.lit (.bool false)], args := [d1, d2] }
  | _ => none }
def LinkFreshWrongFalsely : Prop := linkFreshRow.holds Try.pinned (OpenSpec.ofChange linkFreshWrong)

/-- 'wainscotlaw16.LinkBack': WHATEVER THE INPUT: true; the input reads as it did. -/
def linkBackSpec : ChangeSpec := { name := "linkBack", fn := fun _ => fun
  | [d1, d2, d3] => { results := [.lit (.bool true)], args := [d1, d2, d3] }
  | _ => none }
def linkBackRow : OpenClaim := { program := "ytklhlhfplkmpmaa", sum := "a4b2e88a162f173d2333ad3bd9eac8e412af591d5a1ea7d4b79f0645584b851d", func := "wainscot/wainscotlaw16.LinkBack", spec := "linkBack", apart := false }
def LinkBackSaid : Prop := linkBackRow.holds Try.pinned (OpenSpec.ofChange linkBackSpec)

/-- ITS FALSE NEIGHBOUR: 'it returns false'. Refute it at one input. -/
def linkBackWrong : ChangeSpec := { name := "linkBack", fn := fun _ => fun
  | [d1, d2, d3] => { results := [.lit (.bool false)], args := [d1, d2, d3] }
  | _ => none }
def LinkBackWrongFalsely : Prop := linkBackRow.holds Try.pinned (OpenSpec.ofChange linkBackWrong)

/-- 'wainscotlaw16.LinkOne': WHATEVER THE INPUT: true; the input reads as it did. -/
def linkOneSpec : ChangeSpec := { name := "linkOne", fn := fun _ => fun
  | [d1, d2, d3] => { results := [.lit (.bool true)], args := [d1, d2, d3] }
  | _ => none }
def linkOneRow : OpenClaim := { program := "ytklhlhfplkmpmaa", sum := "a4b2e88a162f173d2333ad3bd9eac8e412af591d5a1ea7d4b79f0645584b851d", func := "wainscot/wainscotlaw16.LinkOne", spec := "linkOne", apart := false }
def LinkOneSaid : Prop := linkOneRow.holds Try.pinned (OpenSpec.ofChange linkOneSpec)

/-- ITS FALSE NEIGHBOUR: 'it returns false'. Refute it at one input. -/
def linkOneWrong : ChangeSpec := { name := "linkOne", fn := fun _ => fun
  | [d1, d2, d3] => { results := [.lit (.bool false)], args := [d1, d2, d3] }
  | _ => none }
def LinkOneWrongFalsely : Prop := linkOneRow.holds Try.pinned (OpenSpec.ofChange linkOneWrong)

/-- 'wainscotlaw16.LinkAll': WHATEVER THE INPUT: true; the input reads as it did. -/
def linkAllSpec : ChangeSpec := { name := "linkAll", fn := fun _ => fun
  | [d1, d2] => { results := [.lit (.bool true)], args := [d1, d2] }
  | _ => none }
def linkAllRow : OpenClaim := { program := "ytklhlhfplkmpmaa", sum := "a4b2e88a162f173d2333ad3bd9eac8e412af591d5a1ea7d4b79f0645584b851d", func := "wainscot/wainscotlaw16.LinkAll", spec := "linkAll", apart := false }
def LinkAllSaid : Prop := linkAllRow.holds Try.pinned (OpenSpec.ofChange linkAllSpec)

/-- ITS FALSE NEIGHBOUR: 'it returns false'. Refute it at one input. -/
def linkAllWrong : ChangeSpec := { name := "linkAll", fn := fun _ => fun
  | [d1, d2] => { results := [.lit (.bool false)], args := [d1, d2] }
  | _ => none }
def LinkAllWrongFalsely : Prop := linkAllRow.holds Try.pinned (OpenSpec.ofChange linkAllWrong)

/-- 'wainscotlaw16.LinkNames': WHATEVER THE INPUT: true; the input reads as it did. -/
def linkNamesSpec : ChangeSpec := { name := "linkNames", fn := fun _ => fun
  | [] => { results := [.lit (.bool true)], args := [] }
  | _ => none }
def linkNamesRow : OpenClaim := { program := "ytklhlhfplkmpmaa", sum := "a4b2e88a162f173d2333ad3bd9eac8e412af591d5a1ea7d4b79f0645584b851d", func := "wainscot/wainscotlaw16.LinkNames", spec := "linkNames", apart := false }
def LinkNamesSaid : Prop := linkNamesRow.holds Try.pinned (OpenSpec.ofChange linkNamesSpec)

/-- ITS FALSE NEIGHBOUR: 'it returns false'. Refute it at one input. -/
def linkNamesWrong : ChangeSpec := { name := "linkNames", fn := fun _ => fun
  | [] => { results := [.lit (.bool false)], args := [] }
  | _ => none }
def LinkNamesWrongFalsely : Prop := linkNamesRow.holds Try.pinned (OpenSpec.ofChange linkNamesWrong)

/- THE SECOND FORM. 'bulk': how many values and letters a reading holds, each counted each time it is reached (what is shared counts as often as it is met; a slice's spare places count too). A statement '..UptoSaid' is the law's where the arguments, and the package variables that the reading takes, are together of bulk at most 1048576: NARROWER than '..Said'. Prove '..Said' where nothing that the law and all that it calls make is longer than what came in: it says more and counts as full. Else prove '..UptoSaid'. A law counts once. -/
mutual
def uptoBulk {H : Type} : DataW H → Nat
  | .lit (.string bytes) => bytes.length + 1
  | .lit _ => 1
  | .nil => 1
  | .ptr d => uptoBulk d + 1
  | .slice elems spare => uptoBulkAll elems + uptoBulkAll spare + 1
  | .agg parts => uptoBulkAll parts + 1
  | .iface _ d => uptoBulk d + 1
  | .map entries => uptoBulkEntries entries + 1
  | .held _ => 1
def uptoBulkAll {H : Type} : List (DataW H) → Nat
  | [] => 0
  | d :: r => uptoBulk d + uptoBulkAll r
def uptoBulkEntries {H : Type} : List (Lit × DataW H) → Nat
  | [] => 0
  | x :: r => uptoBulkEntry x + uptoBulkEntries r
def uptoBulkEntry {H : Type} : Lit × DataW H → Nat
  | (.string bytes, d) => bytes.length + uptoBulk d + 1
  | (_, d) => uptoBulk d + 1
 end
def uptoSmall : (H : Type) → List (DataW H) → Bool := fun _ ds => decide (uptoBulkAll ds ≤ 1048576)
def OpenSpec.upto (s : _root_.Go.ChangeSpec) : _root_.Go.OpenSpec := { _root_.Go.OpenSpec.ofChange s with cond := some uptoSmall }

/-- 'wainscotlaw16.LinkHides', WHERE WHAT IT READS IS OF BULK AT MOST 1048576: true; the input reads as it did. -/
def linkHidesUptoRow : OpenClaim := { program := "ytklhlhfplkmpmaa", sum := "a4b2e88a162f173d2333ad3bd9eac8e412af591d5a1ea7d4b79f0645584b851d", func := "wainscot/wainscotlaw16.LinkHides", spec := "linkHides", apart := false, narrowed := true }
def LinkHidesUptoSaid : Prop := linkHidesUptoRow.holds Try.pinned (OpenSpec.upto linkHidesSpec)

/-- 'wainscotlaw16.LinkLists', WHERE WHAT IT READS IS OF BULK AT MOST 1048576: true; the input reads as it did. -/
def linkListsUptoRow : OpenClaim := { program := "ytklhlhfplkmpmaa", sum := "a4b2e88a162f173d2333ad3bd9eac8e412af591d5a1ea7d4b79f0645584b851d", func := "wainscot/wainscotlaw16.LinkLists", spec := "linkLists", apart := false, narrowed := true }
def LinkListsUptoSaid : Prop := linkListsUptoRow.holds Try.pinned (OpenSpec.upto linkListsSpec)

/-- 'wainscotlaw16.LinkFresh', WHERE WHAT IT READS IS OF BULK AT MOST 1048576: true; the input reads as it did. -/
def linkFreshUptoRow : OpenClaim := { program := "ytklhlhfplkmpmaa", sum := "a4b2e88a162f173d2333ad3bd9eac8e412af591d5a1ea7d4b79f0645584b851d", func := "wainscot/wainscotlaw16.LinkFresh", spec := "linkFresh", apart := false, narrowed := true }
def LinkFreshUptoSaid : Prop := linkFreshUptoRow.holds Try.pinned (OpenSpec.upto linkFreshSpec)

/-- 'wainscotlaw16.LinkBack', WHERE WHAT IT READS IS OF BULK AT MOST 1048576: true; the input reads as it did. -/
def linkBackUptoRow : OpenClaim := { program := "ytklhlhfplkmpmaa", sum := "a4b2e88a162f173d2333ad3bd9eac8e412af591d5a1ea7d4b79f0645584b851d", func := "wainscot/wainscotlaw16.LinkBack", spec := "linkBack", apart := false, narrowed := true }
def LinkBackUptoSaid : Prop := linkBackUptoRow.holds Try.pinned (OpenSpec.upto linkBackSpec)

/-- 'wainscotlaw16.LinkOne', WHERE WHAT IT READS IS OF BULK AT MOST 1048576: true; the input reads as it did. -/
def linkOneUptoRow : OpenClaim := { program := "ytklhlhfplkmpmaa", sum := "a4b2e88a162f173d2333ad3bd9eac8e412af591d5a1ea7d4b79f0645584b851d", func := "wainscot/wainscotlaw16.LinkOne", spec := "linkOne", apart := false, narrowed := true }
def LinkOneUptoSaid : Prop := linkOneUptoRow.holds Try.pinned (OpenSpec.upto linkOneSpec)

/-- 'wainscotlaw16.LinkAll', WHERE WHAT IT READS IS OF BULK AT MOST 1048576: true; the input reads as it did. -/
def linkAllUptoRow : OpenClaim := { program := "ytklhlhfplkmpmaa", sum := "a4b2e88a162f173d2333ad3bd9eac8e412af591d5a1ea7d4b79f0645584b851d", func := "wainscot/wainscotlaw16.LinkAll", spec := "linkAll", apart := false, narrowed := true }
def LinkAllUptoSaid : Prop := linkAllUptoRow.holds Try.pinned (OpenSpec.upto linkAllSpec)

/-- 'wainscotlaw16.LinkNames', WHERE WHAT IT READS IS OF BULK AT MOST 1048576: true; the input reads as it did. -/
def linkNamesUptoRow : OpenClaim := { program := "ytklhlhfplkmpmaa", sum := "a4b2e88a162f173d2333ad3bd9eac8e412af591d5a1ea7d4b79f0645584b851d", func := "wainscot/wainscotlaw16.LinkNames", spec := "linkNames", apart := false, narrowed := true }
def LinkNamesUptoSaid : Prop := linkNamesUptoRow.holds Try.pinned (OpenSpec.upto linkNamesSpec)

end Rows
end Go.Proofs.Ytklhlhfplkmpmaa
