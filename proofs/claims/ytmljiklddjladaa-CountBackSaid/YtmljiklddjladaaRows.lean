/-
  No cell of these rows narrows 'for every input' (looked for: loops, veiled, ifaces, maps, wideKeys, modest, calm, conditions, laid).
  DERIVED. THE GIVEN ROWS OF THIS SEAT. 5 by the template 'for every input the law returns true; each argument reads behind the call as it read before'; 0 by the template 'total and deterministic' (their statements: YtmljiklddjladaaTotals.lean).
  GIVEN WITH THE SEED: the statements are not yours to turn. If you find one false, say at which input.
  Laid BY PROGRAM, IN A SANDBOX (cutbox-rows.mjs): the forced cells as the released guide's own fill.sh prints them over the translation f4f95ccf69d1742e… (all of the seat's roots in one cut). By AI agents, Wed Nov 11 2026. No macro, syntax, notation, axiom, sorry.
-/
import Derived.Test.YtmljiklddjladaaChecked
import GoSem.Claim
import GoSem.ClaimJoined
import GoSem.ClaimMapViews
import Derived.JoinedTies
import Derived.KernelRfl
namespace Go.Proofs.Ytmljiklddjladaa
/- THE CELL 'sum', in the pinned program and in every row, IS THE sha256 OF THE DUMP (.gsa) THAT YtmljiklddjladaaProg.lean LOADS. Nothing in Lean hashes anything: it is a label: what it is worth is what the hold of that sum in a sandbox is worth. -/
noncomputable def Try.pinned : Pinned := { name := "ytmljiklddjladaa", sum := "f4f95ccf69d1742efe7e782032ec49bf638babe291be9e498ea4f42cac74bc3b", checked := Try.checked }
namespace Rows
def none {H : Type} : Left H := { results := [], args := [] }

/-- 'wainscotlaw17.CountPacks': WHATEVER THE INPUT: true; the input reads as it did. -/
def countPacksSpec : ChangeSpec := { name := "countPacks", fn := fun _ => fun
  | [d1, d2] => { results := [.lit (.bool true)], args := [d1, d2] }
  | _ => none }
def countPacksRow : OpenClaim := { program := "ytmljiklddjladaa", sum := "f4f95ccf69d1742efe7e782032ec49bf638babe291be9e498ea4f42cac74bc3b", func := "wainscot/wainscotlaw17.CountPacks", spec := "countPacks", unfollowed := true, recurses := true, apart := false }
def CountPacksSaid : Prop := countPacksRow.holds Try.pinned (OpenSpec.ofChange countPacksSpec)

/-- ITS FALSE NEIGHBOUR: 'it returns false'. Refute it at one input. -/
def countPacksWrong : ChangeSpec := { name := "countPacks", fn := fun _ => fun
  | [d1, d2] => { results := [.lit (.bool false)], args := [d1, d2] }
  | _ => none }
def CountPacksWrongFalsely : Prop := countPacksRow.holds Try.pinned (OpenSpec.ofChange countPacksWrong)

/-- 'wainscotlaw17.CountHeads': WHATEVER THE INPUT: true; the input reads as it did. -/
def countHeadsSpec : ChangeSpec := { name := "countHeads", fn := fun _ => fun
  | [d1, d2, d3] => { results := [.lit (.bool true)], args := [d1, d2, d3] }
  | _ => none }
def countHeadsRow : OpenClaim := { program := "ytmljiklddjladaa", sum := "f4f95ccf69d1742efe7e782032ec49bf638babe291be9e498ea4f42cac74bc3b", func := "wainscot/wainscotlaw17.CountHeads", spec := "countHeads", unfollowed := true, recurses := true, apart := false }
def CountHeadsSaid : Prop := countHeadsRow.holds Try.pinned (OpenSpec.ofChange countHeadsSpec)

/-- ITS FALSE NEIGHBOUR: 'it returns false'. Refute it at one input. -/
def countHeadsWrong : ChangeSpec := { name := "countHeads", fn := fun _ => fun
  | [d1, d2, d3] => { results := [.lit (.bool false)], args := [d1, d2, d3] }
  | _ => none }
def CountHeadsWrongFalsely : Prop := countHeadsRow.holds Try.pinned (OpenSpec.ofChange countHeadsWrong)

/-- 'wainscotlaw17.CountBack': WHATEVER THE INPUT: true; the input reads as it did. -/
def countBackSpec : ChangeSpec := { name := "countBack", fn := fun _ => fun
  | [d1, d2, d3] => { results := [.lit (.bool true)], args := [d1, d2, d3] }
  | _ => none }
def countBackRow : OpenClaim := { program := "ytmljiklddjladaa", sum := "f4f95ccf69d1742efe7e782032ec49bf638babe291be9e498ea4f42cac74bc3b", func := "wainscot/wainscotlaw17.CountBack", spec := "countBack", unfollowed := true, recurses := true, apart := false }
def CountBackSaid : Prop := countBackRow.holds Try.pinned (OpenSpec.ofChange countBackSpec)

/-- ITS FALSE NEIGHBOUR: 'it returns false'. Refute it at one input. -/
def countBackWrong : ChangeSpec := { name := "countBack", fn := fun _ => fun
  | [d1, d2, d3] => { results := [.lit (.bool false)], args := [d1, d2, d3] }
  | _ => none }
def CountBackWrongFalsely : Prop := countBackRow.holds Try.pinned (OpenSpec.ofChange countBackWrong)

/-- 'wainscotlaw17.CountTurns': WHATEVER THE INPUT: true; the input reads as it did. -/
def countTurnsSpec : ChangeSpec := { name := "countTurns", fn := fun _ => fun
  | [d1, d2, d3] => { results := [.lit (.bool true)], args := [d1, d2, d3] }
  | _ => none }
def countTurnsRow : OpenClaim := { program := "ytmljiklddjladaa", sum := "f4f95ccf69d1742efe7e782032ec49bf638babe291be9e498ea4f42cac74bc3b", func := "wainscot/wainscotlaw17.CountTurns", spec := "countTurns", unfollowed := true, recurses := true, apart := false }
def CountTurnsSaid : Prop := countTurnsRow.holds Try.pinned (OpenSpec.ofChange countTurnsSpec)

/-- ITS FALSE NEIGHBOUR: 'it returns false'. Refute it at one input. -/
def countTurnsWrong : ChangeSpec := { name := "countTurns", fn := fun _ => fun
  | [d1, d2, d3] => { results := [.lit (.bool false)], args := [d1, d2, d3] }
  | _ => none }
def CountTurnsWrongFalsely : Prop := countTurnsRow.holds Try.pinned (OpenSpec.ofChange countTurnsWrong)

/-- 'wainscotlaw17.CountNames': WHATEVER THE INPUT: true; the input reads as it did. -/
def countNamesSpec : ChangeSpec := { name := "countNames", fn := fun _ => fun
  | [] => { results := [.lit (.bool true)], args := [] }
  | _ => none }
def countNamesRow : OpenClaim := { program := "ytmljiklddjladaa", sum := "f4f95ccf69d1742efe7e782032ec49bf638babe291be9e498ea4f42cac74bc3b", func := "wainscot/wainscotlaw17.CountNames", spec := "countNames", unfollowed := true, recurses := true, apart := false }
def CountNamesSaid : Prop := countNamesRow.holds Try.pinned (OpenSpec.ofChange countNamesSpec)

/-- ITS FALSE NEIGHBOUR: 'it returns false'. Refute it at one input. -/
def countNamesWrong : ChangeSpec := { name := "countNames", fn := fun _ => fun
  | [] => { results := [.lit (.bool false)], args := [] }
  | _ => none }
def CountNamesWrongFalsely : Prop := countNamesRow.holds Try.pinned (OpenSpec.ofChange countNamesWrong)

/- THE SECOND FORM. 'bulk': how many values and letters a reading holds, each counted each time it is reached (what is shared counts as often as it is met; a slice's spare places count too). A statement '..UptoSaid' is the law's where the arguments, and the package variables that the reading takes, are together of bulk at most 1048576: NARROWER than '..Said'. Prove '..Said' where nothing that the law and all that it calls make is longer than what came in: it says more and counts as full. Else prove '..UptoSaid'. A law counts once. -/
mutual
def uptoBulk {H : Type} : DataW H → Nat
  | .lit (.string bytes) => bytes.length + 1
  | .lit _ => 1
  | .nil => 1
  | .ptr d => uptoBulk d + 1
  | .slice elems spare => uptoBulkAll elems + uptoBulkAll spare + 1
  | .agg parts => uptoBulkAll parts + 1
  | .iface _ d => uptoBulk d + 1
  | .map entries => uptoBulkEntries entries + 1
  | .held _ => 1
def uptoBulkAll {H : Type} : List (DataW H) → Nat
  | [] => 0
  | d :: r => uptoBulk d + uptoBulkAll r
def uptoBulkEntries {H : Type} : List (Lit × DataW H) → Nat
  | [] => 0
  | x :: r => uptoBulkEntry x + uptoBulkEntries r
def uptoBulkEntry {H : Type} : Lit × DataW H → Nat
  | (.string bytes, d) => bytes.length + uptoBulk d + 1
  | (_, d) => uptoBulk d + 1
 end
def uptoSmall : (H : Type) → List (DataW H) → Bool := fun _ ds => decide (uptoBulkAll ds ≤ 1048576)
def OpenSpec.upto (s : _root_.Go.ChangeSpec) : _root_.Go.OpenSpec := { _root_.Go.OpenSpec.ofChange s with cond := some uptoSmall }

/-- 'wainscotlaw17.CountPacks', WHERE WHAT IT READS IS OF BULK AT MOST 1048576: true; the input reads as it did. -/
def countPacksUptoRow : OpenClaim := { program := "ytmljiklddjladaa", sum := "f4f95ccf69d1742efe7e782032ec49bf638babe291be9e498ea4f42cac74bc3b", func := "wainscot/wainscotlaw17.CountPacks", spec := "countPacks", unfollowed := true, recurses := true, apart := false, narrowed := true }
def CountPacksUptoSaid : Prop := countPacksUptoRow.holds Try.pinned (OpenSpec.upto countPacksSpec)

/-- 'wainscotlaw17.CountHeads', WHERE WHAT IT READS IS OF BULK AT MOST 1048576: true; the input reads as it did. -/
def countHeadsUptoRow : OpenClaim := { program := "ytmljiklddjladaa", sum := "f4f95ccf69d1742efe7e782032ec49bf638babe291be9e498ea4f42cac74bc3b", func := "wainscot/wainscotlaw17.CountHeads", spec := "countHeads", unfollowed := true, recurses := true, apart := false, narrowed := true }
def CountHeadsUptoSaid : Prop := countHeadsUptoRow.holds Try.pinned (OpenSpec.upto countHeadsSpec)

/-- 'wainscotlaw17.CountBack', WHERE WHAT IT READS IS OF BULK AT MOST 1048576: true; the input reads as it did. -/
def countBackUptoRow : OpenClaim := { program := "ytmljiklddjladaa", sum := "f4f95ccf69d1742efe7e782032ec49bf638babe291be9e498ea4f42cac74bc3b", func := "wainscot/wainscotlaw17.CountBack", spec := "countBack", unfollowed := true, recurses := true, apart := false, narrowed := true }
def CountBackUptoSaid : Prop := countBackUptoRow.holds Try.pinned (OpenSpec.upto countBackSpec)

/-- 'wainscotlaw17.CountTurns', WHERE WHAT IT READS IS OF BULK AT MOST 1048576: true; the input reads as it did. -/
def countTurnsUptoRow : OpenClaim := { program := "ytmljiklddjladaa", sum := "f4f95ccf69d1742efe7e782032ec49bf638babe291be9e498ea4f42cac74bc3b", func := "wainscot/wainscotlaw17.CountTurns", spec := "countTurns", unfollowed := true, recurses := true, apart := false, narrowed := true }
def CountTurnsUptoSaid : Prop := countTurnsUptoRow.holds Try.pinned (OpenSpec.upto countTurnsSpec)

/-- 'wainscotlaw17.CountNames', WHERE WHAT IT READS IS OF BULK AT MOST 1048576: true; the input reads as it did. -/
def countNamesUptoRow : OpenClaim := { program := "ytmljiklddjladaa", sum := "f4f95ccf69d1742efe7e782032ec49bf638babe291be9e498ea4f42cac74bc3b", func := "wainscot/wainscotlaw17.CountNames", spec := "countNames", unfollowed := true, recurses := true, apart := false, narrowed := true }
def CountNamesUptoSaid : Prop := countNamesUptoRow.holds Try.pinned (OpenSpec.upto countNamesSpec)

end Rows
end Go.Proofs.Ytmljiklddjladaa
