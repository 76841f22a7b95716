/-
  No cell of these rows narrows 'for every input' (looked for: loops, veiled, ifaces, maps, wideKeys, modest, calm, conditions, laid).
  DERIVED. THE GIVEN ROWS OF THIS SEAT. 5 by the template 'for every input the law returns true; each argument reads behind the call as it read before'; 0 by the template 'total and deterministic' (their statements: YtfhbfjlbflkbhaaTotals.lean).
  GIVEN WITH THE SEED: the statements are not yours to turn. If you find one false, say at which input.
  Laid BY PROGRAM, IN A SANDBOX (cutbox-rows.mjs): the forced cells as the released guide's own fill.sh prints them over the translation 41ec3fec983d2734… (all of the seat's roots in one cut). By AI agents, Wed Nov 11 2026. No macro, syntax, notation, axiom, sorry.
-/
import Derived.Test.YtfhbfjlbflkbhaaChecked
import GoSem.Claim
import GoSem.ClaimJoined
import GoSem.ClaimMapViews
import Derived.JoinedTies
import Derived.KernelRfl
namespace Go.Proofs.Ytfhbfjlbflkbhaa
/- THE CELL 'sum', in the pinned program and in every row, IS THE sha256 OF THE DUMP (.gsa) THAT YtfhbfjlbflkbhaaProg.lean LOADS. Nothing in Lean hashes anything: it is a label: what it is worth is what the hold of that sum in a sandbox is worth. -/
noncomputable def Try.pinned : Pinned := { name := "ytfhbfjlbflkbhaa", sum := "41ec3fec983d27347c0913b24e5d341c9a625c8e463a9d9f0f2dbe0dc858f70d", checked := Try.checked }
namespace Rows
def none {H : Type} : Left H := { results := [], args := [] }

/-- 'wainscotlaw03.MemAdds': WHATEVER THE INPUT: true; the input reads as it did. -/
def memAddsSpec : ChangeSpec := { name := "memAdds", fn := fun _ => fun
  | [d1, d2] => { results := [.lit (.bool true)], args := [d1, d2] }
  | _ => none }
def memAddsRow : OpenClaim := { program := "ytfhbfjlbflkbhaa", sum := "41ec3fec983d27347c0913b24e5d341c9a625c8e463a9d9f0f2dbe0dc858f70d", func := "wainscot/wainscotlaw03.MemAdds", spec := "memAdds", unfollowed := true, recurses := true, apart := false }
def MemAddsSaid : Prop := memAddsRow.holds Try.pinned (OpenSpec.ofChange memAddsSpec)

/-- ITS FALSE NEIGHBOUR: 'it returns false'. Refute it at one input. -/
def memAddsWrong : ChangeSpec := { name := "memAdds", fn := fun _ => fun
  | [d1, d2] => { results := [.lit (.bool false)], args := [d1, d2] }
  | _ => none }
def MemAddsWrongFalsely : Prop := memAddsRow.holds Try.pinned (OpenSpec.ofChange memAddsWrong)

/-- 'wainscotlaw03.MemOne': WHATEVER THE INPUT: true; the input reads as it did. -/
def memOneSpec : ChangeSpec := { name := "memOne", fn := fun _ => fun
  | [d1, d2, d3] => { results := [.lit (.bool true)], args := [d1, d2, d3] }
  | _ => none }
def memOneRow : OpenClaim := { program := "ytfhbfjlbflkbhaa", sum := "41ec3fec983d27347c0913b24e5d341c9a625c8e463a9d9f0f2dbe0dc858f70d", func := "wainscot/wainscotlaw03.MemOne", spec := "memOne", unfollowed := true, recurses := true, apart := false }
def MemOneSaid : Prop := memOneRow.holds Try.pinned (OpenSpec.ofChange memOneSpec)

/-- ITS FALSE NEIGHBOUR: 'it returns false'. Refute it at one input. -/
def memOneWrong : ChangeSpec := { name := "memOne", fn := fun _ => fun
  | [d1, d2, d3] => { results := [.lit (.bool false)], args := [d1, d2, d3] }
  | _ => none }
def MemOneWrongFalsely : Prop := memOneRow.holds Try.pinned (OpenSpec.ofChange memOneWrong)

/-- 'wainscotlaw03.MemOthers': WHATEVER THE INPUT: true; the input reads as it did. -/
def memOthersSpec : ChangeSpec := { name := "memOthers", fn := fun _ => fun
  | [d1, d2] => { results := [.lit (.bool true)], args := [d1, d2] }
  | _ => none }
def memOthersRow : OpenClaim := { program := "ytfhbfjlbflkbhaa", sum := "41ec3fec983d27347c0913b24e5d341c9a625c8e463a9d9f0f2dbe0dc858f70d", func := "wainscot/wainscotlaw03.MemOthers", spec := "memOthers", unfollowed := true, recurses := true, apart := false }
def MemOthersSaid : Prop := memOthersRow.holds Try.pinned (OpenSpec.ofChange memOthersSpec)

/-- ITS FALSE NEIGHBOUR: 'it returns false'. Refute it at one input. -/
def memOthersWrong : ChangeSpec := { name := "memOthers", fn := fun _ => fun
  | [d1, d2] => { results := [.lit (.bool false)], args := [d1, d2] }
  | _ => none }
def MemOthersWrongFalsely : Prop := memOthersRow.holds Try.pinned (OpenSpec.ofChange memOthersWrong)

/-- 'wainscotlaw03.MemPlays': WHATEVER THE INPUT: true; the input reads as it did. -/
def memPlaysSpec : ChangeSpec := { name := "memPlays", fn := fun _ => fun
  | [d1, d2] => { results := [.lit (.bool true)], args := [d1, d2] }
  | _ => none }
def memPlaysRow : OpenClaim := { program := "ytfhbfjlbflkbhaa", sum := "41ec3fec983d27347c0913b24e5d341c9a625c8e463a9d9f0f2dbe0dc858f70d", func := "wainscot/wainscotlaw03.MemPlays", spec := "memPlays", unfollowed := true, recurses := true, apart := false }
def MemPlaysSaid : Prop := memPlaysRow.holds Try.pinned (OpenSpec.ofChange memPlaysSpec)

/-- ITS FALSE NEIGHBOUR: 'it returns false'. Refute it at one input. -/
def memPlaysWrong : ChangeSpec := { name := "memPlays", fn := fun _ => fun
  | [d1, d2] => { results := [.lit (.bool false)], args := [d1, d2] }
  | _ => none }
def MemPlaysWrongFalsely : Prop := memPlaysRow.holds Try.pinned (OpenSpec.ofChange memPlaysWrong)

/-- 'wainscotlaw03.MemNames': WHATEVER THE INPUT: true; the input reads as it did. -/
def memNamesSpec : ChangeSpec := { name := "memNames", fn := fun _ => fun
  | [] => { results := [.lit (.bool true)], args := [] }
  | _ => none }
def memNamesRow : OpenClaim := { program := "ytfhbfjlbflkbhaa", sum := "41ec3fec983d27347c0913b24e5d341c9a625c8e463a9d9f0f2dbe0dc858f70d", func := "wainscot/wainscotlaw03.MemNames", spec := "memNames", unfollowed := true, recurses := true, apart := false }
def MemNamesSaid : Prop := memNamesRow.holds Try.pinned (OpenSpec.ofChange memNamesSpec)

/-- ITS FALSE NEIGHBOUR: 'it returns false'. Refute it at one input. -/
def memNamesWrong : ChangeSpec := { name := "memNames", fn := fun _ => fun
  | [] => { results := [.lit (.bool false)], args := [] }
  | _ => none }
def MemNamesWrongFalsely : Prop := memNamesRow.holds Try.pinned (OpenSpec.ofChange memNamesWrong)

/- THE SECOND FORM. 'bulk': how many values and letters a reading holds, each counted each time it is reached (what is shared counts as often as it is met; a slice's spare places count too). A statement '..UptoSaid' is the law's where the arguments, and the package variables that the reading takes, are together of bulk at most 1048576: NARROWER than '..Said'. Prove '..Said' where nothing that the law and all that it calls make is longer than what came in: it says more and counts as full. Else prove '..UptoSaid'. A law counts once. -/
mutual
def uptoBulk {H : Type} : DataW H → Nat
  | .lit (.string bytes) => bytes.length + 1
  | .lit _ => 1
  | .nil => 1
  | .ptr d => uptoBulk d + 1
  | .slice elems spare => uptoBulkAll elems + uptoBulkAll spare + 1
  | .agg parts => uptoBulkAll parts + 1
  | .iface _ d => uptoBulk d + 1
  | .map entries => uptoBulkEntries entries + 1
  | .held _ => 1
def uptoBulkAll {H : Type} : List (DataW H) → Nat
  | [] => 0
  | d :: r => uptoBulk d + uptoBulkAll r
def uptoBulkEntries {H : Type} : List (Lit × DataW H) → Nat
  | [] => 0
  | x :: r => uptoBulkEntry x + uptoBulkEntries r
def uptoBulkEntry {H : Type} : Lit × DataW H → Nat
  | (.string bytes, d) => bytes.length + uptoBulk d + 1
  | (_, d) => uptoBulk d + 1
 end
def uptoSmall : (H : Type) → List (DataW H) → Bool := fun _ ds => decide (uptoBulkAll ds ≤ 1048576)
def OpenSpec.upto (s : _root_.Go.ChangeSpec) : _root_.Go.OpenSpec := { _root_.Go.OpenSpec.ofChange s with cond := some uptoSmall }

/-- 'wainscotlaw03.MemAdds', WHERE WHAT IT READS IS OF BULK AT MOST 1048576: true; the input reads as it did. -/
def memAddsUptoRow : OpenClaim := { program := "ytfhbfjlbflkbhaa", sum := "41ec3fec983d27347c0913b24e5d341c9a625c8e463a9d9f0f2dbe0dc858f70d", func := "wainscot/wainscotlaw03.MemAdds", spec := "memAdds", unfollowed := true, recurses := true, apart := false, narrowed := true }
def MemAddsUptoSaid : Prop := memAddsUptoRow.holds Try.pinned (OpenSpec.upto memAddsSpec)

/-- 'wainscotlaw03.MemOne', WHERE WHAT IT READS IS OF BULK AT MOST 1048576: true; the input reads as it did. -/
def memOneUptoRow : OpenClaim := { program := "ytfhbfjlbflkbhaa", sum := "41ec3fec983d27347c0913b24e5d341c9a625c8e463a9d9f0f2dbe0dc858f70d", func := "wainscot/wainscotlaw03.MemOne", spec := "memOne", unfollowed := true, recurses := true, apart := false, narrowed := true }
def MemOneUptoSaid : Prop := memOneUptoRow.holds Try.pinned (OpenSpec.upto memOneSpec)

/-- 'wainscotlaw03.MemOthers', WHERE WHAT IT READS IS OF BULK AT MOST 1048576: true; the input reads as it did. -/
def memOthersUptoRow : OpenClaim := { program := "ytfhbfjlbflkbhaa", sum := "41ec3fec983d27347c0913b24e5d341c9a625c8e463a9d9f0f2dbe0dc858f70d", func := "wainscot/wainscotlaw03.MemOthers", spec := "memOthers", unfollowed := true, recurses := true, apart := false, narrowed := true }
def MemOthersUptoSaid : Prop := memOthersUptoRow.holds Try.pinned (OpenSpec.upto memOthersSpec)

/-- 'wainscotlaw03.MemPlays', WHERE WHAT IT READS IS OF BULK AT MOST 1048576: true; the input reads as it did. -/
def memPlaysUptoRow : OpenClaim := { program := "ytfhbfjlbflkbhaa", sum := "41ec3fec983d27347c0913b24e5d341c9a625c8e463a9d9f0f2dbe0dc858f70d", func := "wainscot/wainscotlaw03.MemPlays", spec := "memPlays", unfollowed := true, recurses := true, apart := false, narrowed := true }
def MemPlaysUptoSaid : Prop := memPlaysUptoRow.holds Try.pinned (OpenSpec.upto memPlaysSpec)

/-- 'wainscotlaw03.MemNames', WHERE WHAT IT READS IS OF BULK AT MOST 1048576: true; the input reads as it did. -/
def memNamesUptoRow : OpenClaim := { program := "ytfhbfjlbflkbhaa", sum := "41ec3fec983d27347c0913b24e5d341c9a625c8e463a9d9f0f2dbe0dc858f70d", func := "wainscot/wainscotlaw03.MemNames", spec := "memNames", unfollowed := true, recurses := true, apart := false, narrowed := true }
def MemNamesUptoSaid : Prop := memNamesUptoRow.holds Try.pinned (OpenSpec.upto memNamesSpec)

end Rows
end Go.Proofs.Ytfhbfjlbflkbhaa
