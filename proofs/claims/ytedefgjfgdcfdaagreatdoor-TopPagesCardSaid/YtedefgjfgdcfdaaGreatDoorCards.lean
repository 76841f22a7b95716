/-
  DERIVED. GIVEN WITH THE SEED: THE CARDS: each row of YtedefgjfgdcfdaaGreatDoorRows.lean that lists a variable, with what it lists TIED to the program's text (the seventh form; the later family's looks); each row that meets fmt, with fmt's text TOLD by the authors' own Lean function (tested against real Go, not proved from fmt's source: count such statements apart). THE CARD IS WHAT COUNTS. Prove the row's statement (the work); the ties are given (YtedefgjfgdcfdaaGreatDoorTie.lean); close each card by the builder's one call (the guide's Derived/Test/ToyasCard.lean, 'card_holds'). Laid BY PROGRAM, IN A SANDBOX (cutbox-door.mjs). By AI agents, Wed Nov 11 2026. No macro, syntax, notation, axiom, sorry.
-/
import Derived.Test.YtedefgjfgdcfdaaGreatDoorRows
import GoSem.ClaimSeven
namespace Go.Proofs.YtedefgjfgdcfdaaGreatDoor
namespace Rows

/-- THE TIED CARD OF 'wainscottop.TopPages'. -/
def topPagesCard : Claim7 := { stood := { row := topPagesRow, standIns := [], harness := (true, "00ea2aa033dff6fa4973206a407c315b80949cefc18ad1408566f310dad98169"), looks := true }, kinds := [], alts := [], laidByText := true, laidKinds := [.data], laidTests := true, laidLooks := .later }
def TopPagesCardSaid : Prop := Claim7.holds Tryz.pinned (.plain (OpenSpec.ofChange topPagesSpec)) topPagesCard

/-- THE SECOND FORM's CARD OF 'wainscottop.TopPages'. -/
def topPagesUptoCard : Claim7 := { stood := { row := topPagesUptoRow, standIns := [], harness := (true, "00ea2aa033dff6fa4973206a407c315b80949cefc18ad1408566f310dad98169"), looks := true }, kinds := [], alts := [], laidByText := true, laidKinds := [.data], laidTests := true, laidLooks := .later }
def TopPagesUptoCardSaid : Prop := Claim7.holds Tryz.pinned (.plain (OpenSpec.upto topPagesSpec)) topPagesUptoCard
end Rows
end Go.Proofs.YtedefgjfgdcfdaaGreatDoor
