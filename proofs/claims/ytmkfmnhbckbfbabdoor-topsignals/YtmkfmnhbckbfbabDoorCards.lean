/-
  DERIVED. GIVEN WITH THE SEED: THE CARDS: each row of YtmkfmnhbckbfbabDoorRows.lean that lists a variable, with what it lists TIED to the program's text (the seventh form; the later family's looks); each row that meets fmt, with fmt's text TOLD by the authors' own Lean function (tested against real Go, not proved from fmt's source: count such statements apart). THE CARD IS WHAT COUNTS. Prove the row's statement (the work); the ties are given (YtmkfmnhbckbfbabDoorTie.lean); close each card by the builder's one call (the guide's Derived/Test/ToyasCard.lean, 'card_holds'). Laid BY PROGRAM, IN A SANDBOX (cutbox-door.mjs). By AI agents, Wed Nov 11 2026. No macro, syntax, notation, axiom, sorry.
-/
import Derived.Test.YtmkfmnhbckbfbabDoorRows
import GoSem.ClaimSeven
namespace Go.Proofs.YtmkfmnhbckbfbabDoor
namespace Rows

/-- THE TIED CARD OF 'wardroomtop.TopSignals'. -/
def topSignalsCard : Claim7 := { stood := { row := topSignalsRow, standIns := [], harness := (true, "2617148ab4384dc7db98f27b75082717d330ca3bfa8592aac55b49a373955c2f"), looks := false }, kinds := [], alts := [], laidByText := true, laidKinds := [.data], laidTests := true, laidLooks := .later }
def TopSignalsCardSaid : Prop := Claim7.holds Tryd.pinned (.plain (OpenSpec.ofChange topSignalsSpec)) topSignalsCard

/-- THE TIED CARD OF 'wardroomtop.TopBuddy'. -/
def topBuddyCard : Claim7 := { stood := { row := topBuddyRow, standIns := [], harness := (true, "2617148ab4384dc7db98f27b75082717d330ca3bfa8592aac55b49a373955c2f"), looks := false }, kinds := [], alts := [], laidByText := true, laidKinds := [.data], laidTests := true, laidLooks := .later }
def TopBuddyCardSaid : Prop := Claim7.holds Tryd.pinned (.plain (OpenSpec.ofChange topBuddySpec)) topBuddyCard

/-- THE SECOND FORM's CARD OF 'wardroomtop.TopSignals'. -/
def topSignalsUptoCard : Claim7 := { stood := { row := topSignalsUptoRow, standIns := [], harness := (true, "2617148ab4384dc7db98f27b75082717d330ca3bfa8592aac55b49a373955c2f"), looks := false }, kinds := [], alts := [], laidByText := true, laidKinds := [.data], laidTests := true, laidLooks := .later }
def TopSignalsUptoCardSaid : Prop := Claim7.holds Tryd.pinned (.plain (OpenSpec.upto topSignalsSpec)) topSignalsUptoCard

/-- THE SECOND FORM's CARD OF 'wardroomtop.TopBuddy'. -/
def topBuddyUptoCard : Claim7 := { stood := { row := topBuddyUptoRow, standIns := [], harness := (true, "2617148ab4384dc7db98f27b75082717d330ca3bfa8592aac55b49a373955c2f"), looks := false }, kinds := [], alts := [], laidByText := true, laidKinds := [.data], laidTests := true, laidLooks := .later }
def TopBuddyUptoCardSaid : Prop := Claim7.holds Tryd.pinned (.plain (OpenSpec.upto topBuddySpec)) topBuddyUptoCard
end Rows
end Go.Proofs.YtmkfmnhbckbfbabDoor
