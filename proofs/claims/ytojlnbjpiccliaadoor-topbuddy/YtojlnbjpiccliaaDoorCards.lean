/-
  DERIVED. GIVEN WITH THE SEED: THE CARDS: each row of YtojlnbjpiccliaaDoorRows.lean that lists a variable, with what it lists TIED to the program's text (the seventh form; the later family's looks); each row that meets fmt, with fmt's text TOLD by the authors' own Lean function (tested against real Go, not proved from fmt's source: count such statements apart). THE CARD IS WHAT COUNTS. Prove the row's statement (the work); the ties are given (YtojlnbjpiccliaaDoorTie.lean); close each card by the builder's one call (the guide's Derived/Test/ToyasCard.lean, 'card_holds'). Laid BY PROGRAM, IN A SANDBOX (cutbox-door.mjs). By AI agents, Wed Nov 11 2026. No macro, syntax, notation, axiom, sorry.
-/
import Derived.Test.YtojlnbjpiccliaaDoorRows
import GoSem.ClaimSeven
namespace Go.Proofs.YtojlnbjpiccliaaDoor
namespace Rows

/-- THE TIED CARD OF 'wardroomlaw.BuddySays'. -/
def buddySaysCard : Claim7 := { stood := { row := buddySaysRow, standIns := [], harness := (true, "ac66512312ca885c97695155103f14c42db31c63d162a3c48b504ad91a0ea403"), looks := true }, kinds := [], alts := [], laidByText := true, laidKinds := [.data], laidTests := true, laidLooks := .later }
def BuddySaysCardSaid : Prop := Claim7.holds Tryd.pinned (.plain (OpenSpec.ofChange buddySaysSpec)) buddySaysCard

/-- THE TIED CARD OF 'wardroomtop.TopBuddy'. -/
def topBuddyCard : Claim7 := { stood := { row := topBuddyRow, standIns := [], harness := (true, "ac66512312ca885c97695155103f14c42db31c63d162a3c48b504ad91a0ea403"), looks := true }, kinds := [], alts := [], laidByText := true, laidKinds := [.data], laidTests := true, laidLooks := .later }
def TopBuddyCardSaid : Prop := Claim7.holds Tryd.pinned (.plain (OpenSpec.ofChange topBuddySpec)) topBuddyCard

/-- THE SECOND FORM's CARD OF 'wardroomlaw.BuddySays'. -/
def buddySaysUptoCard : Claim7 := { stood := { row := buddySaysUptoRow, standIns := [], harness := (true, "ac66512312ca885c97695155103f14c42db31c63d162a3c48b504ad91a0ea403"), looks := true }, kinds := [], alts := [], laidByText := true, laidKinds := [.data], laidTests := true, laidLooks := .later }
def BuddySaysUptoCardSaid : Prop := Claim7.holds Tryd.pinned (.plain (OpenSpec.upto buddySaysSpec)) buddySaysUptoCard

/-- THE SECOND FORM's CARD OF 'wardroomtop.TopBuddy'. -/
def topBuddyUptoCard : Claim7 := { stood := { row := topBuddyUptoRow, standIns := [], harness := (true, "ac66512312ca885c97695155103f14c42db31c63d162a3c48b504ad91a0ea403"), looks := true }, kinds := [], alts := [], laidByText := true, laidKinds := [.data], laidTests := true, laidLooks := .later }
def TopBuddyUptoCardSaid : Prop := Claim7.holds Tryd.pinned (.plain (OpenSpec.upto topBuddySpec)) topBuddyUptoCard
end Rows
end Go.Proofs.YtojlnbjpiccliaaDoor
