/-
  DERIVED. GIVEN WITH THE SEED: THE CARDS: each row of YtmklfkjfgjagaaaGreatDoorRows.lean that lists a variable, with what it lists TIED to the program's text (the seventh form; the later family's looks); each row that meets fmt, with fmt's text TOLD by the authors' own Lean function (tested against real Go, not proved from fmt's source: count such statements apart). THE CARD IS WHAT COUNTS. Prove the row's statement (the work); the ties are given (YtmklfkjfgjagaaaGreatDoorTie.lean); close each card by the builder's one call (the guide's Derived/Test/ToyasCard.lean, 'card_holds'). Laid BY PROGRAM, IN A SANDBOX (cutbox-door.mjs). By AI agents, Wed Nov 11 2026. No macro, syntax, notation, axiom, sorry.
-/
import Derived.Test.YtmklfkjfgjagaaaGreatDoorRows
import GoSem.ClaimSeven
namespace Go.Proofs.YtmklfkjfgjagaaaGreatDoor
namespace Rows

/-- THE TIED CARD OF 'wardroomlaw.MountsSays'. -/
def mountsSaysCard : Claim7 := { stood := { row := mountsSaysRow, standIns := [], harness := (true, "9db3fa0a3d1743099404bb5149c05b6506936b27133b4e7dc8f742d4f564327c"), looks := true }, kinds := [], alts := [], laidByText := true, laidKinds := [.data, .pinned], laidTests := true, laidLooks := .later }
def MountsSaysCardSaid : Prop := Claim7.holds Tryz.pinned (.plain (OpenSpec.ofChange mountsSaysSpec)) mountsSaysCard

/-- THE SECOND FORM's CARD OF 'wardroomlaw.MountsSays'. -/
def mountsSaysUptoCard : Claim7 := { stood := { row := mountsSaysUptoRow, standIns := [], harness := (true, "9db3fa0a3d1743099404bb5149c05b6506936b27133b4e7dc8f742d4f564327c"), looks := true }, kinds := [], alts := [], laidByText := true, laidKinds := [.data, .pinned], laidTests := true, laidLooks := .later }
def MountsSaysUptoCardSaid : Prop := Claim7.holds Tryz.pinned (.plain (OpenSpec.upto mountsSaysSpec)) mountsSaysUptoCard
end Rows
end Go.Proofs.YtmklfkjfgjagaaaGreatDoor
