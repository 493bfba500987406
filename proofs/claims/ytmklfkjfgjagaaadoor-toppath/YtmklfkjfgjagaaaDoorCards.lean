/-
  DERIVED. GIVEN WITH THE SEED: THE CARDS: each row of YtmklfkjfgjagaaaDoorRows.lean that lists a variable, with what it lists TIED to the program's text (the seventh form; the later family's looks); each row that meets fmt, with fmt's text TOLD by the authors' own Lean function (tested against real Go, not proved from fmt's source: count such statements apart). THE CARD IS WHAT COUNTS. Prove the row's statement (the work); the ties are given (YtmklfkjfgjagaaaDoorTie.lean); close each card by the builder's one call (the guide's Derived/Test/ToyasCard.lean, 'card_holds'). Laid BY PROGRAM, IN A SANDBOX (cutbox-door.mjs). By AI agents, Wed Nov 11 2026. No macro, syntax, notation, axiom, sorry.
-/
import Derived.Test.YtmklfkjfgjagaaaDoorRows
import GoSem.ClaimSeven
namespace Go.Proofs.YtmklfkjfgjagaaaDoor
namespace Rows

/-- THE TIED CARD OF 'wardroomtop.TopMounts'. -/
def topMountsCard : Claim7 := { stood := { row := topMountsRow, standIns := [], harness := (true, "aee29229ee503e0204520775b68b654cfce988f12e72ec584a8494d6c4686815"), looks := false }, kinds := [], alts := [], laidByText := true, laidKinds := [.data, .pinned], laidTests := true, laidLooks := .later }
def TopMountsCardSaid : Prop := Claim7.holds Tryd.pinned (.plain (OpenSpec.ofChange topMountsSpec)) topMountsCard

/-- THE TIED CARD OF 'wardroomtop.TopPath'. -/
def topPathCard : Claim7 := { stood := { row := topPathRow, standIns := [], harness := (true, "aee29229ee503e0204520775b68b654cfce988f12e72ec584a8494d6c4686815"), looks := false }, kinds := [], alts := [], laidByText := true, laidKinds := [.data, .pinned], laidTests := true, laidLooks := .later }
def TopPathCardSaid : Prop := Claim7.holds Tryd.pinned (.plain (OpenSpec.ofChange topPathSpec)) topPathCard

/-- THE SECOND FORM's CARD OF 'wardroomtop.TopMounts'. -/
def topMountsUptoCard : Claim7 := { stood := { row := topMountsUptoRow, standIns := [], harness := (true, "aee29229ee503e0204520775b68b654cfce988f12e72ec584a8494d6c4686815"), looks := false }, kinds := [], alts := [], laidByText := true, laidKinds := [.data, .pinned], laidTests := true, laidLooks := .later }
def TopMountsUptoCardSaid : Prop := Claim7.holds Tryd.pinned (.plain (OpenSpec.upto topMountsSpec)) topMountsUptoCard

/-- THE SECOND FORM's CARD OF 'wardroomtop.TopPath'. -/
def topPathUptoCard : Claim7 := { stood := { row := topPathUptoRow, standIns := [], harness := (true, "aee29229ee503e0204520775b68b654cfce988f12e72ec584a8494d6c4686815"), looks := false }, kinds := [], alts := [], laidByText := true, laidKinds := [.data, .pinned], laidTests := true, laidLooks := .later }
def TopPathUptoCardSaid : Prop := Claim7.holds Tryd.pinned (.plain (OpenSpec.upto topPathSpec)) topPathUptoCard
end Rows
end Go.Proofs.YtmklfkjfgjagaaaDoor
