/-
  DERIVED. GIVEN WITH THE SEED: THE CARDS: each row of YtpnddggohipdnaaDoorRows.lean that lists a variable, with what it lists TIED to the program's text (the seventh form; the later family's looks); each row that meets fmt, with fmt's text TOLD by the authors' own Lean function (tested against real Go, not proved from fmt's source: count such statements apart). THE CARD IS WHAT COUNTS. Prove the row's statement (the work); the ties are given (YtpnddggohipdnaaDoorTie.lean); close each card by the builder's one call (the guide's Derived/Test/ToyasCard.lean, 'card_holds'). Laid BY PROGRAM, IN A SANDBOX (cutbox-door.mjs). By AI agents, Wed Nov 11 2026. No macro, syntax, notation, axiom, sorry.
-/
import Derived.Test.YtpnddggohipdnaaDoorRows
import GoSem.ClaimSeven
namespace Go.Proofs.YtpnddggohipdnaaDoor
namespace Rows

/-- THE TIED CARD OF 'wardroomlaw.VmSays'. -/
def vmSaysCard : Claim7 := { stood := { row := vmSaysRow, standIns := [], harness := (true, "aac7a8ca438fa85079966db8ea7f9c8708f58e652a896640a77eae2fcadf2790"), looks := true }, kinds := [], alts := [], laidByText := true, laidKinds := [.data], laidTests := true, laidLooks := .later }
def VmSaysCardSaid : Prop := Claim7.holds Tryd.pinned (.plain (OpenSpec.ofChange vmSaysSpec)) vmSaysCard

/-- THE TIED CARD OF 'wardroomtop.TopVm'. -/
def topVmCard : Claim7 := { stood := { row := topVmRow, standIns := [], harness := (true, "aac7a8ca438fa85079966db8ea7f9c8708f58e652a896640a77eae2fcadf2790"), looks := true }, kinds := [], alts := [], laidByText := true, laidKinds := [.data], laidTests := true, laidLooks := .later }
def TopVmCardSaid : Prop := Claim7.holds Tryd.pinned (.plain (OpenSpec.ofChange topVmSpec)) topVmCard

/-- THE SECOND FORM's CARD OF 'wardroomlaw.VmSays'. -/
def vmSaysUptoCard : Claim7 := { stood := { row := vmSaysUptoRow, standIns := [], harness := (true, "aac7a8ca438fa85079966db8ea7f9c8708f58e652a896640a77eae2fcadf2790"), looks := true }, kinds := [], alts := [], laidByText := true, laidKinds := [.data], laidTests := true, laidLooks := .later }
def VmSaysUptoCardSaid : Prop := Claim7.holds Tryd.pinned (.plain (OpenSpec.upto vmSaysSpec)) vmSaysUptoCard

/-- THE SECOND FORM's CARD OF 'wardroomtop.TopVm'. -/
def topVmUptoCard : Claim7 := { stood := { row := topVmUptoRow, standIns := [], harness := (true, "aac7a8ca438fa85079966db8ea7f9c8708f58e652a896640a77eae2fcadf2790"), looks := true }, kinds := [], alts := [], laidByText := true, laidKinds := [.data], laidTests := true, laidLooks := .later }
def TopVmUptoCardSaid : Prop := Claim7.holds Tryd.pinned (.plain (OpenSpec.upto topVmSpec)) topVmUptoCard
end Rows
end Go.Proofs.YtpnddggohipdnaaDoor
