/-
  DERIVED. GIVEN WITH THE SEED: THE CARDS: each row of YtmkfmnhbckbfbaaDoorRows.lean that lists a variable, with what it lists TIED to the program's text (the seventh form; the later family's looks); each row that meets fmt, with fmt's text TOLD by the authors' own Lean function (tested against real Go, not proved from fmt's source: count such statements apart). THE CARD IS WHAT COUNTS. Prove the row's statement (the work); the ties are given (YtmkfmnhbckbfbaaDoorTie.lean); close each card by the builder's one call (the guide's Derived/Test/ToyasCard.lean, 'card_holds'). Laid BY PROGRAM, IN A SANDBOX (cutbox-door.mjs). By AI agents, Wed Nov 11 2026. No macro, syntax, notation, axiom, sorry.
-/
import Derived.Test.YtmkfmnhbckbfbaaDoorRows
import GoSem.ClaimSeven
namespace Go.Proofs.YtmkfmnhbckbfbaaDoor
namespace Rows

/-- THE TIED CARD OF 'wardroomlaw.SignalsSays'. -/
def signalsSaysCard : Claim7 := { stood := { row := signalsSaysRow, standIns := [], harness := (true, "0d13adb9eea517268592726f14070fd85d25bb7172bc791d56bffcc39b1c3746"), looks := true }, kinds := [], alts := [], laidByText := true, laidKinds := [.data], laidTests := true, laidLooks := .later }
def SignalsSaysCardSaid : Prop := Claim7.holds Tryd.pinned (.plain (OpenSpec.ofChange signalsSaysSpec)) signalsSaysCard

/-- THE TIED CARD OF 'wardroomlaw.BuddySays'. -/
def buddySaysCard : Claim7 := { stood := { row := buddySaysRow, standIns := [], harness := (true, "0d13adb9eea517268592726f14070fd85d25bb7172bc791d56bffcc39b1c3746"), looks := true }, kinds := [], alts := [], laidByText := true, laidKinds := [.data], laidTests := true, laidLooks := .later }
def BuddySaysCardSaid : Prop := Claim7.holds Tryd.pinned (.plain (OpenSpec.ofChange buddySaysSpec)) buddySaysCard

/-- THE TIED CARD OF 'wardroomlaw.Names'. -/
def namesCard : Claim7 := { stood := { row := namesRow, standIns := [], harness := (true, "0d13adb9eea517268592726f14070fd85d25bb7172bc791d56bffcc39b1c3746"), looks := true }, kinds := [], alts := [], laidByText := true, laidKinds := [.data, .data, .data], laidTests := true, laidLooks := .later }
def NamesCardSaid : Prop := Claim7.holds Tryd.pinned (.plain (OpenSpec.ofChange namesSpec)) namesCard

/-- THE TIED CARD OF 'wardroomlaw.VmSays'. -/
def vmSaysCard : Claim7 := { stood := { row := vmSaysRow, standIns := [], harness := (true, "0d13adb9eea517268592726f14070fd85d25bb7172bc791d56bffcc39b1c3746"), looks := true }, kinds := [], alts := [], laidByText := true, laidKinds := [.data], laidTests := true, laidLooks := .later }
def VmSaysCardSaid : Prop := Claim7.holds Tryd.pinned (.plain (OpenSpec.ofChange vmSaysSpec)) vmSaysCard

/-- THE SECOND FORM's CARD OF 'wardroomlaw.SignalsSays'. -/
def signalsSaysUptoCard : Claim7 := { stood := { row := signalsSaysUptoRow, standIns := [], harness := (true, "0d13adb9eea517268592726f14070fd85d25bb7172bc791d56bffcc39b1c3746"), looks := true }, kinds := [], alts := [], laidByText := true, laidKinds := [.data], laidTests := true, laidLooks := .later }
def SignalsSaysUptoCardSaid : Prop := Claim7.holds Tryd.pinned (.plain (OpenSpec.upto signalsSaysSpec)) signalsSaysUptoCard

/-- THE SECOND FORM's CARD OF 'wardroomlaw.BuddySays'. -/
def buddySaysUptoCard : Claim7 := { stood := { row := buddySaysUptoRow, standIns := [], harness := (true, "0d13adb9eea517268592726f14070fd85d25bb7172bc791d56bffcc39b1c3746"), looks := true }, kinds := [], alts := [], laidByText := true, laidKinds := [.data], laidTests := true, laidLooks := .later }
def BuddySaysUptoCardSaid : Prop := Claim7.holds Tryd.pinned (.plain (OpenSpec.upto buddySaysSpec)) buddySaysUptoCard

/-- THE SECOND FORM's CARD OF 'wardroomlaw.Names'. -/
def namesUptoCard : Claim7 := { stood := { row := namesUptoRow, standIns := [], harness := (true, "0d13adb9eea517268592726f14070fd85d25bb7172bc791d56bffcc39b1c3746"), looks := true }, kinds := [], alts := [], laidByText := true, laidKinds := [.data, .data, .data], laidTests := true, laidLooks := .later }
def NamesUptoCardSaid : Prop := Claim7.holds Tryd.pinned (.plain (OpenSpec.upto namesSpec)) namesUptoCard

/-- THE SECOND FORM's CARD OF 'wardroomlaw.VmSays'. -/
def vmSaysUptoCard : Claim7 := { stood := { row := vmSaysUptoRow, standIns := [], harness := (true, "0d13adb9eea517268592726f14070fd85d25bb7172bc791d56bffcc39b1c3746"), looks := true }, kinds := [], alts := [], laidByText := true, laidKinds := [.data], laidTests := true, laidLooks := .later }
def VmSaysUptoCardSaid : Prop := Claim7.holds Tryd.pinned (.plain (OpenSpec.upto vmSaysSpec)) vmSaysUptoCard
end Rows
end Go.Proofs.YtmkfmnhbckbfbaaDoor
