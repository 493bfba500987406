/-
  DERIVED. GIVEN WITH THE SEED: THE CARDS: each row of YthdinakloheinaaGreatDoorRows.lean that lists a variable, with what it lists TIED to the program's text (the seventh form; the later family's looks); each row that meets fmt, with fmt's text TOLD by the authors' own Lean function (tested against real Go, not proved from fmt's source: count such statements apart). THE CARD IS WHAT COUNTS. Prove the row's statement (the work); the ties are given (YthdinakloheinaaGreatDoorTie.lean); close each card by the builder's one call (the guide's Derived/Test/ToyasCard.lean, 'card_holds'). Laid BY PROGRAM, IN A SANDBOX (cutbox-door.mjs). By AI agents, Wed Nov 11 2026. No macro, syntax, notation, axiom, sorry.
-/
import Derived.Test.YthdinakloheinaaGreatDoorRows
import GoSem.ClaimSeven
namespace Go.Proofs.YthdinakloheinaaGreatDoor
namespace Rows

/-- THE TIED CARD OF 'wardroomtop.TopKids'. -/
def topKidsCard : Claim7 := { stood := { row := topKidsRow, standIns := [], harness := (true, "ef395816b20ad1c38b343b29e679544d90ec8b4129be408c3ea583cfabeb52f1"), looks := true }, kinds := [], alts := [], laidByText := true, laidKinds := [.data], laidTests := true, laidLooks := .later }
def TopKidsCardSaid : Prop := Claim7.holds Tryz.pinned (.plain (OpenSpec.ofChange topKidsSpec)) topKidsCard

/-- THE TIED CARD OF 'wardroomtop.TopTalk'. -/
def topTalkCard : Claim7 := { stood := { row := topTalkRow, standIns := [], harness := (true, "ef395816b20ad1c38b343b29e679544d90ec8b4129be408c3ea583cfabeb52f1"), looks := true }, kinds := [], alts := [], laidByText := true, laidKinds := [.data], laidTests := true, laidLooks := .later }
def TopTalkCardSaid : Prop := Claim7.holds Tryz.pinned (.plain (OpenSpec.ofChange topTalkSpec)) topTalkCard

/-- THE TIED CARD OF 'wardroomtop.TopBroken'. -/
def topBrokenCard : Claim7 := { stood := { row := topBrokenRow, standIns := [], harness := (true, "ef395816b20ad1c38b343b29e679544d90ec8b4129be408c3ea583cfabeb52f1"), looks := true }, kinds := [], alts := [], laidByText := true, laidKinds := [.data], laidTests := true, laidLooks := .later }
def TopBrokenCardSaid : Prop := Claim7.holds Tryz.pinned (.plain (OpenSpec.ofChange topBrokenSpec)) topBrokenCard

/-- THE TIED CARD OF 'wardroomtop.TopOwn'. -/
def topOwnCard : Claim7 := { stood := { row := topOwnRow, standIns := [], harness := (true, "ef395816b20ad1c38b343b29e679544d90ec8b4129be408c3ea583cfabeb52f1"), looks := true }, kinds := [], alts := [], laidByText := true, laidKinds := [.data, .data, .data, .pinned], laidTests := true, laidLooks := .later }
def TopOwnCardSaid : Prop := Claim7.holds Tryz.pinned (.plain (OpenSpec.ofChange topOwnSpec)) topOwnCard

/-- THE TIED CARD OF 'wardroomtop.TopHead'. -/
def topHeadCard : Claim7 := { stood := { row := topHeadRow, standIns := [], harness := (true, "ef395816b20ad1c38b343b29e679544d90ec8b4129be408c3ea583cfabeb52f1"), looks := true }, kinds := [], alts := [], laidByText := true, laidKinds := [.data, .data, .data, .pinned], laidTests := true, laidLooks := .later }
def TopHeadCardSaid : Prop := Claim7.holds Tryz.pinned (.plain (OpenSpec.ofChange topHeadSpec)) topHeadCard

/-- THE TIED CARD OF 'wardroomtop.TopSee'. -/
def topSeeCard : Claim7 := { stood := { row := topSeeRow, standIns := [], harness := (true, "ef395816b20ad1c38b343b29e679544d90ec8b4129be408c3ea583cfabeb52f1"), looks := true }, kinds := [], alts := [], laidByText := true, laidKinds := [.data, .data, .data, .pinned], laidTests := true, laidLooks := .later }
def TopSeeCardSaid : Prop := Claim7.holds Tryz.pinned (.plain (OpenSpec.ofChange topSeeSpec)) topSeeCard

/-- THE TIED CARD OF 'wardroomtop.TopLimits'. -/
def topLimitsCard : Claim7 := { stood := { row := topLimitsRow, standIns := [], harness := (true, "ef395816b20ad1c38b343b29e679544d90ec8b4129be408c3ea583cfabeb52f1"), looks := true }, kinds := [], alts := [], laidByText := true, laidKinds := [.data, .data, .data, .pinned], laidTests := true, laidLooks := .later }
def TopLimitsCardSaid : Prop := Claim7.holds Tryz.pinned (.plain (OpenSpec.ofChange topLimitsSpec)) topLimitsCard

/-- THE TIED CARD OF 'wardroomtop.TopAlone'. -/
def topAloneCard : Claim7 := { stood := { row := topAloneRow, standIns := [], harness := (true, "ef395816b20ad1c38b343b29e679544d90ec8b4129be408c3ea583cfabeb52f1"), looks := true }, kinds := [], alts := [], laidByText := true, laidKinds := [.data, .data, .data, .pinned], laidTests := true, laidLooks := .later }
def TopAloneCardSaid : Prop := Claim7.holds Tryz.pinned (.plain (OpenSpec.ofChange topAloneSpec)) topAloneCard

/-- THE TIED CARD OF 'wardroomtop.TopGone'. -/
def topGoneCard : Claim7 := { stood := { row := topGoneRow, standIns := [], harness := (true, "ef395816b20ad1c38b343b29e679544d90ec8b4129be408c3ea583cfabeb52f1"), looks := true }, kinds := [], alts := [], laidByText := true, laidKinds := [.data, .data, .data, .pinned], laidTests := true, laidLooks := .later }
def TopGoneCardSaid : Prop := Claim7.holds Tryz.pinned (.plain (OpenSpec.ofChange topGoneSpec)) topGoneCard

/-- THE SECOND FORM's CARD OF 'wardroomtop.TopKids'. -/
def topKidsUptoCard : Claim7 := { stood := { row := topKidsUptoRow, standIns := [], harness := (true, "ef395816b20ad1c38b343b29e679544d90ec8b4129be408c3ea583cfabeb52f1"), looks := true }, kinds := [], alts := [], laidByText := true, laidKinds := [.data], laidTests := true, laidLooks := .later }
def TopKidsUptoCardSaid : Prop := Claim7.holds Tryz.pinned (.plain (OpenSpec.upto topKidsSpec)) topKidsUptoCard

/-- THE SECOND FORM's CARD OF 'wardroomtop.TopTalk'. -/
def topTalkUptoCard : Claim7 := { stood := { row := topTalkUptoRow, standIns := [], harness := (true, "ef395816b20ad1c38b343b29e679544d90ec8b4129be408c3ea583cfabeb52f1"), looks := true }, kinds := [], alts := [], laidByText := true, laidKinds := [.data], laidTests := true, laidLooks := .later }
def TopTalkUptoCardSaid : Prop := Claim7.holds Tryz.pinned (.plain (OpenSpec.upto topTalkSpec)) topTalkUptoCard

/-- THE SECOND FORM's CARD OF 'wardroomtop.TopBroken'. -/
def topBrokenUptoCard : Claim7 := { stood := { row := topBrokenUptoRow, standIns := [], harness := (true, "ef395816b20ad1c38b343b29e679544d90ec8b4129be408c3ea583cfabeb52f1"), looks := true }, kinds := [], alts := [], laidByText := true, laidKinds := [.data], laidTests := true, laidLooks := .later }
def TopBrokenUptoCardSaid : Prop := Claim7.holds Tryz.pinned (.plain (OpenSpec.upto topBrokenSpec)) topBrokenUptoCard

/-- THE SECOND FORM's CARD OF 'wardroomtop.TopOwn'. -/
def topOwnUptoCard : Claim7 := { stood := { row := topOwnUptoRow, standIns := [], harness := (true, "ef395816b20ad1c38b343b29e679544d90ec8b4129be408c3ea583cfabeb52f1"), looks := true }, kinds := [], alts := [], laidByText := true, laidKinds := [.data, .data, .data, .pinned], laidTests := true, laidLooks := .later }
def TopOwnUptoCardSaid : Prop := Claim7.holds Tryz.pinned (.plain (OpenSpec.upto topOwnSpec)) topOwnUptoCard

/-- THE SECOND FORM's CARD OF 'wardroomtop.TopHead'. -/
def topHeadUptoCard : Claim7 := { stood := { row := topHeadUptoRow, standIns := [], harness := (true, "ef395816b20ad1c38b343b29e679544d90ec8b4129be408c3ea583cfabeb52f1"), looks := true }, kinds := [], alts := [], laidByText := true, laidKinds := [.data, .data, .data, .pinned], laidTests := true, laidLooks := .later }
def TopHeadUptoCardSaid : Prop := Claim7.holds Tryz.pinned (.plain (OpenSpec.upto topHeadSpec)) topHeadUptoCard

/-- THE SECOND FORM's CARD OF 'wardroomtop.TopSee'. -/
def topSeeUptoCard : Claim7 := { stood := { row := topSeeUptoRow, standIns := [], harness := (true, "ef395816b20ad1c38b343b29e679544d90ec8b4129be408c3ea583cfabeb52f1"), looks := true }, kinds := [], alts := [], laidByText := true, laidKinds := [.data, .data, .data, .pinned], laidTests := true, laidLooks := .later }
def TopSeeUptoCardSaid : Prop := Claim7.holds Tryz.pinned (.plain (OpenSpec.upto topSeeSpec)) topSeeUptoCard

/-- THE SECOND FORM's CARD OF 'wardroomtop.TopLimits'. -/
def topLimitsUptoCard : Claim7 := { stood := { row := topLimitsUptoRow, standIns := [], harness := (true, "ef395816b20ad1c38b343b29e679544d90ec8b4129be408c3ea583cfabeb52f1"), looks := true }, kinds := [], alts := [], laidByText := true, laidKinds := [.data, .data, .data, .pinned], laidTests := true, laidLooks := .later }
def TopLimitsUptoCardSaid : Prop := Claim7.holds Tryz.pinned (.plain (OpenSpec.upto topLimitsSpec)) topLimitsUptoCard

/-- THE SECOND FORM's CARD OF 'wardroomtop.TopAlone'. -/
def topAloneUptoCard : Claim7 := { stood := { row := topAloneUptoRow, standIns := [], harness := (true, "ef395816b20ad1c38b343b29e679544d90ec8b4129be408c3ea583cfabeb52f1"), looks := true }, kinds := [], alts := [], laidByText := true, laidKinds := [.data, .data, .data, .pinned], laidTests := true, laidLooks := .later }
def TopAloneUptoCardSaid : Prop := Claim7.holds Tryz.pinned (.plain (OpenSpec.upto topAloneSpec)) topAloneUptoCard

/-- THE SECOND FORM's CARD OF 'wardroomtop.TopGone'. -/
def topGoneUptoCard : Claim7 := { stood := { row := topGoneUptoRow, standIns := [], harness := (true, "ef395816b20ad1c38b343b29e679544d90ec8b4129be408c3ea583cfabeb52f1"), looks := true }, kinds := [], alts := [], laidByText := true, laidKinds := [.data, .data, .data, .pinned], laidTests := true, laidLooks := .later }
def TopGoneUptoCardSaid : Prop := Claim7.holds Tryz.pinned (.plain (OpenSpec.upto topGoneSpec)) topGoneUptoCard
end Rows
end Go.Proofs.YthdinakloheinaaGreatDoor
