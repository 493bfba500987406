/-
  No cell of these rows narrows 'for every input' (looked for: loops, veiled, ifaces, maps, wideKeys, modest, calm, conditions, laid).
  DERIVED. THE GIVEN ROWS OF THIS SEAT. 6 by the template 'for every input the law returns true; each argument reads behind the call as it read before'; 0 by the template 'total and deterministic' (their statements: YtojlnbjpiccliaaTotals.lean).
  GIVEN WITH THE SEED: the statements are not yours to turn. If you find one false, say at which input.
  Laid BY PROGRAM, IN A SANDBOX (cutbox-rows.mjs): the forced cells as the released guide's own fill.sh prints them over the translation 1d2c1bae3de1ebdb… (all of the seat's roots in one cut). By AI agents, Wed Nov 11 2026. No macro, syntax, notation, axiom, sorry.
-/
import Derived.Test.YtojlnbjpiccliaaChecked
import GoSem.Claim
import GoSem.ClaimJoined
import GoSem.ClaimMapViews
import Derived.JoinedTies
import Derived.KernelRfl
namespace Go.Proofs.Ytojlnbjpiccliaa
/- THE CELL 'sum', in the pinned program and in every row, IS THE sha256 OF THE DUMP (.gsa) THAT YtojlnbjpiccliaaProg.lean LOADS. Nothing in Lean hashes anything: it is a label: what it is worth is what the hold of that sum in a sandbox is worth. -/
noncomputable def Try.pinned : Pinned := { name := "ytojlnbjpiccliaa", sum := "1d2c1bae3de1ebdbe37c9a1f1c228f230873771d155d8bde1aecd3b7828fd2ad", checked := Try.checked }
namespace Rows
def none {H : Type} : Left H := { results := [], args := [] }

/-- 'wardroomlaw.SpacesSays': WHATEVER THE INPUT: true; the input reads as it did. -/
def spacesSaysSpec : ChangeSpec := { name := "spacesSays", fn := fun _ => fun
  | [d] => { results := [.lit (.bool true)], args := [d] }
  | _ => none }
def spacesSaysRow : OpenClaim := { program := "ytojlnbjpiccliaa", sum := "1d2c1bae3de1ebdbe37c9a1f1c228f230873771d155d8bde1aecd3b7828fd2ad", func := "wardroom/wardroomlaw.SpacesSays", spec := "spacesSays", apart := false }
def SpacesSaysSaid : Prop := spacesSaysRow.holds Try.pinned (OpenSpec.ofChange spacesSaysSpec)

/-- ITS FALSE NEIGHBOUR: 'it returns false'. Refute it at one input. -/
def spacesSaysWrong : ChangeSpec := { name := "spacesSays", fn := fun _ => fun
  | [d] => { results := [.lit (.bool false)], args := [d] }
  | _ => none }
def SpacesSaysWrongFalsely : Prop := spacesSaysRow.holds Try.pinned (OpenSpec.ofChange spacesSaysWrong)

/-- 'wardroomtop.TopSpaces': WHATEVER THE INPUT: true; the input reads as it did. -/
def topSpacesSpec : ChangeSpec := { name := "topSpaces", fn := fun _ => fun
  | [d] => { results := [.lit (.bool true)], args := [d] }
  | _ => none }
def topSpacesRow : OpenClaim := { program := "ytojlnbjpiccliaa", sum := "1d2c1bae3de1ebdbe37c9a1f1c228f230873771d155d8bde1aecd3b7828fd2ad", func := "wardroom/wardroomtop.TopSpaces", spec := "topSpaces", apart := false }
def TopSpacesSaid : Prop := topSpacesRow.holds Try.pinned (OpenSpec.ofChange topSpacesSpec)

/-- ITS FALSE NEIGHBOUR: 'it returns false'. Refute it at one input. -/
def topSpacesWrong : ChangeSpec := { name := "topSpaces", fn := fun _ => fun
  | [d] => { results := [.lit (.bool false)], args := [d] }
  | _ => none }
def TopSpacesWrongFalsely : Prop := topSpacesRow.holds Try.pinned (OpenSpec.ofChange topSpacesWrong)

/-- 'wardroomlaw.GroupsSays': WHATEVER THE INPUT: true; the input reads as it did. -/
def groupsSaysSpec : ChangeSpec := { name := "groupsSays", fn := fun _ => fun
  | [d] => { results := [.lit (.bool true)], args := [d] }
  | _ => none }
def groupsSaysRow : OpenClaim := { program := "ytojlnbjpiccliaa", sum := "1d2c1bae3de1ebdbe37c9a1f1c228f230873771d155d8bde1aecd3b7828fd2ad", func := "wardroom/wardroomlaw.GroupsSays", spec := "groupsSays", unfollowed := true, recurses := true, apart := false }
def GroupsSaysSaid : Prop := groupsSaysRow.holds Try.pinned (OpenSpec.ofChange groupsSaysSpec)

/-- ITS FALSE NEIGHBOUR: 'it returns false'. Refute it at one input. -/
def groupsSaysWrong : ChangeSpec := { name := "groupsSays", fn := fun _ => fun
  | [d] => { results := [.lit (.bool false)], args := [d] }
  | _ => none }
def GroupsSaysWrongFalsely : Prop := groupsSaysRow.holds Try.pinned (OpenSpec.ofChange groupsSaysWrong)

/-- 'wardroomtop.TopGroups': WHATEVER THE INPUT: true; the input reads as it did. -/
def topGroupsSpec : ChangeSpec := { name := "topGroups", fn := fun _ => fun
  | [d] => { results := [.lit (.bool true)], args := [d] }
  | _ => none }
def topGroupsRow : OpenClaim := { program := "ytojlnbjpiccliaa", sum := "1d2c1bae3de1ebdbe37c9a1f1c228f230873771d155d8bde1aecd3b7828fd2ad", func := "wardroom/wardroomtop.TopGroups", spec := "topGroups", unfollowed := true, recurses := true, apart := false }
def TopGroupsSaid : Prop := topGroupsRow.holds Try.pinned (OpenSpec.ofChange topGroupsSpec)

/-- ITS FALSE NEIGHBOUR: 'it returns false'. Refute it at one input. -/
def topGroupsWrong : ChangeSpec := { name := "topGroups", fn := fun _ => fun
  | [d] => { results := [.lit (.bool false)], args := [d] }
  | _ => none }
def TopGroupsWrongFalsely : Prop := topGroupsRow.holds Try.pinned (OpenSpec.ofChange topGroupsWrong)

/-- 'wardroomlaw.QueueSays': WHATEVER THE INPUT: true; the input reads as it did. -/
def queueSaysSpec : ChangeSpec := { name := "queueSays", fn := fun _ => fun
  | [d] => { results := [.lit (.bool true)], args := [d] }
  | _ => none }
def queueSaysRow : OpenClaim := { program := "ytojlnbjpiccliaa", sum := "1d2c1bae3de1ebdbe37c9a1f1c228f230873771d155d8bde1aecd3b7828fd2ad", func := "wardroom/wardroomlaw.QueueSays", spec := "queueSays", unfollowed := true, recurses := true, apart := false }
def QueueSaysSaid : Prop := queueSaysRow.holds Try.pinned (OpenSpec.ofChange queueSaysSpec)

/-- ITS FALSE NEIGHBOUR: 'it returns false'. Refute it at one input. -/
def queueSaysWrong : ChangeSpec := { name := "queueSays", fn := fun _ => fun
  | [d] => { results := [.lit (.bool false)], args := [d] }
  | _ => none }
def QueueSaysWrongFalsely : Prop := queueSaysRow.holds Try.pinned (OpenSpec.ofChange queueSaysWrong)

/-- 'wardroomtop.TopQueue': WHATEVER THE INPUT: true; the input reads as it did. -/
def topQueueSpec : ChangeSpec := { name := "topQueue", fn := fun _ => fun
  | [d1, d2] => { results := [.lit (.bool true)], args := [d1, d2] }
  | _ => none }
def topQueueRow : OpenClaim := { program := "ytojlnbjpiccliaa", sum := "1d2c1bae3de1ebdbe37c9a1f1c228f230873771d155d8bde1aecd3b7828fd2ad", func := "wardroom/wardroomtop.TopQueue", spec := "topQueue", apart := false }
def TopQueueSaid : Prop := topQueueRow.holds Try.pinned (OpenSpec.ofChange topQueueSpec)

/-- ITS FALSE NEIGHBOUR: 'it returns false'. Refute it at one input. -/
def topQueueWrong : ChangeSpec := { name := "topQueue", fn := fun _ => fun
  | [d1, d2] => { results := [.lit (.bool false)], args := [d1, d2] }
  | _ => none }
def TopQueueWrongFalsely : Prop := topQueueRow.holds Try.pinned (OpenSpec.ofChange topQueueWrong)

/- THE SECOND FORM. 'bulk': how many values and letters a reading holds, each counted each time it is reached (what is shared counts as often as it is met; a slice's spare places count too). A statement '..UptoSaid' is the law's where the arguments, and the package variables that the reading takes, are together of bulk at most 1048576: NARROWER than '..Said'. Prove '..Said' where nothing that the law and all that it calls make is longer than what came in: it says more and counts as full. Else prove '..UptoSaid'. A law counts once. -/
mutual
def uptoBulk {H : Type} : DataW H → Nat
  | .lit (.string bytes) => bytes.length + 1
  | .lit _ => 1
  | .nil => 1
  | .ptr d => uptoBulk d + 1
  | .slice elems spare => uptoBulkAll elems + uptoBulkAll spare + 1
  | .agg parts => uptoBulkAll parts + 1
  | .iface _ d => uptoBulk d + 1
  | .map entries => uptoBulkEntries entries + 1
  | .held _ => 1
def uptoBulkAll {H : Type} : List (DataW H) → Nat
  | [] => 0
  | d :: r => uptoBulk d + uptoBulkAll r
def uptoBulkEntries {H : Type} : List (Lit × DataW H) → Nat
  | [] => 0
  | x :: r => uptoBulkEntry x + uptoBulkEntries r
def uptoBulkEntry {H : Type} : Lit × DataW H → Nat
  | (.string bytes, d) => bytes.length + uptoBulk d + 1
  | (_, d) => uptoBulk d + 1
 end
def uptoSmall : (H : Type) → List (DataW H) → Bool := fun _ ds => decide (uptoBulkAll ds ≤ 1048576)
def OpenSpec.upto (s : _root_.Go.ChangeSpec) : _root_.Go.OpenSpec := { _root_.Go.OpenSpec.ofChange s with cond := some uptoSmall }

/-- 'wardroomlaw.SpacesSays', WHERE WHAT IT READS IS OF BULK AT MOST 1048576: true; the input reads as it did. -/
def spacesSaysUptoRow : OpenClaim := { program := "ytojlnbjpiccliaa", sum := "1d2c1bae3de1ebdbe37c9a1f1c228f230873771d155d8bde1aecd3b7828fd2ad", func := "wardroom/wardroomlaw.SpacesSays", spec := "spacesSays", apart := false, narrowed := true }
def SpacesSaysUptoSaid : Prop := spacesSaysUptoRow.holds Try.pinned (OpenSpec.upto spacesSaysSpec)

/-- 'wardroomtop.TopSpaces', WHERE WHAT IT READS IS OF BULK AT MOST 1048576: true; the input reads as it did. -/
def topSpacesUptoRow : OpenClaim := { program := "ytojlnbjpiccliaa", sum := "1d2c1bae3de1ebdbe37c9a1f1c228f230873771d155d8bde1aecd3b7828fd2ad", func := "wardroom/wardroomtop.TopSpaces", spec := "topSpaces", apart := false, narrowed := true }
def TopSpacesUptoSaid : Prop := topSpacesUptoRow.holds Try.pinned (OpenSpec.upto topSpacesSpec)

/-- 'wardroomlaw.GroupsSays', WHERE WHAT IT READS IS OF BULK AT MOST 1048576: true; the input reads as it did. -/
def groupsSaysUptoRow : OpenClaim := { program := "ytojlnbjpiccliaa", sum := "1d2c1bae3de1ebdbe37c9a1f1c228f230873771d155d8bde1aecd3b7828fd2ad", func := "wardroom/wardroomlaw.GroupsSays", spec := "groupsSays", unfollowed := true, recurses := true, apart := false, narrowed := true }
def GroupsSaysUptoSaid : Prop := groupsSaysUptoRow.holds Try.pinned (OpenSpec.upto groupsSaysSpec)

/-- 'wardroomtop.TopGroups', WHERE WHAT IT READS IS OF BULK AT MOST 1048576: true; the input reads as it did. -/
def topGroupsUptoRow : OpenClaim := { program := "ytojlnbjpiccliaa", sum := "1d2c1bae3de1ebdbe37c9a1f1c228f230873771d155d8bde1aecd3b7828fd2ad", func := "wardroom/wardroomtop.TopGroups", spec := "topGroups", unfollowed := true, recurses := true, apart := false, narrowed := true }
def TopGroupsUptoSaid : Prop := topGroupsUptoRow.holds Try.pinned (OpenSpec.upto topGroupsSpec)

/-- 'wardroomlaw.QueueSays', WHERE WHAT IT READS IS OF BULK AT MOST 1048576: true; the input reads as it did. -/
def queueSaysUptoRow : OpenClaim := { program := "ytojlnbjpiccliaa", sum := "1d2c1bae3de1ebdbe37c9a1f1c228f230873771d155d8bde1aecd3b7828fd2ad", func := "wardroom/wardroomlaw.QueueSays", spec := "queueSays", unfollowed := true, recurses := true, apart := false, narrowed := true }
def QueueSaysUptoSaid : Prop := queueSaysUptoRow.holds Try.pinned (OpenSpec.upto queueSaysSpec)

/-- 'wardroomtop.TopQueue', WHERE WHAT IT READS IS OF BULK AT MOST 1048576: true; the input reads as it did. -/
def topQueueUptoRow : OpenClaim := { program := "ytojlnbjpiccliaa", sum := "1d2c1bae3de1ebdbe37c9a1f1c228f230873771d155d8bde1aecd3b7828fd2ad", func := "wardroom/wardroomtop.TopQueue", spec := "topQueue", apart := false, narrowed := true }
def TopQueueUptoSaid : Prop := topQueueUptoRow.holds Try.pinned (OpenSpec.upto topQueueSpec)

end Rows
end Go.Proofs.Ytojlnbjpiccliaa
