/-
  No cell of these rows narrows 'for every input' (looked for: loops, veiled, ifaces, maps, wideKeys, modest, calm, conditions, laid).
  DERIVED. THE GIVEN ROWS OF THIS SEAT. 7 by the template 'for every input the law returns true; each argument reads behind the call as it read before'; 0 by the template 'total and deterministic' (their statements: YtmkfmnhbckbfbaaTotals.lean).
  GIVEN WITH THE SEED: the statements are not yours to turn. If you find one false, say at which input.
  Laid BY PROGRAM, IN A SANDBOX (cutbox-rows.mjs): the forced cells as the released guide's own fill.sh prints them over the translation 0357bf5b44f6571d… (all of the seat's roots in one cut). By AI agents, Wed Nov 11 2026. No macro, syntax, notation, axiom, sorry.
-/
import Derived.Test.YtmkfmnhbckbfbaaChecked
import GoSem.Claim
import GoSem.ClaimJoined
import GoSem.ClaimMapViews
import Derived.JoinedTies
import Derived.KernelRfl
namespace Go.Proofs.Ytmkfmnhbckbfbaa
/- THE CELL 'sum', in the pinned program and in every row, IS THE sha256 OF THE DUMP (.gsa) THAT YtmkfmnhbckbfbaaProg.lean LOADS. Nothing in Lean hashes anything: it is a label: what it is worth is what the hold of that sum in a sandbox is worth. -/
noncomputable def Try.pinned : Pinned := { name := "ytmkfmnhbckbfbaa", sum := "0357bf5b44f6571df48c1f0db4ce64e98e10bf38f73c35ec15a8fbfd30a2bcb5", checked := Try.checked }
namespace Rows
def none {H : Type} : Left H := { results := [], args := [] }

/-- 'wardroomlaw.PipesSays': WHATEVER THE INPUT: true; the input reads as it did. -/
def pipesSaysSpec : ChangeSpec := { name := "pipesSays", fn := fun _ => fun
  | [d] => { results := [.lit (.bool true)], args := [d] }
  | _ => none }
def pipesSaysRow : OpenClaim := { program := "ytmkfmnhbckbfbaa", sum := "0357bf5b44f6571df48c1f0db4ce64e98e10bf38f73c35ec15a8fbfd30a2bcb5", func := "wardroom/wardroomlaw.PipesSays", spec := "pipesSays", apart := false }
def PipesSaysSaid : Prop := pipesSaysRow.holds Try.pinned (OpenSpec.ofChange pipesSaysSpec)

/-- ITS FALSE NEIGHBOUR: 'it returns false'. Refute it at one input. -/
def pipesSaysWrong : ChangeSpec := { name := "pipesSays", fn := fun _ => fun
  | [d] => { results := [.lit (.bool false)], args := [d] }
  | _ => none }
def PipesSaysWrongFalsely : Prop := pipesSaysRow.holds Try.pinned (OpenSpec.ofChange pipesSaysWrong)

/-- 'wardroomlaw.SpacesSays': WHATEVER THE INPUT: true; the input reads as it did. -/
def spacesSaysSpec : ChangeSpec := { name := "spacesSays", fn := fun _ => fun
  | [d] => { results := [.lit (.bool true)], args := [d] }
  | _ => none }
def spacesSaysRow : OpenClaim := { program := "ytmkfmnhbckbfbaa", sum := "0357bf5b44f6571df48c1f0db4ce64e98e10bf38f73c35ec15a8fbfd30a2bcb5", func := "wardroom/wardroomlaw.SpacesSays", spec := "spacesSays", apart := false }
def SpacesSaysSaid : Prop := spacesSaysRow.holds Try.pinned (OpenSpec.ofChange spacesSaysSpec)

/-- ITS FALSE NEIGHBOUR: 'it returns false'. Refute it at one input. -/
def spacesSaysWrong : ChangeSpec := { name := "spacesSays", fn := fun _ => fun
  | [d] => { results := [.lit (.bool false)], args := [d] }
  | _ => none }
def SpacesSaysWrongFalsely : Prop := spacesSaysRow.holds Try.pinned (OpenSpec.ofChange spacesSaysWrong)

/-- 'wardroomlaw.GroupsSays': WHATEVER THE INPUT: true; the input reads as it did. -/
def groupsSaysSpec : ChangeSpec := { name := "groupsSays", fn := fun _ => fun
  | [d] => { results := [.lit (.bool true)], args := [d] }
  | _ => none }
def groupsSaysRow : OpenClaim := { program := "ytmkfmnhbckbfbaa", sum := "0357bf5b44f6571df48c1f0db4ce64e98e10bf38f73c35ec15a8fbfd30a2bcb5", func := "wardroom/wardroomlaw.GroupsSays", spec := "groupsSays", unfollowed := true, recurses := true, apart := false }
def GroupsSaysSaid : Prop := groupsSaysRow.holds Try.pinned (OpenSpec.ofChange groupsSaysSpec)

/-- ITS FALSE NEIGHBOUR: 'it returns false'. Refute it at one input. -/
def groupsSaysWrong : ChangeSpec := { name := "groupsSays", fn := fun _ => fun
  | [d] => { results := [.lit (.bool false)], args := [d] }
  | _ => none }
def GroupsSaysWrongFalsely : Prop := groupsSaysRow.holds Try.pinned (OpenSpec.ofChange groupsSaysWrong)

/-- 'wardroomlaw.FairSays': WHATEVER THE INPUT: true; the input reads as it did. -/
def fairSaysSpec : ChangeSpec := { name := "fairSays", fn := fun _ => fun
  | [d] => { results := [.lit (.bool true)], args := [d] }
  | _ => none }
def fairSaysRow : OpenClaim := { program := "ytmkfmnhbckbfbaa", sum := "0357bf5b44f6571df48c1f0db4ce64e98e10bf38f73c35ec15a8fbfd30a2bcb5", func := "wardroom/wardroomlaw.FairSays", spec := "fairSays", apart := false }
def FairSaysSaid : Prop := fairSaysRow.holds Try.pinned (OpenSpec.ofChange fairSaysSpec)

/-- ITS FALSE NEIGHBOUR: 'it returns false'. Refute it at one input. -/
def fairSaysWrong : ChangeSpec := { name := "fairSays", fn := fun _ => fun
  | [d] => { results := [.lit (.bool false)], args := [d] }
  | _ => none }
def FairSaysWrongFalsely : Prop := fairSaysRow.holds Try.pinned (OpenSpec.ofChange fairSaysWrong)

/-- 'wardroomlaw.QueueSays': WHATEVER THE INPUT: true; the input reads as it did. -/
def queueSaysSpec : ChangeSpec := { name := "queueSays", fn := fun _ => fun
  | [d] => { results := [.lit (.bool true)], args := [d] }
  | _ => none }
def queueSaysRow : OpenClaim := { program := "ytmkfmnhbckbfbaa", sum := "0357bf5b44f6571df48c1f0db4ce64e98e10bf38f73c35ec15a8fbfd30a2bcb5", func := "wardroom/wardroomlaw.QueueSays", spec := "queueSays", unfollowed := true, recurses := true, apart := false }
def QueueSaysSaid : Prop := queueSaysRow.holds Try.pinned (OpenSpec.ofChange queueSaysSpec)

/-- ITS FALSE NEIGHBOUR: 'it returns false'. Refute it at one input. -/
def queueSaysWrong : ChangeSpec := { name := "queueSays", fn := fun _ => fun
  | [d] => { results := [.lit (.bool false)], args := [d] }
  | _ => none }
def QueueSaysWrongFalsely : Prop := queueSaysRow.holds Try.pinned (OpenSpec.ofChange queueSaysWrong)

/-- 'wardroomlaw.TreeSays': WHATEVER THE INPUT: true; the input reads as it did. -/
def treeSaysSpec : ChangeSpec := { name := "treeSays", fn := fun _ => fun
  | [d] => { results := [.lit (.bool true)], args := [d] }
  | _ => none }
def treeSaysRow : OpenClaim := { program := "ytmkfmnhbckbfbaa", sum := "0357bf5b44f6571df48c1f0db4ce64e98e10bf38f73c35ec15a8fbfd30a2bcb5", func := "wardroom/wardroomlaw.TreeSays", spec := "treeSays", inPlace := ["slices.overlaps[string]", "slices.overlaps[int]"], apart := false }
def TreeSaysSaid : Prop := treeSaysRow.holds Try.pinned (OpenSpec.ofChange treeSaysSpec)

/-- ITS FALSE NEIGHBOUR: 'it returns false'. Refute it at one input. -/
def treeSaysWrong : ChangeSpec := { name := "treeSays", fn := fun _ => fun
  | [d] => { results := [.lit (.bool false)], args := [d] }
  | _ => none }
def TreeSaysWrongFalsely : Prop := treeSaysRow.holds Try.pinned (OpenSpec.ofChange treeSaysWrong)

/-- 'wardroomtop.TopQueue': WHATEVER THE INPUT: true; the input reads as it did. -/
def topQueueSpec : ChangeSpec := { name := "topQueue", fn := fun _ => fun
  | [d1, d2] => { results := [.lit (.bool true)], args := [d1, d2] }
  | _ => none }
def topQueueRow : OpenClaim := { program := "ytmkfmnhbckbfbaa", sum := "0357bf5b44f6571df48c1f0db4ce64e98e10bf38f73c35ec15a8fbfd30a2bcb5", func := "wardroom/wardroomtop.TopQueue", spec := "topQueue", apart := false }
def TopQueueSaid : Prop := topQueueRow.holds Try.pinned (OpenSpec.ofChange topQueueSpec)

/-- ITS FALSE NEIGHBOUR: 'it returns false'. Refute it at one input. -/
def topQueueWrong : ChangeSpec := { name := "topQueue", fn := fun _ => fun
  | [d1, d2] => { results := [.lit (.bool false)], args := [d1, d2] }
  | _ => none }
def TopQueueWrongFalsely : Prop := topQueueRow.holds Try.pinned (OpenSpec.ofChange topQueueWrong)

/- THE SECOND FORM. 'bulk': how many values and letters a reading holds, each counted each time it is reached (what is shared counts as often as it is met; a slice's spare places count too). A statement '..UptoSaid' is the law's where the arguments, and the package variables that the reading takes, are together of bulk at most 1048576: NARROWER than '..Said'. Prove '..Said' where nothing that the law and all that it calls make is longer than what came in: it says more and counts as full. Else prove '..UptoSaid'. A law counts once. -/
mutual
def uptoBulk {H : Type} : DataW H → Nat
  | .lit (.string bytes) => bytes.length + 1
  | .lit _ => 1
  | .nil => 1
  | .ptr d => uptoBulk d + 1
  | .slice elems spare => uptoBulkAll elems + uptoBulkAll spare + 1
  | .agg parts => uptoBulkAll parts + 1
  | .iface _ d => uptoBulk d + 1
  | .map entries => uptoBulkEntries entries + 1
  | .held _ => 1
def uptoBulkAll {H : Type} : List (DataW H) → Nat
  | [] => 0
  | d :: r => uptoBulk d + uptoBulkAll r
def uptoBulkEntries {H : Type} : List (Lit × DataW H) → Nat
  | [] => 0
  | x :: r => uptoBulkEntry x + uptoBulkEntries r
def uptoBulkEntry {H : Type} : Lit × DataW H → Nat
  | (.string bytes, d) => bytes.length + uptoBulk d + 1
  | (_, d) => uptoBulk d + 1
 end
def uptoSmall : (H : Type) → List (DataW H) → Bool := fun _ ds => decide (uptoBulkAll ds ≤ 1048576)
def OpenSpec.upto (s : _root_.Go.ChangeSpec) : _root_.Go.OpenSpec := { _root_.Go.OpenSpec.ofChange s with cond := some uptoSmall }

/-- 'wardroomlaw.PipesSays', WHERE WHAT IT READS IS OF BULK AT MOST 1048576: true; the input reads as it did. -/
def pipesSaysUptoRow : OpenClaim := { program := "ytmkfmnhbckbfbaa", sum := "0357bf5b44f6571df48c1f0db4ce64e98e10bf38f73c35ec15a8fbfd30a2bcb5", func := "wardroom/wardroomlaw.PipesSays", spec := "pipesSays", apart := false, narrowed := true }
def PipesSaysUptoSaid : Prop := pipesSaysUptoRow.holds Try.pinned (OpenSpec.upto pipesSaysSpec)

/-- 'wardroomlaw.SpacesSays', WHERE WHAT IT READS IS OF BULK AT MOST 1048576: true; the input reads as it did. -/
def spacesSaysUptoRow : OpenClaim := { program := "ytmkfmnhbckbfbaa", sum := "0357bf5b44f6571df48c1f0db4ce64e98e10bf38f73c35ec15a8fbfd30a2bcb5", func := "wardroom/wardroomlaw.SpacesSays", spec := "spacesSays", apart := false, narrowed := true }
def SpacesSaysUptoSaid : Prop := spacesSaysUptoRow.holds Try.pinned (OpenSpec.upto spacesSaysSpec)

/-- 'wardroomlaw.GroupsSays', WHERE WHAT IT READS IS OF BULK AT MOST 1048576: true; the input reads as it did. -/
def groupsSaysUptoRow : OpenClaim := { program := "ytmkfmnhbckbfbaa", sum := "0357bf5b44f6571df48c1f0db4ce64e98e10bf38f73c35ec15a8fbfd30a2bcb5", func := "wardroom/wardroomlaw.GroupsSays", spec := "groupsSays", unfollowed := true, recurses := true, apart := false, narrowed := true }
def GroupsSaysUptoSaid : Prop := groupsSaysUptoRow.holds Try.pinned (OpenSpec.upto groupsSaysSpec)

/-- 'wardroomlaw.FairSays', WHERE WHAT IT READS IS OF BULK AT MOST 1048576: true; the input reads as it did. -/
def fairSaysUptoRow : OpenClaim := { program := "ytmkfmnhbckbfbaa", sum := "0357bf5b44f6571df48c1f0db4ce64e98e10bf38f73c35ec15a8fbfd30a2bcb5", func := "wardroom/wardroomlaw.FairSays", spec := "fairSays", apart := false, narrowed := true }
def FairSaysUptoSaid : Prop := fairSaysUptoRow.holds Try.pinned (OpenSpec.upto fairSaysSpec)

/-- 'wardroomlaw.QueueSays', WHERE WHAT IT READS IS OF BULK AT MOST 1048576: true; the input reads as it did. -/
def queueSaysUptoRow : OpenClaim := { program := "ytmkfmnhbckbfbaa", sum := "0357bf5b44f6571df48c1f0db4ce64e98e10bf38f73c35ec15a8fbfd30a2bcb5", func := "wardroom/wardroomlaw.QueueSays", spec := "queueSays", unfollowed := true, recurses := true, apart := false, narrowed := true }
def QueueSaysUptoSaid : Prop := queueSaysUptoRow.holds Try.pinned (OpenSpec.upto queueSaysSpec)

/-- 'wardroomlaw.TreeSays', WHERE WHAT IT READS IS OF BULK AT MOST 1048576: true; the input reads as it did. -/
def treeSaysUptoRow : OpenClaim := { program := "ytmkfmnhbckbfbaa", sum := "0357bf5b44f6571df48c1f0db4ce64e98e10bf38f73c35ec15a8fbfd30a2bcb5", func := "wardroom/wardroomlaw.TreeSays", spec := "treeSays", inPlace := ["slices.overlaps[string]", "slices.overlaps[int]"], apart := false, narrowed := true }
def TreeSaysUptoSaid : Prop := treeSaysUptoRow.holds Try.pinned (OpenSpec.upto treeSaysSpec)

/-- 'wardroomtop.TopQueue', WHERE WHAT IT READS IS OF BULK AT MOST 1048576: true; the input reads as it did. -/
def topQueueUptoRow : OpenClaim := { program := "ytmkfmnhbckbfbaa", sum := "0357bf5b44f6571df48c1f0db4ce64e98e10bf38f73c35ec15a8fbfd30a2bcb5", func := "wardroom/wardroomtop.TopQueue", spec := "topQueue", apart := false, narrowed := true }
def TopQueueUptoSaid : Prop := topQueueUptoRow.holds Try.pinned (OpenSpec.upto topQueueSpec)

end Rows
end Go.Proofs.Ytmkfmnhbckbfbaa
