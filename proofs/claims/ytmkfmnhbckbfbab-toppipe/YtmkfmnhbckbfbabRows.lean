/-
  No cell of these rows narrows 'for every input' (looked for: loops, veiled, ifaces, maps, wideKeys, modest, calm, conditions, laid).
  DERIVED. THE GIVEN ROWS OF THIS SEAT. 5 by the template 'for every input the law returns true; each argument reads behind the call as it read before'; 0 by the template 'total and deterministic' (their statements: YtmkfmnhbckbfbabTotals.lean).
  GIVEN WITH THE SEED: the statements are not yours to turn. If you find one false, say at which input.
  Laid BY PROGRAM, IN A SANDBOX (cutbox-rows.mjs): the forced cells as the released guide's own fill.sh prints them over the translation 07927499f4c21ab5… (all of the seat's roots in one cut). By AI agents, Wed Nov 11 2026. No macro, syntax, notation, axiom, sorry.
-/
import Derived.Test.YtmkfmnhbckbfbabChecked
import GoSem.Claim
import GoSem.ClaimJoined
import GoSem.ClaimMapViews
import Derived.JoinedTies
import Derived.KernelRfl
namespace Go.Proofs.Ytmkfmnhbckbfbab
/- THE CELL 'sum', in the pinned program and in every row, IS THE sha256 OF THE DUMP (.gsa) THAT YtmkfmnhbckbfbabProg.lean LOADS. Nothing in Lean hashes anything: it is a label: what it is worth is what the hold of that sum in a sandbox is worth. -/
noncomputable def Try.pinned : Pinned := { name := "ytmkfmnhbckbfbab", sum := "07927499f4c21ab51c0351b3d0400c369c3049707c0cd7b2d777abebd6799848", checked := Try.checked }
namespace Rows
def none {H : Type} : Left H := { results := [], args := [] }

/-- 'wardroomtop.TopPipe': WHATEVER THE INPUT: true; the input reads as it did. -/
def topPipeSpec : ChangeSpec := { name := "topPipe", fn := fun _ => fun
  | [d] => { results := [.lit (.bool true)], args := [d] }
  | _ => none }
def topPipeRow : OpenClaim := { program := "ytmkfmnhbckbfbab", sum := "07927499f4c21ab51c0351b3d0400c369c3049707c0cd7b2d777abebd6799848", func := "wardroom/wardroomtop.TopPipe", spec := "topPipe", apart := false }
def TopPipeSaid : Prop := topPipeRow.holds Try.pinned (OpenSpec.ofChange topPipeSpec)

/-- ITS FALSE NEIGHBOUR: 'it returns false'. Refute it at one input. -/
def topPipeWrong : ChangeSpec := { name := "topPipe", fn := fun _ => fun
  | [d] => { results := [.lit (.bool false)], args := [d] }
  | _ => none }
def TopPipeWrongFalsely : Prop := topPipeRow.holds Try.pinned (OpenSpec.ofChange topPipeWrong)

/-- 'wardroomtop.TopSpaces': WHATEVER THE INPUT: true; the input reads as it did. -/
def topSpacesSpec : ChangeSpec := { name := "topSpaces", fn := fun _ => fun
  | [d] => { results := [.lit (.bool true)], args := [d] }
  | _ => none }
def topSpacesRow : OpenClaim := { program := "ytmkfmnhbckbfbab", sum := "07927499f4c21ab51c0351b3d0400c369c3049707c0cd7b2d777abebd6799848", func := "wardroom/wardroomtop.TopSpaces", spec := "topSpaces", apart := false }
def TopSpacesSaid : Prop := topSpacesRow.holds Try.pinned (OpenSpec.ofChange topSpacesSpec)

/-- ITS FALSE NEIGHBOUR: 'it returns false'. Refute it at one input. -/
def topSpacesWrong : ChangeSpec := { name := "topSpaces", fn := fun _ => fun
  | [d] => { results := [.lit (.bool false)], args := [d] }
  | _ => none }
def TopSpacesWrongFalsely : Prop := topSpacesRow.holds Try.pinned (OpenSpec.ofChange topSpacesWrong)

/-- 'wardroomtop.TopGroups': WHATEVER THE INPUT: true; the input reads as it did. -/
def topGroupsSpec : ChangeSpec := { name := "topGroups", fn := fun _ => fun
  | [d] => { results := [.lit (.bool true)], args := [d] }
  | _ => none }
def topGroupsRow : OpenClaim := { program := "ytmkfmnhbckbfbab", sum := "07927499f4c21ab51c0351b3d0400c369c3049707c0cd7b2d777abebd6799848", func := "wardroom/wardroomtop.TopGroups", spec := "topGroups", unfollowed := true, recurses := true, apart := false }
def TopGroupsSaid : Prop := topGroupsRow.holds Try.pinned (OpenSpec.ofChange topGroupsSpec)

/-- ITS FALSE NEIGHBOUR: 'it returns false'. Refute it at one input. -/
def topGroupsWrong : ChangeSpec := { name := "topGroups", fn := fun _ => fun
  | [d] => { results := [.lit (.bool false)], args := [d] }
  | _ => none }
def TopGroupsWrongFalsely : Prop := topGroupsRow.holds Try.pinned (OpenSpec.ofChange topGroupsWrong)

/-- 'wardroomtop.TopWake': WHATEVER THE INPUT: true; the input reads as it did. -/
def topWakeSpec : ChangeSpec := { name := "topWake", fn := fun _ => fun
  | [d1, d2] => { results := [.lit (.bool true)], args := [d1, d2] }
  | _ => none }
def topWakeRow : OpenClaim := { program := "ytmkfmnhbckbfbab", sum := "07927499f4c21ab51c0351b3d0400c369c3049707c0cd7b2d777abebd6799848", func := "wardroom/wardroomtop.TopWake", spec := "topWake", apart := false }
def TopWakeSaid : Prop := topWakeRow.holds Try.pinned (OpenSpec.ofChange topWakeSpec)

/-- ITS FALSE NEIGHBOUR: 'it returns false'. Refute it at one input. -/
def topWakeWrong : ChangeSpec := { name := "topWake", fn := fun _ => fun
  | [d1, d2] => { results := [.lit (.bool false)], args := [d1, d2] }
  | _ => none }
def TopWakeWrongFalsely : Prop := topWakeRow.holds Try.pinned (OpenSpec.ofChange topWakeWrong)

/-- 'wardroomtop.TopFair': WHATEVER THE INPUT: true; the input reads as it did. -/
def topFairSpec : ChangeSpec := { name := "topFair", fn := fun _ => fun
  | [d1, d2, d3] => { results := [.lit (.bool true)], args := [d1, d2, d3] }
  | _ => none }
def topFairRow : OpenClaim := { program := "ytmkfmnhbckbfbab", sum := "07927499f4c21ab51c0351b3d0400c369c3049707c0cd7b2d777abebd6799848", func := "wardroom/wardroomtop.TopFair", spec := "topFair", apart := false }
def TopFairSaid : Prop := topFairRow.holds Try.pinned (OpenSpec.ofChange topFairSpec)

/-- ITS FALSE NEIGHBOUR: 'it returns false'. Refute it at one input. -/
def topFairWrong : ChangeSpec := { name := "topFair", fn := fun _ => fun
  | [d1, d2, d3] => { results := [.lit (.bool false)], args := [d1, d2, d3] }
  | _ => none }
def TopFairWrongFalsely : Prop := topFairRow.holds Try.pinned (OpenSpec.ofChange topFairWrong)

/- THE SECOND FORM. 'bulk': how many values and letters a reading holds, each counted each time it is reached (what is shared counts as often as it is met; a slice's spare places count too). A statement '..UptoSaid' is the law's where the arguments, and the package variables that the reading takes, are together of bulk at most 1048576: NARROWER than '..Said'. Prove '..Said' where nothing that the law and all that it calls make is longer than what came in: it says more and counts as full. Else prove '..UptoSaid'. A law counts once. -/
mutual
def uptoBulk {H : Type} : DataW H → Nat
  | .lit (.string bytes) => bytes.length + 1
  | .lit _ => 1
  | .nil => 1
  | .ptr d => uptoBulk d + 1
  | .slice elems spare => uptoBulkAll elems + uptoBulkAll spare + 1
  | .agg parts => uptoBulkAll parts + 1
  | .iface _ d => uptoBulk d + 1
  | .map entries => uptoBulkEntries entries + 1
  | .held _ => 1
def uptoBulkAll {H : Type} : List (DataW H) → Nat
  | [] => 0
  | d :: r => uptoBulk d + uptoBulkAll r
def uptoBulkEntries {H : Type} : List (Lit × DataW H) → Nat
  | [] => 0
  | x :: r => uptoBulkEntry x + uptoBulkEntries r
def uptoBulkEntry {H : Type} : Lit × DataW H → Nat
  | (.string bytes, d) => bytes.length + uptoBulk d + 1
  | (_, d) => uptoBulk d + 1
 end
def uptoSmall : (H : Type) → List (DataW H) → Bool := fun _ ds => decide (uptoBulkAll ds ≤ 1048576)
def OpenSpec.upto (s : _root_.Go.ChangeSpec) : _root_.Go.OpenSpec := { _root_.Go.OpenSpec.ofChange s with cond := some uptoSmall }

/-- 'wardroomtop.TopPipe', WHERE WHAT IT READS IS OF BULK AT MOST 1048576: true; the input reads as it did. -/
def topPipeUptoRow : OpenClaim := { program := "ytmkfmnhbckbfbab", sum := "07927499f4c21ab51c0351b3d0400c369c3049707c0cd7b2d777abebd6799848", func := "wardroom/wardroomtop.TopPipe", spec := "topPipe", apart := false, narrowed := true }
def TopPipeUptoSaid : Prop := topPipeUptoRow.holds Try.pinned (OpenSpec.upto topPipeSpec)

/-- 'wardroomtop.TopSpaces', WHERE WHAT IT READS IS OF BULK AT MOST 1048576: true; the input reads as it did. -/
def topSpacesUptoRow : OpenClaim := { program := "ytmkfmnhbckbfbab", sum := "07927499f4c21ab51c0351b3d0400c369c3049707c0cd7b2d777abebd6799848", func := "wardroom/wardroomtop.TopSpaces", spec := "topSpaces", apart := false, narrowed := true }
def TopSpacesUptoSaid : Prop := topSpacesUptoRow.holds Try.pinned (OpenSpec.upto topSpacesSpec)

/-- 'wardroomtop.TopGroups', WHERE WHAT IT READS IS OF BULK AT MOST 1048576: true; the input reads as it did. -/
def topGroupsUptoRow : OpenClaim := { program := "ytmkfmnhbckbfbab", sum := "07927499f4c21ab51c0351b3d0400c369c3049707c0cd7b2d777abebd6799848", func := "wardroom/wardroomtop.TopGroups", spec := "topGroups", unfollowed := true, recurses := true, apart := false, narrowed := true }
def TopGroupsUptoSaid : Prop := topGroupsUptoRow.holds Try.pinned (OpenSpec.upto topGroupsSpec)

/-- 'wardroomtop.TopWake', WHERE WHAT IT READS IS OF BULK AT MOST 1048576: true; the input reads as it did. -/
def topWakeUptoRow : OpenClaim := { program := "ytmkfmnhbckbfbab", sum := "07927499f4c21ab51c0351b3d0400c369c3049707c0cd7b2d777abebd6799848", func := "wardroom/wardroomtop.TopWake", spec := "topWake", apart := false, narrowed := true }
def TopWakeUptoSaid : Prop := topWakeUptoRow.holds Try.pinned (OpenSpec.upto topWakeSpec)

/-- 'wardroomtop.TopFair', WHERE WHAT IT READS IS OF BULK AT MOST 1048576: true; the input reads as it did. -/
def topFairUptoRow : OpenClaim := { program := "ytmkfmnhbckbfbab", sum := "07927499f4c21ab51c0351b3d0400c369c3049707c0cd7b2d777abebd6799848", func := "wardroom/wardroomtop.TopFair", spec := "topFair", apart := false, narrowed := true }
def TopFairUptoSaid : Prop := topFairUptoRow.holds Try.pinned (OpenSpec.upto topFairSpec)

end Rows
end Go.Proofs.Ytmkfmnhbckbfbab
