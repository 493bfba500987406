/-
  No cell of these rows narrows 'for every input' (looked for: loops, veiled, ifaces, maps, wideKeys, modest, calm, conditions, laid).
  DERIVED. THE GIVEN ROWS OF THIS SEAT. 4 by the template 'for every input the law returns true; each argument reads behind the call as it read before'; 0 by the template 'total and deterministic' (their statements: YtmklfkjfgjagaaaTotals.lean).
  GIVEN WITH THE SEED: the statements are not yours to turn. If you find one false, say at which input.
  Laid BY PROGRAM, IN A SANDBOX (cutbox-rows.mjs): the forced cells as the released guide's own fill.sh prints them over the translation 89f17ea6cedcbb99… (all of the seat's roots in one cut). By AI agents, Wed Nov 11 2026. No macro, syntax, notation, axiom, sorry.
-/
import Derived.Test.YtmklfkjfgjagaaaChecked
import GoSem.Claim
import GoSem.ClaimJoined
import GoSem.ClaimMapViews
import Derived.JoinedTies
import Derived.KernelRfl
namespace Go.Proofs.Ytmklfkjfgjagaaa
/- THE CELL 'sum', in the pinned program and in every row, IS THE sha256 OF THE DUMP (.gsa) THAT YtmklfkjfgjagaaaProg.lean LOADS. Nothing in Lean hashes anything: it is a label: what it is worth is what the hold of that sum in a sandbox is worth. -/
noncomputable def Try.pinned : Pinned := { name := "ytmklfkjfgjagaaa", sum := "89f17ea6cedcbb99471c35c334825276f334fceaf7044bff1a4409c09556970b", checked := Try.checked }
namespace Rows
def none {H : Type} : Left H := { results := [], args := [] }

/-- 'wardroomlaw.TreeSays': WHATEVER THE INPUT: true; the input reads as it did. -/
def treeSaysSpec : ChangeSpec := { name := "treeSays", fn := fun _ => fun
  | [d] => { results := [.lit (.bool true)], args := [d] }
  | _ => none }
def treeSaysRow : OpenClaim := { program := "ytmklfkjfgjagaaa", sum := "89f17ea6cedcbb99471c35c334825276f334fceaf7044bff1a4409c09556970b", func := "wardroom/wardroomlaw.TreeSays", spec := "treeSays", inPlace := ["slices.overlaps[string]", "slices.overlaps[int]"], apart := false }
def TreeSaysSaid : Prop := treeSaysRow.holds Try.pinned (OpenSpec.ofChange treeSaysSpec)

/-- ITS FALSE NEIGHBOUR: 'it returns false'. Refute it at one input. -/
def treeSaysWrong : ChangeSpec := { name := "treeSays", fn := fun _ => fun
  | [d] => { results := [.lit (.bool false)], args := [d] }
  | _ => none }
def TreeSaysWrongFalsely : Prop := treeSaysRow.holds Try.pinned (OpenSpec.ofChange treeSaysWrong)

/-- 'wardroomtop.TopMove': WHATEVER THE INPUT: true; the input reads as it did. -/
def topMoveSpec : ChangeSpec := { name := "topMove", fn := fun _ => fun
  | [d1, d2, d3, d4, d5] => { results := [.lit (.bool true)], args := [d1, d2, d3, d4, d5] }
  | _ => none }
def topMoveRow : OpenClaim := { program := "ytmklfkjfgjagaaa", sum := "89f17ea6cedcbb99471c35c334825276f334fceaf7044bff1a4409c09556970b", func := "wardroom/wardroomtop.TopMove", spec := "topMove", inPlace := ["slices.overlaps[string]", "slices.overlaps[int]"], apart := false }
def TopMoveSaid : Prop := topMoveRow.holds Try.pinned (OpenSpec.ofChange topMoveSpec)

/-- ITS FALSE NEIGHBOUR: 'it returns false'. Refute it at one input. -/
def topMoveWrong : ChangeSpec := { name := "topMove", fn := fun _ => fun
  | [d1, d2, d3, d4, d5] => { results := [.lit (.bool false)], args := [d1, d2, d3, d4, d5] }
  | _ => none }
def TopMoveWrongFalsely : Prop := topMoveRow.holds Try.pinned (OpenSpec.ofChange topMoveWrong)

/-- 'wardroomtop.TopTree': WHATEVER THE INPUT: true; the input reads as it did. -/
def topTreeSpec : ChangeSpec := { name := "topTree", fn := fun _ => fun
  | [d] => { results := [.lit (.bool true)], args := [d] }
  | _ => none }
def topTreeRow : OpenClaim := { program := "ytmklfkjfgjagaaa", sum := "89f17ea6cedcbb99471c35c334825276f334fceaf7044bff1a4409c09556970b", func := "wardroom/wardroomtop.TopTree", spec := "topTree", inPlace := ["slices.overlaps[string]", "slices.overlaps[int]"], apart := false }
def TopTreeSaid : Prop := topTreeRow.holds Try.pinned (OpenSpec.ofChange topTreeSpec)

/-- ITS FALSE NEIGHBOUR: 'it returns false'. Refute it at one input. -/
def topTreeWrong : ChangeSpec := { name := "topTree", fn := fun _ => fun
  | [d] => { results := [.lit (.bool false)], args := [d] }
  | _ => none }
def TopTreeWrongFalsely : Prop := topTreeRow.holds Try.pinned (OpenSpec.ofChange topTreeWrong)

/-- 'wardroomtop.TopFiles': WHATEVER THE INPUT: true; the input reads as it did. -/
def topFilesSpec : ChangeSpec := { name := "topFiles", fn := fun _ => fun
  | [d1, d2] => { results := [.lit (.bool true)], args := [d1, d2] }
  | _ => none }
def topFilesRow : OpenClaim := { program := "ytmklfkjfgjagaaa", sum := "89f17ea6cedcbb99471c35c334825276f334fceaf7044bff1a4409c09556970b", func := "wardroom/wardroomtop.TopFiles", spec := "topFiles", inPlace := ["slices.overlaps[string]", "slices.overlaps[int]"], apart := false }
def TopFilesSaid : Prop := topFilesRow.holds Try.pinned (OpenSpec.ofChange topFilesSpec)

/-- ITS FALSE NEIGHBOUR: 'it returns false'. Refute it at one input. -/
def topFilesWrong : ChangeSpec := { name := "topFiles", fn := fun _ => fun
  | [d1, d2] => { results := [.lit (.bool false)], args := [d1, d2] }
  | _ => none }
def TopFilesWrongFalsely : Prop := topFilesRow.holds Try.pinned (OpenSpec.ofChange topFilesWrong)

/- THE SECOND FORM. 'bulk': how many values and letters a reading holds, each counted each time it is reached (what is shared counts as often as it is met; a slice's spare places count too). A statement '..UptoSaid' is the law's where the arguments, and the package variables that the reading takes, are together of bulk at most 1048576: NARROWER than '..Said'. Prove '..Said' where nothing that the law and all that it calls make is longer than what came in: it says more and counts as full. Else prove '..UptoSaid'. A law counts once. -/
mutual
def uptoBulk {H : Type} : DataW H → Nat
  | .lit (.string bytes) => bytes.length + 1
  | .lit _ => 1
  | .nil => 1
  | .ptr d => uptoBulk d + 1
  | .slice elems spare => uptoBulkAll elems + uptoBulkAll spare + 1
  | .agg parts => uptoBulkAll parts + 1
  | .iface _ d => uptoBulk d + 1
  | .map entries => uptoBulkEntries entries + 1
  | .held _ => 1
def uptoBulkAll {H : Type} : List (DataW H) → Nat
  | [] => 0
  | d :: r => uptoBulk d + uptoBulkAll r
def uptoBulkEntries {H : Type} : List (Lit × DataW H) → Nat
  | [] => 0
  | x :: r => uptoBulkEntry x + uptoBulkEntries r
def uptoBulkEntry {H : Type} : Lit × DataW H → Nat
  | (.string bytes, d) => bytes.length + uptoBulk d + 1
  | (_, d) => uptoBulk d + 1
 end
def uptoSmall : (H : Type) → List (DataW H) → Bool := fun _ ds => decide (uptoBulkAll ds ≤ 1048576)
def OpenSpec.upto (s : _root_.Go.ChangeSpec) : _root_.Go.OpenSpec := { _root_.Go.OpenSpec.ofChange s with cond := some uptoSmall }

/-- 'wardroomlaw.TreeSays', WHERE WHAT IT READS IS OF BULK AT MOST 1048576: true; the input reads as it did. -/
def treeSaysUptoRow : OpenClaim := { program := "ytmklfkjfgjagaaa", sum := "89f17ea6cedcbb99471c35c334825276f334fceaf7044bff1a4409c09556970b", func := "wardroom/wardroomlaw.TreeSays", spec := "treeSays", inPlace := ["slices.overlaps[string]", "slices.overlaps[int]"], apart := false, narrowed := true }
def TreeSaysUptoSaid : Prop := treeSaysUptoRow.holds Try.pinned (OpenSpec.upto treeSaysSpec)

/-- 'wardroomtop.TopMove', WHERE WHAT IT READS IS OF BULK AT MOST 1048576: true; the input reads as it did. -/
def topMoveUptoRow : OpenClaim := { program := "ytmklfkjfgjagaaa", sum := "89f17ea6cedcbb99471c35c334825276f334fceaf7044bff1a4409c09556970b", func := "wardroom/wardroomtop.TopMove", spec := "topMove", inPlace := ["slices.overlaps[string]", "slices.overlaps[int]"], apart := false, narrowed := true }
def TopMoveUptoSaid : Prop := topMoveUptoRow.holds Try.pinned (OpenSpec.upto topMoveSpec)

/-- 'wardroomtop.TopTree', WHERE WHAT IT READS IS OF BULK AT MOST 1048576: true; the input reads as it did. -/
def topTreeUptoRow : OpenClaim := { program := "ytmklfkjfgjagaaa", sum := "89f17ea6cedcbb99471c35c334825276f334fceaf7044bff1a4409c09556970b", func := "wardroom/wardroomtop.TopTree", spec := "topTree", inPlace := ["slices.overlaps[string]", "slices.overlaps[int]"], apart := false, narrowed := true }
def TopTreeUptoSaid : Prop := topTreeUptoRow.holds Try.pinned (OpenSpec.upto topTreeSpec)

/-- 'wardroomtop.TopFiles', WHERE WHAT IT READS IS OF BULK AT MOST 1048576: true; the input reads as it did. -/
def topFilesUptoRow : OpenClaim := { program := "ytmklfkjfgjagaaa", sum := "89f17ea6cedcbb99471c35c334825276f334fceaf7044bff1a4409c09556970b", func := "wardroom/wardroomtop.TopFiles", spec := "topFiles", inPlace := ["slices.overlaps[string]", "slices.overlaps[int]"], apart := false, narrowed := true }
def TopFilesUptoSaid : Prop := topFilesUptoRow.holds Try.pinned (OpenSpec.upto topFilesSpec)

end Rows
end Go.Proofs.Ytmklfkjfgjagaaa
