/-
  No cell of these rows narrows 'for every input' (looked for: loops, veiled, ifaces, maps, wideKeys, modest, calm, conditions, laid).
  DERIVED. THE GIVEN ROWS OF THIS SEAT. 4 by the template 'for every input the law returns true; each argument reads behind the call as it read before'; 0 by the template 'total and deterministic' (their statements: YtfpdkhncfkefhaaTotals.lean).
  GIVEN WITH THE SEED: the statements are not yours to turn. If you find one false, say at which input.
  Laid BY PROGRAM, IN A SANDBOX (cutbox-rows.mjs): the forced cells as the released guide's own fill.sh prints them over the translation 7c872313d4cd1cc2… (all of the seat's roots in one cut). By AI agents, Wed Nov 11 2026. No macro, syntax, notation, axiom, sorry.
-/
import Derived.Test.YtfpdkhncfkefhaaChecked
import GoSem.Claim
import GoSem.ClaimJoined
import GoSem.ClaimMapViews
import Derived.JoinedTies
import Derived.KernelRfl
namespace Go.Proofs.Ytfpdkhncfkefhaa
/- THE CELL 'sum', in the pinned program and in every row, IS THE sha256 OF THE DUMP (.gsa) THAT YtfpdkhncfkefhaaProg.lean LOADS. Nothing in Lean hashes anything: it is a label: what it is worth is what the hold of that sum in a sandbox is worth. -/
noncomputable def Try.pinned : Pinned := { name := "ytfpdkhncfkefhaa", sum := "7c872313d4cd1cc2311b0709cc71f0f12dfc1dbe4c6c3158f7b3d8b0ad9c6bbd", checked := Try.checked }
namespace Rows
def none {H : Type} : Left H := { results := [], args := [] }

/-- 'wardroomlaw.FairSays': WHATEVER THE INPUT: true; the input reads as it did. -/
def fairSaysSpec : ChangeSpec := { name := "fairSays", fn := fun _ => fun
  | [d] => { results := [.lit (.bool true)], args := [d] }
  | _ => none }
def fairSaysRow : OpenClaim := { program := "ytfpdkhncfkefhaa", sum := "7c872313d4cd1cc2311b0709cc71f0f12dfc1dbe4c6c3158f7b3d8b0ad9c6bbd", func := "wardroom/wardroomlaw.FairSays", spec := "fairSays", apart := false }
def FairSaysSaid : Prop := fairSaysRow.holds Try.pinned (OpenSpec.ofChange fairSaysSpec)

/-- ITS FALSE NEIGHBOUR: 'it returns false'. Refute it at one input. -/
def fairSaysWrong : ChangeSpec := { name := "fairSays", fn := fun _ => fun
  | [d] => { results := [.lit (.bool false)], args := [d] }
  | _ => none }
def FairSaysWrongFalsely : Prop := fairSaysRow.holds Try.pinned (OpenSpec.ofChange fairSaysWrong)

/-- 'wardroomtop.TopWake': WHATEVER THE INPUT: true; the input reads as it did. -/
def topWakeSpec : ChangeSpec := { name := "topWake", fn := fun _ => fun
  | [d1, d2] => { results := [.lit (.bool true)], args := [d1, d2] }
  | _ => none }
def topWakeRow : OpenClaim := { program := "ytfpdkhncfkefhaa", sum := "7c872313d4cd1cc2311b0709cc71f0f12dfc1dbe4c6c3158f7b3d8b0ad9c6bbd", func := "wardroom/wardroomtop.TopWake", spec := "topWake", apart := false }
def TopWakeSaid : Prop := topWakeRow.holds Try.pinned (OpenSpec.ofChange topWakeSpec)

/-- ITS FALSE NEIGHBOUR: 'it returns false'. Refute it at one input. -/
def topWakeWrong : ChangeSpec := { name := "topWake", fn := fun _ => fun
  | [d1, d2] => { results := [.lit (.bool false)], args := [d1, d2] }
  | _ => none }
def TopWakeWrongFalsely : Prop := topWakeRow.holds Try.pinned (OpenSpec.ofChange topWakeWrong)

/-- 'wardroomtop.TopFair': WHATEVER THE INPUT: true; the input reads as it did. -/
def topFairSpec : ChangeSpec := { name := "topFair", fn := fun _ => fun
  | [d1, d2, d3] => { results := [.lit (.bool true)], args := [d1, d2, d3] }
  | _ => none }
def topFairRow : OpenClaim := { program := "ytfpdkhncfkefhaa", sum := "7c872313d4cd1cc2311b0709cc71f0f12dfc1dbe4c6c3158f7b3d8b0ad9c6bbd", func := "wardroom/wardroomtop.TopFair", spec := "topFair", apart := false }
def TopFairSaid : Prop := topFairRow.holds Try.pinned (OpenSpec.ofChange topFairSpec)

/-- ITS FALSE NEIGHBOUR: 'it returns false'. Refute it at one input. -/
def topFairWrong : ChangeSpec := { name := "topFair", fn := fun _ => fun
  | [d1, d2, d3] => { results := [.lit (.bool false)], args := [d1, d2, d3] }
  | _ => none }
def TopFairWrongFalsely : Prop := topFairRow.holds Try.pinned (OpenSpec.ofChange topFairWrong)

/-- 'wardroomtop.TopQuota': WHATEVER THE INPUT: true; the input reads as it did. -/
def topQuotaSpec : ChangeSpec := { name := "topQuota", fn := fun _ => fun
  | [d1, d2, d3] => { results := [.lit (.bool true)], args := [d1, d2, d3] }
  | _ => none }
def topQuotaRow : OpenClaim := { program := "ytfpdkhncfkefhaa", sum := "7c872313d4cd1cc2311b0709cc71f0f12dfc1dbe4c6c3158f7b3d8b0ad9c6bbd", func := "wardroom/wardroomtop.TopQuota", spec := "topQuota", apart := false }
def TopQuotaSaid : Prop := topQuotaRow.holds Try.pinned (OpenSpec.ofChange topQuotaSpec)

/-- ITS FALSE NEIGHBOUR: 'it returns false'. Refute it at one input. -/
def topQuotaWrong : ChangeSpec := { name := "topQuota", fn := fun _ => fun
  | [d1, d2, d3] => { results := [.lit (.bool false)], args := [d1, d2, d3] }
  | _ => none }
def TopQuotaWrongFalsely : Prop := topQuotaRow.holds Try.pinned (OpenSpec.ofChange topQuotaWrong)

/- THE SECOND FORM. 'bulk': how many values and letters a reading holds, each counted each time it is reached (what is shared counts as often as it is met; a slice's spare places count too). A statement '..UptoSaid' is the law's where the arguments, and the package variables that the reading takes, are together of bulk at most 1048576: NARROWER than '..Said'. Prove '..Said' where nothing that the law and all that it calls make is longer than what came in: it says more and counts as full. Else prove '..UptoSaid'. A law counts once. -/
mutual
def uptoBulk {H : Type} : DataW H → Nat
  | .lit (.string bytes) => bytes.length + 1
  | .lit _ => 1
  | .nil => 1
  | .ptr d => uptoBulk d + 1
  | .slice elems spare => uptoBulkAll elems + uptoBulkAll spare + 1
  | .agg parts => uptoBulkAll parts + 1
  | .iface _ d => uptoBulk d + 1
  | .map entries => uptoBulkEntries entries + 1
  | .held _ => 1
def uptoBulkAll {H : Type} : List (DataW H) → Nat
  | [] => 0
  | d :: r => uptoBulk d + uptoBulkAll r
def uptoBulkEntries {H : Type} : List (Lit × DataW H) → Nat
  | [] => 0
  | x :: r => uptoBulkEntry x + uptoBulkEntries r
def uptoBulkEntry {H : Type} : Lit × DataW H → Nat
  | (.string bytes, d) => bytes.length + uptoBulk d + 1
  | (_, d) => uptoBulk d + 1
 end
def uptoSmall : (H : Type) → List (DataW H) → Bool := fun _ ds => decide (uptoBulkAll ds ≤ 1048576)
def OpenSpec.upto (s : _root_.Go.ChangeSpec) : _root_.Go.OpenSpec := { _root_.Go.OpenSpec.ofChange s with cond := some uptoSmall }

/-- 'wardroomlaw.FairSays', WHERE WHAT IT READS IS OF BULK AT MOST 1048576: true; the input reads as it did. -/
def fairSaysUptoRow : OpenClaim := { program := "ytfpdkhncfkefhaa", sum := "7c872313d4cd1cc2311b0709cc71f0f12dfc1dbe4c6c3158f7b3d8b0ad9c6bbd", func := "wardroom/wardroomlaw.FairSays", spec := "fairSays", apart := false, narrowed := true }
def FairSaysUptoSaid : Prop := fairSaysUptoRow.holds Try.pinned (OpenSpec.upto fairSaysSpec)

/-- 'wardroomtop.TopWake', WHERE WHAT IT READS IS OF BULK AT MOST 1048576: true; the input reads as it did. -/
def topWakeUptoRow : OpenClaim := { program := "ytfpdkhncfkefhaa", sum := "7c872313d4cd1cc2311b0709cc71f0f12dfc1dbe4c6c3158f7b3d8b0ad9c6bbd", func := "wardroom/wardroomtop.TopWake", spec := "topWake", apart := false, narrowed := true }
def TopWakeUptoSaid : Prop := topWakeUptoRow.holds Try.pinned (OpenSpec.upto topWakeSpec)

/-- 'wardroomtop.TopFair', WHERE WHAT IT READS IS OF BULK AT MOST 1048576: true; the input reads as it did. -/
def topFairUptoRow : OpenClaim := { program := "ytfpdkhncfkefhaa", sum := "7c872313d4cd1cc2311b0709cc71f0f12dfc1dbe4c6c3158f7b3d8b0ad9c6bbd", func := "wardroom/wardroomtop.TopFair", spec := "topFair", apart := false, narrowed := true }
def TopFairUptoSaid : Prop := topFairUptoRow.holds Try.pinned (OpenSpec.upto topFairSpec)

/-- 'wardroomtop.TopQuota', WHERE WHAT IT READS IS OF BULK AT MOST 1048576: true; the input reads as it did. -/
def topQuotaUptoRow : OpenClaim := { program := "ytfpdkhncfkefhaa", sum := "7c872313d4cd1cc2311b0709cc71f0f12dfc1dbe4c6c3158f7b3d8b0ad9c6bbd", func := "wardroom/wardroomtop.TopQuota", spec := "topQuota", apart := false, narrowed := true }
def TopQuotaUptoSaid : Prop := topQuotaUptoRow.holds Try.pinned (OpenSpec.upto topQuotaSpec)

end Rows
end Go.Proofs.Ytfpdkhncfkefhaa
