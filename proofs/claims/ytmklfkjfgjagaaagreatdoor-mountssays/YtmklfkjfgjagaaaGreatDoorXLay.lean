import Derived.Test.YtmklfkjfgjagaaaGreatDoorXVals
namespace Go.X
open Go
/-! ### layouts -/
def fset {α : Type} (f : Int → α) (i : Int) (v : α) : Int → α := fun j => if j = i then v else f j
theorem fset_ne {α : Type} (f : Int → α) {i : Int} (v : α) {j : Int} (h : ¬ j = i) : fset f i v j = f j := by simp [fset, h]
def fset2 {α : Type} (f : Int → Int → α) (i k : Int) (v : α) : Int → Int → α := fun j l => if j = i ∧ l = k then v else f j l
theorem fset_same {α : Type} (f : Int → α) {i : Int} {v : α} (h : f i = v) : fset f i v = f := by
  funext j; unfold fset; split
  · rename_i h2; rw [h2, h]
  · rfl
theorem fset_eq {α : Type} (f : Int → α) (i : Int) (v : α) : fset f i v i = v := by simp [fset]
end Go.X
