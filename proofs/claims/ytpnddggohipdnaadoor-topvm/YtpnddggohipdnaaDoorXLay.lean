import Derived.Test.YtpnddggohipdnaaDoorXVals
namespace Go.X
open Go
/-! ### layouts -/
theorem ite_both {c : Prop} [Decidable c] {α : Type} {a a' b b' : α} (h1 : c → a = a') (h2 : ¬ c → b = b') : (if c then a else b) = (if c then a' else b') := by
  by_cases h : c
  · rw [if_pos h, if_pos h]; exact h1 h
  · rw [if_neg h, if_neg h]; exact h2 h
def fset {α : Type} (f : Int → α) (i : Int) (v : α) : Int → α := fun j => if j = i then v else f j
theorem fset_ne {α : Type} (f : Int → α) {i : Int} (v : α) {j : Int} (h : ¬ j = i) : fset f i v j = f j := by simp [fset, h]
def fset2 {α : Type} (f : Int → Int → α) (i k : Int) (v : α) : Int → Int → α := fun j l => if j = i ∧ l = k then v else f j l
theorem fset2_same {α : Type} (f : Int → Int → α) {i k : Int} {v : α} (h : f i k = v) : fset2 f i k v = f := by
  funext j l; unfold fset2; split
  · rename_i h2; rw [h2.1, h2.2, h]
  · rfl
theorem fset_same {α : Type} (f : Int → α) {i : Int} {v : α} (h : f i = v) : fset f i v = f := by
  funext j; unfold fset; split
  · rename_i h2; rw [h2, h]
  · rfl
theorem fset_eq {α : Type} (f : Int → α) (i : Int) (v : α) : fset f i v i = v := by simp [fset]
theorem fset2_ne {α : Type} (f : Int → Int → α) {i k : Int} (v : α) {j l : Int} (h : ¬ j = i ∨ ¬ l = k) : fset2 f i k v j l = f j l := by
  unfold fset2; rw [if_neg]; rintro ⟨h1, h2⟩; rcases h with h | h <;> contradiction

end Go.X
