import Derived.Test.YtmklfkjfgjagaaaDoorXSlice
import Derived.Test.YtmklfkjfgjagaaaDoorXLay
import Derived.Test.YtmklfkjfgjagaaaDoorXBits
import Derived.Test.YtmklfkjfgjagaaaDoorXRes
import Derived.Test.YtmklfkjfgjagaaaDoorXFam
namespace Go.X
open Go
/-! ### names in order -/
abbrev blt (a b : ByteArray) : Bool := Op.bytesLess a.toList b.toList
theorem blt_iff (a b : ByteArray) : blt a b = true ↔ a.toList < b.toList := by unfold blt; rw [Go.Proofs.bytesLess_eq, decide_eq_true_eq]
theorem toList_inj {a b : ByteArray} (h : a.toList = b.toList) : a = b := by
  have := toList_beq a b
  rw [h] at this
  simpa using this.symm
theorem blt_irrefl (a : ByteArray) : blt a a = false := by
  cases h : blt a a with
  | false => rfl
  | true => exact absurd ((blt_iff a a).1 h) (List.lt_irrefl _)
theorem blt_trans {a b c : ByteArray} (h1 : blt a b = true) (h2 : blt b c = true) : blt a c = true := (blt_iff a c).2 (List.lt_trans ((blt_iff a b).1 h1) ((blt_iff b c).1 h2))
theorem blt_total (a b : ByteArray) : blt a b = true ∨ a = b ∨ blt b a = true := by
  rcases Decidable.em (a.toList < b.toList) with h | h
  · exact .inl ((blt_iff a b).2 h)
  · rcases Decidable.em (b.toList < a.toList) with q | q
    · exact .inr (.inr ((blt_iff b a).2 q))
    · refine .inr (.inl (toList_inj ?_))
      exact List.le_antisymm (List.not_lt.1 q) (List.not_lt.1 h)
theorem blt_asymm {a b : ByteArray} (h : blt a b = true) : blt b a = false := by
  cases q : blt b a with
  | false => rfl
  | true => have := blt_trans h q; rw [blt_irrefl] at this; cases this
abbrev ats (l : List ByteArray) (i : Nat) : ByteArray := l.getD i ByteArray.empty
def Rising (l : List ByteArray) : Prop := ∀ i j, i < j → j < l.length → blt (ats l i) (ats l j) = true
def posn : List ByteArray → ByteArray → Nat
  | [], _ => 0
  | y :: r, x => if blt y x = true then posn r x + 1 else 0
theorem posn_le : ∀ (l : List ByteArray) (x : ByteArray), posn l x ≤ l.length
  | [], _ => Nat.le_refl _
  | y :: r, x => by
    unfold posn
    split
    · simp; exact posn_le r x
    · omega
theorem posn_lt : ∀ (l : List ByteArray) (x : ByteArray) (i : Nat), i < posn l x → blt (ats l i) x = true
  | [], _, i, h => by simp [posn] at h
  | y :: r, x, i, h => by
    unfold posn at h
    split at h
    · cases i with
      | zero => simpa [ats] using (by assumption : blt y x = true)
      | succ i => simpa [ats] using posn_lt r x i (by omega)
    · omega
theorem posn_at : ∀ (l : List ByteArray) (x : ByteArray), posn l x < l.length → blt (ats l (posn l x)) x = false
  | [], _, h => by simp at h
  | y :: r, x, h => by
    unfold posn at h ⊢
    split
    · rename_i c
      rw [if_pos c] at h
      simpa [ats] using posn_at r x (by simpa using h)
    · rename_i c
      simpa [ats] using c
theorem posn_ge {l : List ByteArray} (hl : Rising l) (x : ByteArray) {i : Nat} (h : posn l x ≤ i) (hi : i < l.length) : blt (ats l i) x = false := by
  have h1 := posn_at l x (by omega)
  by_cases c : i = posn l x
  · subst c; exact h1
  · have h2 := hl (posn l x) i (by omega) hi
    cases q : blt (ats l i) x with
    | false => rfl
    | true => rw [blt_trans h2 q] at h1; cases h1
def hasn (l : List ByteArray) (x : ByteArray) : Bool := decide (posn l x < l.length ∧ ats l (posn l x) = x)
theorem bsGo_at (less : Nat → Bool) (k N : Nat) (h1 : ∀ t, t < k → less t = true) (h2 : ∀ t, k ≤ t → t < N → less t = false) : ∀ (f lo hi : Nat), hi - lo ≤ f → lo ≤ k → k ≤ hi → hi ≤ N → Go.Lib.bsGo less f lo hi = k
  | 0, lo, hi, hf, a, b, _ => by unfold Go.Lib.bsGo; omega
  | f + 1, lo, hi, hf, a, b, c => by
    unfold Go.Lib.bsGo
    by_cases h : lo < hi
    · rw [if_pos h]
      by_cases q : (lo + hi) / 2 < k
      · rw [h1 _ q, if_pos rfl]; exact bsGo_at less k N h1 h2 f _ _ (by omega) (by omega) b c
      · rw [h2 _ (by omega) (by omega), if_neg (by simp)]; exact bsGo_at less k N h1 h2 f _ _ (by omega) a (by omega) (by omega)
    · rw [if_neg h]; omega
theorem bsS_eq {l : List ByteArray} (hl : Rising l) (x : ByteArray) : bsS l x = posn l x :=
  bsGo_at _ (posn l x) l.length (fun t ht => posn_lt l x t ht) (fun t ht hn => posn_ge hl x ht hn) _ _ _ (by omega) (by omega) (posn_le l x) (Nat.le_refl _)
theorem bsHit_eq {l : List ByteArray} (hl : Rising l) (x : ByteArray) : bsHit l x = hasn l x := by
  unfold bsHit hasn
  rw [bsS_eq hl]
theorem hasn_iff {l : List ByteArray} {x : ByteArray} : hasn l x = true ↔ posn l x < l.length ∧ ats l (posn l x) = x := by unfold hasn; rw [decide_eq_true_eq]
/-- who is there stands at its place, and there alone -/
theorem at_posn {l : List ByteArray} (hl : Rising l) {x : ByteArray} {i : Nat} (hi : i < l.length) (h : ats l i = x) : i = posn l x := by
  rcases Nat.lt_trichotomy i (posn l x) with c | c | c
  · have := posn_lt l x i c
    rw [h, blt_irrefl] at this; cases this
  · exact c
  · have h1 := posn_at l x (by omega)
    have h2 := hl (posn l x) i c hi
    rw [h] at h2; rw [h2] at h1; cases h1
theorem hasn_no {l : List ByteArray} (hl : Rising l) {x : ByteArray} (h : hasn l x = false) {i : Nat} (hi : i < l.length) : ats l i ≠ x := fun e => by
  have h1 := at_posn hl hi e
  have : hasn l x = true := hasn_iff.2 ⟨by omega, by rw [← h1]; exact e⟩
  rw [h] at this; cases this
/-- behind its place all are greater -/
theorem posn_gt {l : List ByteArray} (hl : Rising l) {x : ByteArray} (h : hasn l x = false) {i : Nat} (h1 : posn l x ≤ i) (hi : i < l.length) : blt x (ats l i) = true := by
  rcases blt_total (ats l i) x with c | c | c
  · rw [posn_ge hl x h1 hi] at c; cases c
  · exact absurd c (hasn_no hl h hi)
  · exact c
theorem ats_insert (l : List ByteArray) (p : Nat) (x : ByteArray) (j : Nat) (hp : p ≤ l.length) : ats (l.insertIdx p x) j = if j < p then ats l j else if j = p then x else ats l (j - 1) := by
  unfold ats
  rw [List.getD, List.getElem?_insertIdx]
  by_cases c : j < p
  · rw [if_pos c, if_pos c]; rfl
  · rw [if_neg c, if_neg c]
    by_cases q : j = p
    · rw [if_pos q, if_pos q, if_pos (by omega)]; rfl
    · rw [if_neg q, if_neg q]; rfl
theorem ats_erase (l : List ByteArray) (p j : Nat) : ats (l.eraseIdx p) j = if j < p then ats l j else ats l (j + 1) := by
  unfold ats
  rw [List.getD, List.getElem?_eraseIdx]
  split <;> rfl
theorem Rising.insert {l : List ByteArray} (hl : Rising l) {x : ByteArray} (h : hasn l x = false) : Rising (l.insertIdx (posn l x) x) := fun i j hij hj => by
  have hp := posn_le l x
  rw [List.length_insertIdx, if_pos hp] at hj
  rw [ats_insert _ _ _ _ hp, ats_insert _ _ _ _ hp]
  by_cases c1 : j < posn l x
  · rw [if_pos c1, if_pos (by omega)]; exact hl i j hij (by omega)
  · rw [if_neg c1]
    by_cases c2 : j = posn l x
    · rw [if_pos c2, if_pos (by omega)]; exact posn_lt l x i (by omega)
    · rw [if_neg c2]
      by_cases c3 : i < posn l x
      · rw [if_pos c3]; exact hl i (j - 1) (by omega) (by omega)
      · rw [if_neg c3]
        by_cases c4 : i = posn l x
        · rw [if_pos c4]; exact posn_gt hl h (by omega) (by omega)
        · rw [if_neg c4]; exact hl (i - 1) (j - 1) (by omega) (by omega)
theorem Rising.erase {l : List ByteArray} (hl : Rising l) (p : Nat) (hp : p < l.length) : Rising (l.eraseIdx p) := fun i j hij hj => by
  rw [List.length_eraseIdx, if_pos hp] at hj
  rw [ats_erase, ats_erase]
  split <;> split
  · exact hl i j hij (by omega)
  · exact hl i (j + 1) (by omega) (by omega)
  · omega
  · exact hl (i + 1) (j + 1) (by omega) (by omega)
theorem Rising.nil : Rising [] := fun i j _ h => by simp at h
/-- may something be called so? -/
def okB (c : UInt8) : Bool := (decide (97 ≤ c.toNat) && decide (c.toNat ≤ 122)) || (decide (48 ≤ c.toNat) && decide (c.toNat ≤ 57)) || decide (c.toNat = 46)
def nameOk (s : ByteArray) : Bool := (List.range s.size).all (fun i => okB (s.get! i)) && (decide (1 ≤ s.size ∧ s.size ≤ 8) && (decide (s ≠ ⟨#[46]⟩) && decide (s ≠ ⟨#[46, 46]⟩)))
theorem get_of {s : ByteArray} {j : Nat} {u : UInt8} (h : s[j]? = some u) : s.get! j = u := by
  have hj : j < s.size := by
    rcases Nat.lt_or_ge j s.size with q | q
    · exact q
    · rw [getElem?_neg s j (by omega)] at h; cases h
  rw [getElem?_pos s j hj] at h
  have h2 := Option.some.inj h
  rw [← h2]
  show s.data[j]! = s.data[j]
  exact getElem!_pos s.data j hj
theorem get_some {s : ByteArray} {j : Nat} (h : j < s.size) : ∃ u, s[j]? = some u := ⟨s[j], getElem?_pos s j h⟩
theorem nameOk_bad {s : ByteArray} {j : Nat} (hj : j < s.size) (h : okB (s.get! j) = false) : nameOk s = false := by
  unfold nameOk
  have : (List.range s.size).all (fun i => okB (s.get! i)) = false := by
    rw [List.all_eq_false]
    exact ⟨j, List.mem_range.2 hj, by rw [h]; simp⟩
  rw [this]; rfl
theorem nameOk_all {s : ByteArray} (h : ∀ j, j < s.size → okB (s.get! j) = true) : nameOk s = (decide (1 ≤ s.size ∧ s.size ≤ 8) && (decide (s ≠ ⟨#[46]⟩) && decide (s ≠ ⟨#[46, 46]⟩))) := by
  unfold nameOk
  have : (List.range s.size).all (fun i => okB (s.get! i)) = true := by
    rw [List.all_eq_true]
    intro j hj
    exact h j (List.mem_range.1 hj)
  rw [this, Bool.true_and]
theorem size_nil {s : ByteArray} : s = ⟨#[]⟩ ↔ s.size = 0 := by
  constructor
  · rintro rfl; rfl
  · intro h
    cases s with
    | mk d => congr 1; exact Array.eq_empty_of_size_eq_zero h
theorem nameOk_len {s : ByteArray} (h : ¬ (1 ≤ s.size ∧ s.size ≤ 8)) : nameOk s = false := by
  unfold nameOk; rw [decide_eq_false h]; simp
theorem nameOk_dot {s : ByteArray} (h : s = ⟨#[46]⟩ ∨ s = ⟨#[46, 46]⟩) : nameOk s = false := by
  unfold nameOk
  rcases h with h | h
  · rw [decide_eq_false (p := s ≠ ⟨#[46]⟩) (fun q => q h)]; simp
  · rw [decide_eq_false (p := s ≠ ⟨#[46, 46]⟩) (fun q => q h)]; simp
/-! ### a forest -/
structure FF where
  kind : Int → Int
  tree : Int → Int
  links : Int → Int
  held : Int → Int
  up : Int → Int
  data : Int → ByteArray
  names : Int → List ByteArray
  kids : Int → List Int
  roots : List Int
structure FC extends FF where
  nP : Int → Option Addr
  nC : Int → Nat
  kP : Int → Option Addr
  kC : Int → Nat
  rP : Option Addr
  rC : Nat
/-- bytes written into bytes, noughts between -/
def wrB (d : ByteArray) (at_ : Nat) (x : ByteArray) : ByteArray := ⟨((List.range (max d.size (at_ + x.size))).map fun i => if at_ ≤ i ∧ i < at_ + x.size then x.get! (i - at_) else if i < d.size then d.get! i else 0).toArray⟩
namespace FF
def isE (s : FF) (n k : Int) : Int := if n < 0 ∨ 40 ≤ n then 1 else if s.kind n = 0 then 2 else if 0 < k ∧ s.kind n ≠ k then 11 else 0
def freeN (s : FF) : Nat → Int
  | 0 => -1
  | k + 1 => if s.kind (39 - (k : Int)) = 0 then 39 - (k : Int) else freeN s k
def free (s : FF) : Int := freeN s 40
def setN (s : FF) (z k t l u : Int) : FF := ⟨fset s.kind z k, fset s.tree z t, fset s.links z l, fset s.held z 0, fset s.up z u, fset s.data z ByteArray.empty, fset s.names z [], fset s.kids z [], s.roots⟩
def goneF (s : FF) (z : Int) : FF := if s.links z = 0 ∧ s.held z = 0 then s.setN z 0 0 0 0 else s
def plantE (s : FF) : Int := if s.roots.length = 4 then 4 else if s.free < 0 then 4 else 0
def plant (s : FF) : FF := if s.plantE = 0 then { s.setN s.free 2 (s.roots.length : Int) 1 s.free with roots := s.roots ++ [s.free] } else s
def plantV (s : FF) : Int := if s.plantE = 0 then (s.roots.length : Int) else 0
def rootE (s : FF) (t : Int) : Int := if t < 0 ∨ 4 ≤ t then 1 else if (s.roots.length : Int) ≤ t then 2 else 0
def rootV (s : FF) (t : Int) : Int := if s.rootE t = 0 then at0 s.roots t else 0
def putF (s : FF) (n : Int) (x : ByteArray) (k : Int) : FF := { s with names := fset s.names n ((s.names n).insertIdx (posn (s.names n) x) x), kids := fset s.kids n ((s.kids n).insertIdx (posn (s.names n) x) k) }
def cutF (s : FF) (n : Int) (x : ByteArray) : FF := { s with names := fset s.names n ((s.names n).eraseIdx (posn (s.names n) x)), kids := fset s.kids n ((s.kids n).eraseIdx (posn (s.names n) x)) }
def findE (s : FF) (n : Int) (x : ByteArray) : Int := if s.isE n 2 ≠ 0 then s.isE n 2 else if hasn (s.names n) x = true then 0 else 2
def findV (s : FF) (n : Int) (x : ByteArray) : Int := if s.findE n x = 0 then at0 (s.kids n) (posn (s.names n) x) else 0
def roomE (s : FF) (n : Int) (x : ByteArray) : Int := if s.isE n 2 ≠ 0 then s.isE n 2 else if nameOk x = false then 9 else if hasn (s.names n) x = true then 3 else if (s.names n).length = 8 then 4 else 0
def makeE (s : FF) (n : Int) (x : ByteArray) (k : Int) : Int := if k ≠ 1 ∧ k ≠ 2 then 1 else if s.roomE n x ≠ 0 then s.roomE n x else if s.free < 0 then 4 else 0
def makeV (s : FF) (n : Int) (x : ByteArray) (k : Int) : Int := if s.makeE n x k = 0 then s.free else 0
def make (s : FF) (n : Int) (x : ByteArray) (k : Int) : FF := if s.makeE n x k = 0 then (s.setN s.free k (s.tree n) 1 n).putF n x s.free else s
def linkE (s : FF) (kid n : Int) (x : ByteArray) : Int := if s.isE kid 1 ≠ 0 then s.isE kid 1 else if s.roomE n x ≠ 0 then s.roomE n x else if s.tree kid ≠ s.tree n then 11 else 0
def link (s : FF) (kid n : Int) (x : ByteArray) : FF := if s.linkE kid n x = 0 then { s.putF n x kid with links := fset s.links kid (s.links kid + 1) } else s
def busy (s : FF) (k : Int) : Prop := s.kind k = 2 ∧ (0 < (s.kids k).length ∨ 0 < s.held k)
instance (s : FF) (k : Int) : Decidable (s.busy k) := by unfold busy; infer_instance
def removeE (s : FF) (n : Int) (x : ByteArray) : Int := if s.findE n x ≠ 0 then s.findE n x else if s.busy (s.findV n x) then 5 else 0
def remove (s : FF) (n : Int) (x : ByteArray) : FF := if s.removeE n x = 0 then goneF { s.cutF n x with links := fset s.links (s.findV n x) (s.links (s.findV n x) - 1) } (s.findV n x) else s
def undF (s : FF) : Nat → Int → Int → Bool
  | 0, n, k => decide (n = k)
  | f + 1, n, k => if n = k then true else if s.up n = n then false else undF s f (s.up n) k
def und (d : Int → Nat) (s : FF) (n k : Int) : Bool := undF s (d n) n k
def moveE0 (d : Int → Nat) (s : FF) (n : Int) (x : ByteArray) (to : Int) : Int := if s.findE n x ≠ 0 then s.findE n x else if s.isE to 2 ≠ 0 then s.isE to 2 else if s.tree n ≠ s.tree to then 11 else if s.kind (s.findV n x) = 2 ∧ und d s to (s.findV n x) = true then 5 else 0
def moveE (d : Int → Nat) (s : FF) (n : Int) (x : ByteArray) (to : Int) (y : ByteArray) : Int := if s.moveE0 d n x to ≠ 0 then s.moveE0 d n x to else (s.cutF n x).roomE to y
def move (d : Int → Nat) (s : FF) (n : Int) (x : ByteArray) (to : Int) (y : ByteArray) : FF :=
  if s.moveE0 d n x to ≠ 0 then s else if (s.cutF n x).roomE to y ≠ 0 then (s.cutF n x).putF n x (s.findV n x) else
    if s.kind (s.findV n x) = 2 then { (s.cutF n x).putF to y (s.findV n x) with up := fset s.up (s.findV n x) to } else (s.cutF n x).putF to y (s.findV n x)
def hold (s : FF) (n : Int) : FF := if s.isE n 0 = 0 then { s with held := fset s.held n (s.held n + 1) } else s
def letE (s : FF) (n : Int) : Int := if s.isE n 0 ≠ 0 then s.isE n 0 else if s.held n = 0 then 8 else 0
def letF (s : FF) (n : Int) : FF := if s.letE n = 0 then goneF { s with held := fset s.held n (s.held n - 1) } n else s
def readE (s : FF) (n at_ m : Int) : Int := if s.isE n 1 ≠ 0 then s.isE n 1 else if at_ < 0 ∨ m < 0 then 1 else 0
def readV (s : FF) (n at_ m : Int) : ByteArray := if s.readE n at_ m = 0 then (s.data n).extract (min at_ (s.data n).size).toNat (min at_ (s.data n).size + min m ((s.data n).size - min at_ (s.data n).size)).toNat else ByteArray.empty
def writeE (s : FF) (n at_ : Int) (x : ByteArray) : Int := if s.isE n 1 ≠ 0 then s.isE n 1 else if at_ < 0 then 1 else if 40 < at_ ∨ 40 - at_ < (x.size : Int) then 4 else 0
def write (s : FF) (n at_ : Int) (x : ByteArray) : FF := if s.writeE n at_ x = 0 ∧ x ≠ ByteArray.empty then { s with data := fset s.data n (wrB (s.data n) at_.toNat x) } else s
def clipE (s : FF) (n z : Int) : Int := if s.isE n 1 ≠ 0 then s.isE n 1 else if z < 0 ∨ ((s.data n).size : Int) < z then 1 else 0
def clip (s : FF) (n z : Int) : FF := if s.clipE n z = 0 then { s with data := fset s.data n ((s.data n).extract 0 z.toNat) } else s
def cntN (s : FF) : Nat → Int
  | 0 => 0
  | k + 1 => cntN s k + (if 0 < s.kind (k : Int) then 1 else 0)
def nodes (s : FF) : Int := cntN s 40
def void : FF := ⟨fun _ => 0, fun _ => 0, fun _ => 0, fun _ => 0, fun _ => 0, fun _ => ByteArray.empty, fun _ => [], fun _ => [], []⟩
def sumK (f : Int → List Int) (k : Int) : Nat → Nat
  | 0 => 0
  | n + 1 => sumK f k n + (f (n : Int)).count k
/-- how many names (and roots) lead to a node -/
def cnt (s : FF) (k : Int) : Nat := sumK s.kids k 40 + s.roots.count k
/-- what the code needs to run -/
structure Sh (s : FF) : Prop where
  rise : ∀ n, 0 ≤ n → n < 40 → Rising (s.names n) ∧ (s.names n).length = (s.kids n).length ∧ (s.names n).length ≤ 8 ∧ (s.kind n ≠ 2 → s.names n = [])
  kids : ∀ n, 0 ≤ n → n < 40 → ∀ k ∈ s.kids n, 0 ≤ k ∧ k < 40
  data : ∀ n, 0 ≤ n → n < 40 → (s.data n).size ≤ 40
  roots : s.roots.length ≤ 4 ∧ ∀ r ∈ s.roots, 0 ≤ r ∧ r < 40
  num : ∀ n, 0 ≤ n → n < 40 → -1000000 ≤ s.links n ∧ s.links n ≤ 1000000 ∧ 0 ≤ s.held n ∧ s.held n ≤ 1000000
/-- what is always so; but for the node e, which has one name more to come, and for q, which may be about to go -/
structure InvX (s : FF) (d : Int → Nat) (e q : Int) : Prop where
  kinds : ∀ n, 0 ≤ n → n < 40 → s.kind n = 0 ∨ s.kind n = 1 ∨ s.kind n = 2
  rise : ∀ n, 0 ≤ n → n < 40 → Rising (s.names n) ∧ (s.names n).length = (s.kids n).length ∧ (s.names n).length ≤ 8 ∧ (s.kind n ≠ 2 → s.names n = [])
  nok : ∀ n, 0 ≤ n → n < 40 → ∀ x ∈ s.names n, nameOk x = true
  kids : ∀ n, 0 ≤ n → n < 40 → ∀ k ∈ s.kids n, 0 ≤ k ∧ k < 40 ∧ s.kind k ≠ 0 ∧ s.tree k = s.tree n ∧ (s.kind k = 2 → s.up k = n ∧ d n < d k)
  data : ∀ n, 0 ≤ n → n < 40 → (s.data n).size ≤ 40 ∧ (s.kind n ≠ 1 → s.data n = ByteArray.empty)
  roots : s.roots.length ≤ 4 ∧ ∀ r ∈ s.roots, 0 ≤ r ∧ r < 40 ∧ s.kind r = 2 ∧ s.up r = r
  up : ∀ n, 0 ≤ n → n < 40 → s.kind n = 2 → n ≠ e → n ≠ q → (n ∈ s.roots ∧ s.up n = n) ∨ (0 ≤ s.up n ∧ s.up n < 40 ∧ s.kind (s.up n) = 2 ∧ n ∈ s.kids (s.up n) ∧ d (s.up n) < d n)
  num : ∀ n, 0 ≤ n → n < 40 → 0 ≤ s.held n ∧ s.links n = (s.cnt n : Int) + (if n = e then 1 else 0)
  zero : ∀ n, 0 ≤ n → n < 40 → s.kind n = 0 → s.links n = 0 ∧ s.held n = 0
  pos : ∀ n, 0 ≤ n → n < 40 → s.kind n ≠ 0 → n ≠ q → 0 < s.links n ∨ 0 < s.held n
  dir : ∀ n, 0 ≤ n → n < 40 → s.kind n = 2 → n ≠ q → s.links n = 1
abbrev Inv (s : FF) (d : Int → Nat) : Prop := s.InvX d (-1) (-1)
theorem isE_0 {s : FF} {n : Int} (h : s.isE n 0 = 0) : 0 ≤ n ∧ n < 40 ∧ s.kind n ≠ 0 := by
  unfold isE at h
  split at h
  · omega
  · split at h
    · omega
    · exact ⟨by omega, by omega, by assumption⟩
theorem isE_k0 {s : FF} {n k : Int} (h : s.isE n k = 0) : 0 ≤ n ∧ n < 40 ∧ s.kind n ≠ 0 ∧ (0 < k → s.kind n = k) := by
  unfold isE at h
  split at h
  · omega
  · split at h
    · omega
    · split at h
      · omega
      · exact ⟨by omega, by omega, by assumption, fun _ => by omega⟩
theorem isE_k {s : FF} {n k : Int} (h : s.isE n 0 ≠ 0) : s.isE n 0 = s.isE n k := by
  unfold isE at h ⊢
  split
  · rfl
  · rename_i c
    rw [if_neg c] at h
    split
    · rfl
    · rename_i c2
      rw [if_neg c2, if_neg (by omega)] at h
      exact absurd rfl h
theorem isE_nn (s : FF) (n k : Int) : 0 ≤ s.isE n k := by unfold isE; split <;> (try split) <;> (try split) <;> omega
end FF
def fam40 : Nat → Bool := fun i => Nat.blt i 40
def FC.rowsN (e : TypeId) (s : FC) : Nat → RowD := fun i => ⟨.slice (s.nP (i : Int)) (s.names (i : Int)).length (s.nC (i : Int)), e, 1, (s.names (i : Int)).length, strs (s.names (i : Int))⟩
def FC.rowsK (e : TypeId) (s : FC) : Nat → RowD := fun i => ⟨.slice (s.kP (i : Int)) (s.kids (i : Int)).length (s.kC (i : Int)), e, 1, (s.kids (i : Int)).length, ints (s.kids (i : Int))⟩
def FC.void : FC := ⟨FF.void, fun _ => none, fun _ => 0, fun _ => none, fun _ => 0, none, 0⟩

end Go.X
