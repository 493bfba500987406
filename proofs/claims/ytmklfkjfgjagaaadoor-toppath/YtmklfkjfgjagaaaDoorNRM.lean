import Derived.Test.YtmklfkjfgjagaaaDoorNP2
namespace Go.X
open Go
/-! ### what the document's loops compute -/
namespace FF
theorem freeN_skip (s : FF) : ∀ (i : Nat), i ≤ 40 → (∀ j : Int, 0 ≤ j → j < i → s.kind j ≠ 0) → s.freeN (40 - i) = s.free
  | 0, _, _ => rfl
  | i + 1, h, ho => by
    rw [← freeN_skip s i (by omega) (fun j a b => ho j a (by omega))]
    obtain ⟨k, hk⟩ : ∃ k, 40 - i = k + 1 := ⟨39 - i, by omega⟩
    rw [hk, show 40 - (i + 1) = k by omega]
    conv => rhs; unfold freeN
    rw [if_neg]
    have := ho (i : Int) (by omega) (by omega)
    rw [show (39 - (k : Int)) = (i : Int) by omega]
    exact this
theorem free_at {s : FF} {i : Int} (h1 : 0 ≤ i) (h2 : i < 40) (ho : ∀ j, 0 ≤ j → j < i → s.kind j ≠ 0) (hz : s.kind i = 0) : s.free = i := by
  have h := freeN_skip s i.toNat (by omega) (fun j a b => ho j a (by omega))
  rw [← h]
  obtain ⟨k, hk⟩ : ∃ k, 40 - i.toNat = k + 1 := ⟨39 - i.toNat, by omega⟩
  rw [hk]
  unfold freeN
  rw [show (39 - (k : Int)) = i by omega, if_pos hz]
theorem free_none {s : FF} (ho : ∀ j, 0 ≤ j → j < 40 → s.kind j ≠ 0) : s.free = -1 := by
  have h := freeN_skip s 40 (Nat.le_refl _) (fun j a b => ho j a (by omega))
  rw [← h]; rfl
end FF
/-- where a name stands, or -1 -/
def placeR (l : List ByteArray) (x : ByteArray) : Int := if hasn l x = true then (posn l x : Int) else -1
theorem place_at {l : List ByteArray} (hl : Rising l) {x : ByteArray} {i : Nat} (hi : i < l.length) (h : ats l i = x) : placeR l x = i := by
  have h1 := at_posn hl hi h
  have h2 : hasn l x = true := hasn_iff.2 ⟨by omega, by rw [← h1]; exact h⟩
  unfold placeR
  rw [if_pos h2, h1]
theorem place_no {l : List ByteArray} {x : ByteArray} (h : ∀ i, i < l.length → ats l i ≠ x) : placeR l x = -1 := by
  unfold placeR
  rw [if_neg]
  intro c
  obtain ⟨p1, p2⟩ := hasn_iff.1 c
  exact h _ p1 p2
theorem place_neg {l : List ByteArray} {x : ByteArray} : placeR l x < 0 ↔ hasn l x = false := by
  unfold placeR
  cases hasn l x <;> simp
/-- the lists so far, as a name is put -/
def putT {α : Type} (l : List α) (p : Nat) (x : α) (i : Nat) : List α := if p < i then (l.take i).insertIdx p x else l.take i
theorem putT_end {α : Type} (l : List α) (p : Nat) (x : α) (h : p < l.length) : putT l p x l.length = l.insertIdx p x := by
  unfold putT; rw [if_pos h, List.take_length]
theorem putT_end2 {α : Type} (l : List α) (x : α) : putT l l.length x l.length ++ [x] = l.insertIdx l.length x := by
  unfold putT; rw [if_neg (by omega), List.take_length]; simp
theorem ins_end {α : Type} (x : α) : ∀ l : List α, l.insertIdx l.length x = l ++ [x]
  | [] => rfl
  | a :: l => by rw [List.length_cons, List.insertIdx_succ_cons, ins_end x l]; rfl
theorem ins_append {α : Type} (x y : α) : ∀ (l : List α) (p : Nat), p ≤ l.length → (l ++ [y]).insertIdx p x = l.insertIdx p x ++ [y]
  | l, 0, _ => by simp
  | a :: l, p + 1, h => by
    rw [List.cons_append, List.insertIdx_succ_cons, List.insertIdx_succ_cons, ins_append x y l p (by simpa using h)]; rfl
theorem take_snoc {α : Type} (l : List α) (i : Nat) (y : α) (h : i < l.length) : l.take (i + 1) = l.take i ++ [l.getD i y] := by
  rw [List.take_add_one, List.getD, List.getElem?_eq_getElem h]; rfl
theorem putT_next {α : Type} (l : List α) (p : Nat) (x : α) (i : Nat) (y : α) (h : i < l.length) (hp : p ≠ i) : putT l p x (i + 1) = putT l p x i ++ [l.getD i y] := by
  unfold putT
  by_cases c : p < i
  · rw [if_pos (by omega), if_pos c, take_snoc l i y h, ins_append _ _ _ _ (by simp; omega)]
  · rw [if_neg (by omega), if_neg c, take_snoc l i y h]
theorem putT_here {α : Type} (l : List α) (x : α) (i : Nat) (y : α) (h : i < l.length) : putT l i x (i + 1) = putT l i x i ++ [x] ++ [l.getD i y] := by
  unfold putT
  rw [if_pos (by omega), if_neg (by omega), take_snoc l i y h, ins_append _ _ _ _ (by simp; omega)]
  have e := ins_end x (l.take i)
  rw [show (l.take i).length = i by simp; omega] at e
  rw [e]
/-- and as one is cut -/
def cutT {α : Type} (l : List α) (p i : Nat) : List α := (l.take i).eraseIdx p
theorem cutT_next {α : Type} (l : List α) (p i : Nat) (y : α) (h : i < l.length) (hp : p ≠ i) : cutT l p (i + 1) = cutT l p i ++ [l.getD i y] := by
  unfold cutT
  rw [take_snoc l i y h]
  by_cases c : p < i
  · rw [List.eraseIdx_append_of_lt_length (by simp; omega)]
  · rw [List.eraseIdx_append_of_length_le (by simp; omega), List.eraseIdx_of_length_le (by simp; omega), List.eraseIdx_of_length_le (by simp; omega)]
theorem cutT_here {α : Type} (l : List α) (p : Nat) (h : p < l.length) : cutT l p (p + 1) = cutT l p p := by
  unfold cutT
  apply List.ext_getElem?
  intro j
  rw [List.getElem?_eraseIdx, List.getElem?_eraseIdx]
  by_cases c : j < p
  · rw [if_pos c, if_pos c, List.getElem?_take_of_lt (by omega), List.getElem?_take_of_lt c]
  · rw [if_neg c, if_neg c, List.getElem?_take_eq_none (by omega), List.getElem?_take_eq_none (by omega)]
theorem cutT_end {α : Type} (l : List α) (p : Nat) : cutT l p l.length = l.eraseIdx p := by unfold cutT; rw [List.take_length]
/-- bytes read one by one -/
def readT (d : ByteArray) (a i : Int) : ByteArray := d.extract a.toNat i.toNat
theorem putT_len {α : Type} (l : List α) (p : Nat) (x : α) (i : Nat) : (putT l p x i).length ≤ l.length + 1 := by
  unfold putT
  split
  · rw [List.length_insertIdx]; split <;> simp <;> omega
  · simp; omega
theorem cutT_len {α : Type} (l : List α) (p i : Nat) : (cutT l p i).length ≤ l.length := by
  unfold cutT
  rw [List.length_eraseIdx]; split <;> simp <;> omega
theorem cutT_0 {α : Type} (l : List α) (p : Nat) : cutT l p (0 : Int).toNat = [] := by unfold cutT; simp
namespace FF
theorem findE_nn (s : FF) (n : Int) (x : ByteArray) : 0 ≤ s.findE n x := by
  have := isE_nn s n 2
  unfold findE; split
  · exact this
  · split <;> omega
theorem roomE_nn (s : FF) (n : Int) (x : ByteArray) : 0 ≤ s.roomE n x := by
  have := isE_nn s n 2
  unfold roomE; split
  · exact this
  · split
    · omega
    · split
      · omega
      · split <;> omega
end FF
theorem extract_self (d : ByteArray) (a : Nat) : d.extract a a = ⟨#[]⟩ := size_nil.2 (by rw [ByteArray.size_extract]; omega)
theorem extract_snoc (d : ByteArray) (a i : Nat) (j k : Int) (h1 : a ≤ i) (h2 : i < d.size) (h3 : j.toNat = i) (h4 : k.toNat = i + 1) : d.extract a i ++ d.extract j.toNat k.toNat = d.extract a k.toNat := by
  rw [h3, h4, ByteArray.extract_append_extract, Nat.min_eq_left h1, Nat.max_eq_right (by omega)]
theorem read_end (d : ByteArray) (a i m : Int) (h0 : 0 ≤ a) (h00 : 0 ≤ m) (h1 : a ≤ i) (h2 : i ≤ d.size ∨ i = a) (h3 : i - a ≤ m) (h4 : (d.size : Int) ≤ i ∨ i - a = m) :
    d.extract (min a d.size).toNat (min a d.size + min m (d.size - min a d.size)).toNat = d.extract a.toNat i.toNat := by
  by_cases c : a ≤ d.size
  · rw [show (min a (d.size : Int)).toNat = a.toNat by omega, show (min a (d.size : Int) + min m (d.size - min a (d.size : Int))).toNat = i.toNat by omega]
  · rw [size_nil.2 (show (d.extract (min a (d.size : Int)).toNat (min a (d.size : Int) + min m (d.size - min a (d.size : Int))).toNat).size = 0 by rw [ByteArray.size_extract]; omega), size_nil.2 (show (d.extract a.toNat i.toNat).size = 0 by rw [ByteArray.size_extract]; omega)]

end Go.X
