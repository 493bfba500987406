import Derived.Test.YtmklfkjfgjagaaaGreatDoorXMore
import Derived.Shelf.Slices.Cells
import Derived.Shelf.Slices.Empties
import Derived.Shelf.Slices.Clone
import Derived.Shelf.Spec.SearchS
import Derived.Shelf.Spec.SlicesInsertGrow
namespace Go.X
open Go Go.Proofs Go.Shelf
/-! ### slices.BinarySearch, Insert, Delete, Clone by the kit's contracts, as contracts of this engine -/
def strs (l : List ByteArray) : List Value := l.map Value.string
def sat0 (l : List ByteArray) (z : Int) : ByteArray := l.getD z.toNat ByteArray.empty
theorem strs_at {l : List ByteArray} {z : Int} (h : 0 ≤ z ∧ z < l.length) : (strs l)[0 + z.toNat * 1]? = some (.string (sat0 l z)) := by
  have h2 : z.toNat < l.length := by omega
  simp [strs, sat0, List.getD, h2]
abbrev srow (p : Option Addr) (cap : Nat) (e : TypeId) (l : List ByteArray) : Ent := .row (.slice p l.length cap) e 1 l.length (strs l)
/-- a run of cells written into an array -/
def setA (A : Array Value) : Nat → List Value → Array Value
  | _, [] => A
  | o, v :: r => setA (A.setIfInBounds o v) (o + 1) r
theorem setA_size : ∀ (vs : List Value) (A : Array Value) (o : Nat), (setA A o vs).size = A.size
  | [], A, o => rfl
  | v :: r, A, o => by rw [setA, setA_size r]; simp
theorem setA_at : ∀ (vs : List Value) (A : Array Value) (o i : Nat), o + vs.length ≤ A.size → (setA A o vs)[i]? = if o ≤ i ∧ i < o + vs.length then vs[i - o]? else A[i]?
  | [], A, o, i, _ => by rw [setA, if_neg (by simp only [List.length_nil]; omega)]
  | v :: r, A, o, i, h => by
    simp only [List.length_cons] at h ⊢
    rw [setA, setA_at r _ (o + 1) i (by simp; omega)]
    by_cases c : i = o
    · subst c
      rw [if_neg (by omega), if_pos (by omega), Array.getElem?_setIfInBounds]
      simp
      try omega
    · by_cases q : o ≤ i ∧ i < o + (r.length + 1)
      · rw [if_pos (by omega), if_pos q, show i - o = (i - (o + 1)) + 1 by omega, List.getElem?_cons_succ]
      · rw [if_neg (by omega), if_neg q, Array.getElem?_setIfInBounds, if_neg (fun e => c e.symm)]
theorem heap_setCells_row {g : Nat} {t : TypeId} {fz : Nat × Nat} : ∀ (vs : List Value) (o : Nat) (w : World) (cur : Array Value), w.heap[g]? = some (.cells cur t fz) → (w.setCells g o vs).heap[g]? = some (.cells (setA cur o vs) t fz)
  | [], o, w, cur, h => h
  | v :: r, o, w, cur, h => by
    rw [World.setCells, setA]
    exact heap_setCells_row r (o + 1) _ _ (by simp [World.setCell, Array.getElem?_modify, h])
theorem keep_setCells {g : Nat} {t : TypeId} {fz : Nat × Nat} {S : Nat → Nat → Prop} (hS : ∀ o, S g o) : ∀ (vs : List Value) (o : Nat) (w : World) (cur : Array Value), w.heap[g]? = some (.cells cur t fz) → Keep w (w.setCells g o vs) S
  | [], o, w, cur, h => Keep.refl _ _
  | v :: r, o, w, cur, h => by
    rw [World.setCells]
    have h1 : Keep w (w.setCell ⟨g, o, none⟩ v) S := by
      have := Keep.setCell (i := 0) (o := o) h v (S := S) (hS _)
      rwa [Nat.add_zero] at this
    have h2 : (w.setCell ⟨g, o, none⟩ v).heap[g]? = some (.cells (cur.setIfInBounds o v) t fz) := by simp [World.setCell, Array.getElem?_modify, h]
    exact h1.trans (keep_setCells hS r (o + 1) _ _ h2) (fun _ _ q _ => q) (fun _ _ q _ => q)
theorem Keep.more {a b : World} {S T : Nat → Nat → Prop} (h : Keep a b S) (hST : ∀ x o, S x o → T x o) : Keep a b T :=
  ⟨h.os, h.tape, h.output, h.size, fun b hb hn => h.same b hb (fun o q => hn o (hST b o q)), fun b A t fz hA => by
    obtain ⟨A', h1, h2, h3⟩ := h.part b A t fz hA
    exact ⟨A', h1, h2, fun o hn => h3 o (fun q => hn (hST b o q))⟩⟩
section
variable {P : Program} {ρ : Ren}
/-- what a call leaves of a row, as the engine wants it -/
structure Left (w w' : World) (v v' : Value) (e : TypeId) (k' : Nat) (xs' : List Value) : Prop where
  row : (Ent.row v' e 1 k' xs').holds w'
  keep : Keep w w' (fun b _ => v.ownBlock = some b)
  own : ∀ b, v'.ownBlock = some b → v.ownBlock = some b ∨ w.heap.size ≤ b
theorem Left.xm {w w' : World} {v v' : Value} {e : TypeId} {k k' : Nat} {xs xs' : List Value} {H : List Ent} (h : Left w w' v v' e k' xs') (hg : Good (.row v e 1 k xs :: H) w) :
    XM w (foot (.row v e 1 k xs :: H)) (.row v' e 1 k' xs' :: H) w' :=
  (XM.start hg).write .here rfl (fun b o ha => h.own b ha) (h.keep.more fun _ _ q => q) h.row
theorem row_view {w : World} {p : Option Addr} {cap k : Nat} {e : TypeId} {xs : List Value} (h : (Ent.row (.slice p k cap) e 1 k xs).holds w) :
    (p = none ∧ cap = 0 ∧ k = 0 ∧ xs = []) ∨ ∃ g cur, p = some ⟨g, 0, none⟩ ∧ w.heap[g]? = some (.cells cur e (0, 0)) ∧ k ≤ cap ∧ cap ≤ maxLen ∧ cur.size = cap ∧ xs.length = k ∧ cur.toList.take k = xs := by
  rcases h.2 with ⟨hv, rfl⟩ | ⟨g, cap', cur, hv, _, h1, h2, h3, h4, h5⟩
  · simp only [Value.slice.injEq] at hv
    obtain ⟨rfl, _, rfl⟩ := hv
    exact .inl ⟨rfl, rfl, rfl, List.eq_nil_of_length_eq_zero (by simpa using h.1)⟩
  · simp only [Value.slice.injEq, true_and] at hv
    obtain ⟨rfl, rfl⟩ := hv
    exact .inr ⟨g, cur, rfl, h1, h2, h3, by simpa using h4, by simpa using h.1, by simpa using h5⟩
theorem frozen_row {w : World} {g : Nat} {cur : Array Value} {e : TypeId} (h : w.heap[g]? = some (.cells cur e (0, 0))) (j : Nat) : w.frozen? ⟨g, j, none⟩ = false := by
  simp [World.frozen?, h]
theorem some_row {w : World} {g : Nat} {cur : Array Value} {e : TypeId} (h : w.heap[g]? = some (.cells cur e (0, 0))) {j : Nat} (hj : j < cur.size) : (w.cell? ⟨g, j, none⟩).isSome = true := by
  simp [World.cell?, h, hj]
theorem take_cur {cur : Array Value} {k : Nat} {xs : List Value} (h : cur.toList.take k = xs) (hk : k ≤ cur.size) {i : Nat} (hi : i < k) : cur[i]? = xs[i]? := by
  rw [← h, List.getElem?_take_of_lt hi, Array.getElem?_toList]
theorem insert_at (xs : List Value) (x : Value) (i j : Nat) (hi : i ≤ xs.length) : (xs.take i ++ x :: xs.drop i)[j]? = if j < i then xs[j]? else if j = i then some x else xs[j - 1]? := by
  by_cases c : j < i
  · rw [if_pos c, List.getElem?_append_left (by simp; omega), List.getElem?_take_of_lt c]
  · rw [if_neg c, List.getElem?_append_right (by simp; omega)]
    simp only [List.length_take, Nat.min_eq_left hi]
    by_cases q : j = i
    · subst q; rw [if_pos rfl]; simp
    · rw [if_neg q, show j - i = (j - i - 1) + 1 by omega, List.getElem?_cons_succ, List.getElem?_drop, show i + (j - i - 1) = j - 1 by omega]
/-- in place: the row, one longer -/
theorem left_shift {w : World} {g cap k i : Nat} {cur : Array Value} {e : TypeId} {xs : List Value} {x : Value} (h1 : w.heap[g]? = some (.cells cur e (0, 0))) (h2 : k + 1 ≤ cap) (h3 : cap ≤ maxLen) (h4 : cur.size = cap) (h5 : cur.toList.take k = xs) (h6 : xs.length = k) (hi : i ≤ k) (q : Nat) :
    Left w ((((w.drewN q).setCells g (0 + (i + 1)) (xs.drop i))).setCells g (0 + i) [x]) (.slice (some ⟨g, 0, none⟩) k cap) (.slice (some ⟨g, 0, none⟩) (k + 1) cap) e (k + 1) (xs.take i ++ x :: xs.drop i) := by
  have a0 : (w.drewN q).heap[g]? = some (.cells cur e (0, 0)) := h1
  have a1 := heap_setCells_row (xs.drop i) (0 + (i + 1)) _ _ a0
  have a2 := heap_setCells_row [x] (0 + i) _ _ a1
  have hl : (xs.drop i).length = k - i := by simp [h6]
  refine ⟨⟨by simp [h6]; omega, .inr ⟨g, cap, _, rfl, Nat.zero_le _, a2, h2, h3, by rw [setA_size, setA_size, h4]; simp, ?_⟩⟩, ?_, fun b hb => .inl hb⟩
  · apply List.ext_getElem?
    intro j
    rw [insert_at _ _ _ _ (by omega), Nat.mul_one]
    by_cases hj : j < k + 1
    · rw [List.getElem?_take_of_lt hj, Array.getElem?_toList, setA_at _ _ _ _ (by rw [setA_size]; simp; omega), setA_at _ _ _ _ (by rw [hl]; omega)]
      by_cases c : j < i
      · rw [if_neg (by simp; omega), if_neg (by omega), if_pos c, take_cur h5 (by omega) (by omega)]
      · rw [if_neg c]
        by_cases q2 : j = i
        · subst q2; rw [if_pos (by simp), if_pos rfl]; simp
        · rw [if_neg (by simp; omega), if_pos (by rw [hl]; omega), if_neg q2, List.getElem?_drop]
          congr 1; omega
    · rw [List.getElem?_take_eq_none (by omega), if_neg (by omega), if_neg (by omega), List.getElem?_eq_none (by omega)]
  · have k1 : Keep w (w.drewN q) (fun b _ => (Value.slice (some ⟨g, 0, none⟩) k cap).ownBlock = some b) := ⟨rfl, rfl, rfl, Nat.le_refl _, fun _ _ _ => rfl, fun _ A _ _ h => ⟨A, h, rfl, fun _ _ => rfl⟩⟩
    have k2 := keep_setCells (S := fun b _ => (Value.slice (some ⟨g, 0, none⟩) k cap).ownBlock = some b) (fun _ => rfl) (xs.drop i) (0 + (i + 1)) _ _ a0
    have k3 := keep_setCells (S := fun b _ => (Value.slice (some ⟨g, 0, none⟩) k cap).ownBlock = some b) (fun _ => rfl) [x] (0 + i) _ _ a1
    exact (k1.trans k2 (fun _ _ q _ => q) (fun _ _ q _ => q)).trans k3 (fun _ _ q _ => q) (fun _ _ q _ => q)
/-- in new memory -/
theorem left_grow {w w' : World} {p : Option Addr} {cap k i C : Nat} {cur : Array Value} {e : TypeId} {xs : List Value} {x : Value} (hk : Keep w w' (fun _ _ => False)) (h1 : w'.heap[w.heap.size]? = some (.cells cur e (0, 0))) (h2 : k + 1 ≤ C) (h3 : C ≤ maxLen) (h4 : cur.size = C) (h6 : xs.length = k) (hi : i ≤ k)
    (h5 : ∀ j, j < k + 1 → cur[j]? = (xs.take i ++ x :: xs.drop i)[j]?) :
    Left w w' (.slice p k cap) (.slice (some ⟨w.heap.size, 0, none⟩) (k + 1) C) e (k + 1) (xs.take i ++ x :: xs.drop i) := by
  have hl : (xs.take i ++ x :: xs.drop i).length = k + 1 := by simp; omega
  refine ⟨⟨by rw [hl]; omega, .inr ⟨w.heap.size, C, cur, rfl, Nat.zero_le _, h1, h2, h3, by rw [h4]; omega, ?_⟩⟩, hk.more (fun _ _ q => q.elim), fun b hb => .inr (by simp only [Value.ownBlock, Option.some.injEq] at hb; omega)⟩
  apply List.ext_getElem?
  intro j
  by_cases hj : j < k + 1
  · rw [List.getElem?_take_of_lt (by omega), Array.getElem?_toList]; exact h5 j hj
  · rw [List.getElem?_take_eq_none (by omega), List.getElem?_eq_none (by omega)]

set_option maxHeartbeats 1000000 in
theorem insert_string (L : Lays2.n22 P ρ) (p : Option Addr) (cap : Nat) (l : List ByteArray) (i : Nat) (hi : i ≤ l.length) (x : ByteArray) (vb : Nat) (e2 : TypeId) (hl : l.length ≤ 1000000) :
    Spec P (ρ.f 22) [.slice p l.length cap, .int .i64 i, .slice (some ⟨vb, 0, none⟩) 1 1] [srow p cap (ρ.t 9) l, .row (.slice (some ⟨vb, 0, none⟩) 1 1) e2 1 1 [.string x]]
      (fun v H1 => ∃ p' cap', v = .slice p' (l.length + 1) cap' ∧ H1 = [.row (.slice p' (l.length + 1) cap') (ρ.t 9) 1 (l.length + 1) (strs (l.insertIdx i x)), .row (.slice (some ⟨vb, 0, none⟩) 1 1) e2 1 1 [.string x]]) := by
  intro w hw
  have hrow : (srow p cap (ρ.t 9) l).holds w := hw.1 _ (by simp)
  have harg : (Ent.row (.slice (some ⟨vb, 0, none⟩) 1 1) e2 1 1 [.string x]).holds w := hw.1 _ (by simp)
  obtain ⟨cur2, q1, _, _, q4, q5⟩ := frow_open harg
  have hvs : ∀ j v, ([.string x] : List Value)[j]? = some v → w.cell? ⟨vb, 0 + j, none⟩ = some v := fun j v hj => cell_of_row harg hj
  have h1v : ∀ v ∈ ([.string x] : List Value), v.oneCell' = true := fun v hv => by
    simp only [List.mem_singleton] at hv
    subst hv; rfl
  have hins : strs (l.insertIdx i x) = (strs l).take i ++ .string x :: (strs l).drop i := by
    unfold strs
    apply List.ext_getElem?
    intro j
    rw [insert_at _ _ _ _ (by simpa using hi), List.getElem?_map, List.getElem?_insertIdx]
    by_cases c : j < i
    · rw [if_pos c, if_pos c, List.getElem?_map]
    · rw [if_neg c, if_neg c]
      by_cases q : j = i
      · subst q; rw [if_pos rfl, if_pos rfl, if_pos (by simpa using hi)]; rfl
      · rw [if_neg q, if_neg q, List.getElem?_map]
  have hlen : (strs l).length = l.length := by simp [strs]
  have fin : ∀ {ee : Ending} {w' : World} {p' : Option Addr} {cap' : Nat}, ee = .returned (.slice p' (l.length + 1) cap') → Left w w' (.slice p l.length cap) (.slice p' (l.length + 1) cap') (ρ.t 9) (l.length + 1) ((strs l).take i ++ .string x :: (strs l).drop i) →
      ∃ v H', ee = .returned v ∧ (∃ p' cap', v = .slice p' (l.length + 1) cap' ∧ H' = [Ent.row (.slice p' (l.length + 1) cap') (ρ.t 9) 1 (l.length + 1) (strs (l.insertIdx i x)), .row (.slice (some ⟨vb, 0, none⟩) 1 1) e2 1 1 [.string x]]) ∧ H'.all Ent.wr = true ∧ XM w (foot [srow p cap (ρ.t 9) l, .row (.slice (some ⟨vb, 0, none⟩) 1 1) e2 1 1 [.string x]]) H' w' := fun he hL =>
    ⟨_, _, he, ⟨_, _, rfl, rfl⟩, rfl, by rw [hins]; exact hL.xm hw⟩
  have hzero : ∀ k, (Builtin.zeroCells (Value.string ⟨#[]⟩).cells k).size = k := fun k => by rw [size_zeroCells]; simp [Value.cells]
  have grown : ∀ (w' : World) (C : Nat) (cur : Array Value), Keep w w' (fun _ _ => False) → w'.heap[w.heap.size]? = some (.cells cur (ρ.t 9) (0, 0)) → l.length + 1 ≤ C → C ≤ maxLen → cur.size = C → (∀ j, j < l.length + 1 → cur[j]? = ((strs l).take i ++ .string x :: (strs l).drop i)[j]?) →
      Left w w' (.slice p l.length cap) (.slice (some ⟨w.heap.size, 0, none⟩) (l.length + 1) C) (ρ.t 9) (l.length + 1) ((strs l).take i ++ .string x :: (strs l).drop i) := fun w' C cur a1 a2 a3 a4 a5 a6 => left_grow a1 a2 a3 a4 a5 hlen hi a6
  have endgrow : i = l.length → cap < l.length + 1 → l.length ≤ cap → (p = none → l.length = 0) → (∀ a, p = some a → ∀ j v, (strs l)[j]? = some v → w.cell? (a.add j) = some v) → Calls P (ρ.f 22) #[.slice p l.length cap, .int .i64 i, .slice (some ⟨vb, 0, none⟩) 1 1] w fun e w' => ∃ v H', e = .returned v ∧ (∃ p' cap', v = .slice p' (l.length + 1) cap' ∧ H' = [Ent.row (.slice p' (l.length + 1) cap') (ρ.t 9) 1 (l.length + 1) (strs (l.insertIdx i x)), .row (.slice (some ⟨vb, 0, none⟩) 1 1) e2 1 1 [.string x]]) ∧ H'.all Ent.wr = true ∧ XM w (foot [srow p cap (ρ.t 9) l, .row (.slice (some ⟨vb, 0, none⟩) 1 1) e2 1 1 [.string x]]) H' w' := by
    intro hie hroom hcap hnil hcs
    subst hie
    refine (Any2.slices_Insert_string_end_grow L p l.length cap vb 0 1 1 (strs l) [.string x] w (by omega) hcap hroom (by omega) hlen rfl hnil hcs hvs h1v).mono fun ee w' ⟨he, hw'⟩ => ?_
    subst hw'
    have hge := grownCap_ge w (l.length + 1) cap (ρ.t 9)
    have hcm : grownCap w (l.length + 1) cap (ρ.t 9) ≤ maxLen := grownCap_le_maxLen w (l.length + 1) cap (ρ.t 9) (by simp only [maxLen]; omega)
    refine fin he (grown _ _ _ (keep_drew (keep_alloc w.drew _ _)) (heap_alloc_new w.drew _) hge hcm ?_ fun j hj => ?_)
    · rw [Array.size_append, hzero]; simp [hlen]; omega
    · rw [Array.getElem?_append_left (by simp [hlen]; omega), List.getElem?_toArray, List.take_of_length_le (by omega), List.drop_of_length_le (by omega)]
  rcases row_view hrow with ⟨rfl, rfl, hk, hx⟩ | ⟨g, cur, rfl, h1, h2, h3, h4, h5, h6⟩
  · exact endgrow (by omega) (by omega) (by omega) (fun _ => hk) (fun a ha => by cases ha)
  · have hne : vb ≠ g := fun e => by
      have hp := List.pairwise_cons.1 hw.2
      exact hp.1 (Ent.row (.slice (some ⟨vb, 0, none⟩) 1 1) e2 1 1 [.string x]) (by simp) rfl g 0 rfl (by simp only [Ent.area, Value.ownBlock]; rw [e])
    have hcs : ∀ j v, (strs l)[j]? = some v → w.cell? ⟨g, 0 + j, none⟩ = some v := fun j v hj => cell_of_row hrow hj
    have h1c : ∀ v ∈ strs l, v.oneCell' = true := fun v hv => by
      obtain ⟨y, _, rfl⟩ := List.mem_map.1 hv
      rfl
    have hm63 : cap ≤ 9223372036854775807 := by simp only [maxLen] at h3; omega
    by_cases hroom : l.length + 1 ≤ cap
    · by_cases hie : i = l.length
      · subst hie
        refine (Any2.slices_Insert_string_end_room L g 0 l.length cap vb 0 1 1 [.string x] w (by omega) hroom hm63 rfl (fun j hj => some_row h1 (by omega)) (fun j _ => frozen_row h1 _) hvs h1v).mono fun ee w' ⟨he, hw'⟩ => ?_
        subst hw'
        have hL := left_shift (i := l.length) (x := .string x) h1 hroom h3 h4 h6 h5 (by omega) 0
        rw [List.drop_of_length_le (show (strs l).length ≤ l.length by omega)] at hL
        rw [List.drop_of_length_le (show (strs l).length ≤ l.length by omega)] at fin
        exact fin he hL
      · refine (Any2.slices_Insert_string_shift L g 0 l.length cap i vb 0 1 1 (strs l) [.string x] w (by omega) (by omega) hroom hm63 hne hlen rfl hcs (fun j hj => some_row h1 (by omega)) (fun j _ => frozen_row h1 _) hvs h1c h1v e2 (ρ.t 9) cur2.size cur.size
          (by simp [World.shape?, q1]) (by simp [World.shape?, h1]) (by omega) (frozen_row q1 _) (frozen_row q1 _)).mono fun ee w' ⟨he, hw'⟩ => ?_
        subst hw'
        exact fin he (left_shift (i := i) (x := .string x) h1 hroom h3 h4 h6 h5 (by omega) 1)
    · by_cases hie : i = l.length
      · refine endgrow hie (by omega) h2 (fun q => by cases q) (fun a ha j v hj => ?_)
        obtain rfl : a = ⟨g, 0, none⟩ := (Option.some.inj ha).symm
        have := hcs j v hj
        have e0 : (⟨g, 0, none⟩ : Addr).add j = ⟨g, 0 + j, none⟩ := by cases j <;> simp [Addr.add]
        rw [e0]; exact this
      · refine (Any2.slices_Insert_string_grow L g 0 l.length cap i vb 0 1 1 (strs l) [.string x] w (by omega) (by omega) h2 (by omega) (by omega) hlen rfl hcs hvs h1c h1v).mono fun ee w' ⟨he, hw'⟩ => ?_
        have hge := grownCap_ge w (l.length + 1) cap (ρ.t 9)
        have hcm : grownCap w (l.length + 1) cap (ρ.t 9) ≤ maxLen := grownCap_le_maxLen w (l.length + 1) cap (ρ.t 9) (by simp only [maxLen]; omega)
        generalize hA : ((strs l).take i).toArray ++ Builtin.zeroCells (Value.string ⟨#[]⟩).cells (l.length + 1 - i) ++ Builtin.zeroCells (Value.string ⟨#[]⟩).cells (grownCap w (l.length + 1) cap (ρ.t 9) - (l.length + 1)) = A0 at hw'
        have hAs : A0.size = grownCap w (l.length + 1) cap (ρ.t 9) := by
          rw [← hA, Array.size_append, Array.size_append, hzero, hzero]; simp [hlen]; omega
        have b0 : (w.alloc (.cells A0 (ρ.t 9))).drew.heap[w.heap.size]? = some (.cells A0 (ρ.t 9) (0, 0)) := heap_alloc_new w _
        have b1 := heap_setCells_row [.string x] i _ _ b0
        have b2 : (((w.alloc (.cells A0 (ρ.t 9))).drew.setCells w.heap.size i [.string x]).drew).heap[w.heap.size]? = _ := b1
        have b3 := heap_setCells_row ((strs l).drop i) (i + 1) _ _ b2
        subst hw'
        refine fin he (grown _ _ _ ?_ b3 hge hcm (by rw [setA_size, setA_size, hAs]) fun j hj => ?_)
        · have k0 : Keep w (w.alloc (.cells A0 (ρ.t 9))).drew (fun _ _ => False) := by
            have := keep_alloc w (.cells A0 (ρ.t 9)) (fun _ _ => False)
            exact ⟨this.os, this.tape, this.output, this.size, this.same, this.part⟩
          have k1 := keep_setCells (S := fun b _ => b = w.heap.size) (fun _ => rfl) [.string x] i _ _ b0
          have k1' : Keep (w.alloc (.cells A0 (ρ.t 9))).drew (((w.alloc (.cells A0 (ρ.t 9))).drew.setCells w.heap.size i [.string x]).drew) (fun b _ => b = w.heap.size) := ⟨k1.os, k1.tape, k1.output, k1.size, k1.same, k1.part⟩
          have k2 := keep_setCells (S := fun b _ => b = w.heap.size) (fun _ => rfl) ((strs l).drop i) (i + 1) _ _ b2
          exact k0.trans (k1'.trans k2 (fun _ _ q _ => q) (fun _ _ q _ => q)) (fun _ _ q _ => q) (fun y o q hy => by omega)
        · have hd : ((strs l).drop i).length = l.length - i := by simp [hlen]
          rw [insert_at _ _ _ _ (by omega), setA_at _ _ _ _ (by rw [setA_size, hAs, hd]; omega), setA_at _ _ _ _ (by rw [hAs]; simp; omega)]
          by_cases c : j < i
          · rw [if_neg (by omega), if_neg (by simp; omega), if_pos c, ← hA, Array.getElem?_append_left (by rw [Array.size_append, hzero]; simp [hlen]; omega), Array.getElem?_append_left (by simp [hlen]; omega), List.getElem?_toArray, List.getElem?_take_of_lt c]
          · rw [if_neg c]
            by_cases q : j = i
            · subst q; rw [if_neg (by omega), if_pos (by simp), if_pos rfl]; simp
            · rw [if_pos (by rw [hd]; omega), if_neg q, List.getElem?_drop]
              congr 1; omega

set_option maxHeartbeats 1000000 in
theorem insert_int (L : Lays2.n21 P ρ) (p : Option Addr) (cap : Nat) (l : List Int) (i : Nat) (hi : i ≤ l.length) (x : Int) (vb : Nat) (e2 : TypeId) (hl : l.length ≤ 1000000) :
    Spec P (ρ.f 21) [.slice p l.length cap, .int .i64 i, .slice (some ⟨vb, 0, none⟩) 1 1] [irow p cap (ρ.t 3) l, .row (.slice (some ⟨vb, 0, none⟩) 1 1) e2 1 1 [.int .i64 x]]
      (fun v H1 => ∃ p' cap', v = .slice p' (l.length + 1) cap' ∧ H1 = [.row (.slice p' (l.length + 1) cap') (ρ.t 3) 1 (l.length + 1) (ints (l.insertIdx i x)), .row (.slice (some ⟨vb, 0, none⟩) 1 1) e2 1 1 [.int .i64 x]]) := by
  intro w hw
  have hrow : (irow p cap (ρ.t 3) l).holds w := hw.1 _ (by simp)
  have harg : (Ent.row (.slice (some ⟨vb, 0, none⟩) 1 1) e2 1 1 [.int .i64 x]).holds w := hw.1 _ (by simp)
  obtain ⟨cur2, q1, _, _, q4, q5⟩ := frow_open harg
  have hvs : ∀ j v, ([.int .i64 x] : List Value)[j]? = some v → w.cell? ⟨vb, 0 + j, none⟩ = some v := fun j v hj => cell_of_row harg hj
  have h1v : ∀ v ∈ ([.int .i64 x] : List Value), v.oneCell' = true := fun v hv => by
    simp only [List.mem_singleton] at hv
    subst hv; rfl
  have hins : ints (l.insertIdx i x) = (ints l).take i ++ .int .i64 x :: (ints l).drop i := by
    unfold ints
    apply List.ext_getElem?
    intro j
    rw [insert_at _ _ _ _ (by simpa using hi), List.getElem?_map, List.getElem?_insertIdx]
    by_cases c : j < i
    · rw [if_pos c, if_pos c, List.getElem?_map]
    · rw [if_neg c, if_neg c]
      by_cases q : j = i
      · subst q; rw [if_pos rfl, if_pos rfl, if_pos (by simpa using hi)]; rfl
      · rw [if_neg q, if_neg q, List.getElem?_map]
  have hlen : (ints l).length = l.length := by simp [ints]
  have fin : ∀ {ee : Ending} {w' : World} {p' : Option Addr} {cap' : Nat}, ee = .returned (.slice p' (l.length + 1) cap') → Left w w' (.slice p l.length cap) (.slice p' (l.length + 1) cap') (ρ.t 3) (l.length + 1) ((ints l).take i ++ .int .i64 x :: (ints l).drop i) →
      ∃ v H', ee = .returned v ∧ (∃ p' cap', v = .slice p' (l.length + 1) cap' ∧ H' = [Ent.row (.slice p' (l.length + 1) cap') (ρ.t 3) 1 (l.length + 1) (ints (l.insertIdx i x)), .row (.slice (some ⟨vb, 0, none⟩) 1 1) e2 1 1 [.int .i64 x]]) ∧ H'.all Ent.wr = true ∧ XM w (foot [irow p cap (ρ.t 3) l, .row (.slice (some ⟨vb, 0, none⟩) 1 1) e2 1 1 [.int .i64 x]]) H' w' := fun he hL =>
    ⟨_, _, he, ⟨_, _, rfl, rfl⟩, rfl, by rw [hins]; exact hL.xm hw⟩
  have hzero : ∀ k, (Builtin.zeroCells (Value.int .i64 0).cells k).size = k := fun k => by rw [size_zeroCells]; simp [Value.cells]
  have grown : ∀ (w' : World) (C : Nat) (cur : Array Value), Keep w w' (fun _ _ => False) → w'.heap[w.heap.size]? = some (.cells cur (ρ.t 3) (0, 0)) → l.length + 1 ≤ C → C ≤ maxLen → cur.size = C → (∀ j, j < l.length + 1 → cur[j]? = ((ints l).take i ++ .int .i64 x :: (ints l).drop i)[j]?) →
      Left w w' (.slice p l.length cap) (.slice (some ⟨w.heap.size, 0, none⟩) (l.length + 1) C) (ρ.t 3) (l.length + 1) ((ints l).take i ++ .int .i64 x :: (ints l).drop i) := fun w' C cur a1 a2 a3 a4 a5 a6 => left_grow a1 a2 a3 a4 a5 hlen hi a6
  have endgrow : i = l.length → cap < l.length + 1 → l.length ≤ cap → (p = none → l.length = 0) → (∀ a, p = some a → ∀ j v, (ints l)[j]? = some v → w.cell? (a.add j) = some v) → Calls P (ρ.f 21) #[.slice p l.length cap, .int .i64 i, .slice (some ⟨vb, 0, none⟩) 1 1] w fun e w' => ∃ v H', e = .returned v ∧ (∃ p' cap', v = .slice p' (l.length + 1) cap' ∧ H' = [Ent.row (.slice p' (l.length + 1) cap') (ρ.t 3) 1 (l.length + 1) (ints (l.insertIdx i x)), .row (.slice (some ⟨vb, 0, none⟩) 1 1) e2 1 1 [.int .i64 x]]) ∧ H'.all Ent.wr = true ∧ XM w (foot [irow p cap (ρ.t 3) l, .row (.slice (some ⟨vb, 0, none⟩) 1 1) e2 1 1 [.int .i64 x]]) H' w' := by
    intro hie hroom hcap hnil hcs
    subst hie
    refine (Any2.slices_Insert_int_end_grow L p l.length cap vb 0 1 1 (ints l) [.int .i64 x] w (by omega) hcap hroom (by omega) hlen rfl hnil hcs hvs h1v).mono fun ee w' ⟨he, hw'⟩ => ?_
    subst hw'
    have hge := grownCap_ge w (l.length + 1) cap (ρ.t 3)
    have hcm : grownCap w (l.length + 1) cap (ρ.t 3) ≤ maxLen := grownCap_le_maxLen w (l.length + 1) cap (ρ.t 3) (by simp only [maxLen]; omega)
    refine fin he (grown _ _ _ (keep_drew (keep_alloc w.drew _ _)) (heap_alloc_new w.drew _) hge hcm ?_ fun j hj => ?_)
    · rw [Array.size_append, hzero]; simp [hlen]; omega
    · rw [Array.getElem?_append_left (by simp [hlen]; omega), List.getElem?_toArray, List.take_of_length_le (by omega), List.drop_of_length_le (by omega)]
  rcases row_view hrow with ⟨rfl, rfl, hk, hx⟩ | ⟨g, cur, rfl, h1, h2, h3, h4, h5, h6⟩
  · exact endgrow (by omega) (by omega) (by omega) (fun _ => hk) (fun a ha => by cases ha)
  · have hne : vb ≠ g := fun e => by
      have hp := List.pairwise_cons.1 hw.2
      exact hp.1 (Ent.row (.slice (some ⟨vb, 0, none⟩) 1 1) e2 1 1 [.int .i64 x]) (by simp) rfl g 0 rfl (by simp only [Ent.area, Value.ownBlock]; rw [e])
    have hcs : ∀ j v, (ints l)[j]? = some v → w.cell? ⟨g, 0 + j, none⟩ = some v := fun j v hj => cell_of_row hrow hj
    have h1c : ∀ v ∈ ints l, v.oneCell' = true := fun v hv => by
      obtain ⟨y, _, rfl⟩ := List.mem_map.1 hv
      rfl
    have hm63 : cap ≤ 9223372036854775807 := by simp only [maxLen] at h3; omega
    by_cases hroom : l.length + 1 ≤ cap
    · by_cases hie : i = l.length
      · subst hie
        refine (Any2.slices_Insert_int_end_room L g 0 l.length cap vb 0 1 1 [.int .i64 x] w (by omega) hroom hm63 rfl (fun j hj => some_row h1 (by omega)) (fun j _ => frozen_row h1 _) hvs h1v).mono fun ee w' ⟨he, hw'⟩ => ?_
        subst hw'
        have hL := left_shift (i := l.length) (x := .int .i64 x) h1 hroom h3 h4 h6 h5 (by omega) 0
        rw [List.drop_of_length_le (show (ints l).length ≤ l.length by omega)] at hL
        rw [List.drop_of_length_le (show (ints l).length ≤ l.length by omega)] at fin
        exact fin he hL
      · refine (Any2.slices_Insert_int_shift L g 0 l.length cap i vb 0 1 1 (ints l) [.int .i64 x] w (by omega) (by omega) hroom hm63 hne hlen rfl hcs (fun j hj => some_row h1 (by omega)) (fun j _ => frozen_row h1 _) hvs h1c h1v e2 (ρ.t 3) cur2.size cur.size
          (by simp [World.shape?, q1]) (by simp [World.shape?, h1]) (by omega) (frozen_row q1 _) (frozen_row q1 _)).mono fun ee w' ⟨he, hw'⟩ => ?_
        subst hw'
        exact fin he (left_shift (i := i) (x := .int .i64 x) h1 hroom h3 h4 h6 h5 (by omega) 1)
    · by_cases hie : i = l.length
      · refine endgrow hie (by omega) h2 (fun q => by cases q) (fun a ha j v hj => ?_)
        obtain rfl : a = ⟨g, 0, none⟩ := (Option.some.inj ha).symm
        have := hcs j v hj
        have e0 : (⟨g, 0, none⟩ : Addr).add j = ⟨g, 0 + j, none⟩ := by cases j <;> simp [Addr.add]
        rw [e0]; exact this
      · refine (Any2.slices_Insert_int_grow L g 0 l.length cap i vb 0 1 1 (ints l) [.int .i64 x] w (by omega) (by omega) h2 (by omega) (by omega) hlen rfl hcs hvs h1c h1v).mono fun ee w' ⟨he, hw'⟩ => ?_
        have hge := grownCap_ge w (l.length + 1) cap (ρ.t 3)
        have hcm : grownCap w (l.length + 1) cap (ρ.t 3) ≤ maxLen := grownCap_le_maxLen w (l.length + 1) cap (ρ.t 3) (by simp only [maxLen]; omega)
        generalize hA : ((ints l).take i).toArray ++ Builtin.zeroCells (Value.int .i64 0).cells (l.length + 1 - i) ++ Builtin.zeroCells (Value.int .i64 0).cells (grownCap w (l.length + 1) cap (ρ.t 3) - (l.length + 1)) = A0 at hw'
        have hAs : A0.size = grownCap w (l.length + 1) cap (ρ.t 3) := by
          rw [← hA, Array.size_append, Array.size_append, hzero, hzero]; simp [hlen]; omega
        have b0 : (w.alloc (.cells A0 (ρ.t 3))).drew.heap[w.heap.size]? = some (.cells A0 (ρ.t 3) (0, 0)) := heap_alloc_new w _
        have b1 := heap_setCells_row [.int .i64 x] i _ _ b0
        have b2 : (((w.alloc (.cells A0 (ρ.t 3))).drew.setCells w.heap.size i [.int .i64 x]).drew).heap[w.heap.size]? = _ := b1
        have b3 := heap_setCells_row ((ints l).drop i) (i + 1) _ _ b2
        subst hw'
        refine fin he (grown _ _ _ ?_ b3 hge hcm (by rw [setA_size, setA_size, hAs]) fun j hj => ?_)
        · have k0 : Keep w (w.alloc (.cells A0 (ρ.t 3))).drew (fun _ _ => False) := by
            have := keep_alloc w (.cells A0 (ρ.t 3)) (fun _ _ => False)
            exact ⟨this.os, this.tape, this.output, this.size, this.same, this.part⟩
          have k1 := keep_setCells (S := fun b _ => b = w.heap.size) (fun _ => rfl) [.int .i64 x] i _ _ b0
          have k1' : Keep (w.alloc (.cells A0 (ρ.t 3))).drew (((w.alloc (.cells A0 (ρ.t 3))).drew.setCells w.heap.size i [.int .i64 x]).drew) (fun b _ => b = w.heap.size) := ⟨k1.os, k1.tape, k1.output, k1.size, k1.same, k1.part⟩
          have k2 := keep_setCells (S := fun b _ => b = w.heap.size) (fun _ => rfl) ((ints l).drop i) (i + 1) _ _ b2
          exact k0.trans (k1'.trans k2 (fun _ _ q _ => q) (fun _ _ q _ => q)) (fun _ _ q _ => q) (fun y o q hy => by omega)
        · have hd : ((ints l).drop i).length = l.length - i := by simp [hlen]
          rw [insert_at _ _ _ _ (by omega), setA_at _ _ _ _ (by rw [setA_size, hAs, hd]; omega), setA_at _ _ _ _ (by rw [hAs]; simp; omega)]
          by_cases c : j < i
          · rw [if_neg (by omega), if_neg (by simp; omega), if_pos c, ← hA, Array.getElem?_append_left (by rw [Array.size_append, hzero]; simp [hlen]; omega), Array.getElem?_append_left (by simp [hlen]; omega), List.getElem?_toArray, List.getElem?_take_of_lt c]
          · rw [if_neg c]
            by_cases q : j = i
            · subst q; rw [if_neg (by omega), if_pos (by simp), if_pos rfl]; simp
            · rw [if_pos (by rw [hd]; omega), if_neg q, List.getElem?_drop]
              congr 1; omega

def bsS (l : List ByteArray) (x : ByteArray) : Nat := Lib.bsGo (fun t => Op.bytesLess (l.getD t ByteArray.empty).toList x.toList) l.length 0 l.length
def bsHit (l : List ByteArray) (x : ByteArray) : Bool := decide (bsS l x < l.length ∧ l.getD (bsS l x) ByteArray.empty = x)
theorem strs_get {l : List ByteArray} {j : Nat} (h : j < l.length) : (strs l)[j]? = some (.string (l.getD j ByteArray.empty)) := by simp [strs, List.getD, h]
theorem ints_get {l : List Int} {j : Nat} (h : j < l.length) : (ints l)[j]? = some (.int .i64 (l.getD j 0)) := by simp [ints, List.getD, h]
theorem search_row (L : Lays2.n26 P ρ) (p : Option Addr) (cap : Nat) (e : TypeId) (l : List ByteArray) (x : ByteArray) (hl : l.length ≤ 1000000) :
    Spec P (ρ.f 26) [.slice p l.length cap, .string x] [srow p cap e l] (fun v H1 => v = .tuple #[.int .i64 (bsS l x), .bool (bsHit l x)] ∧ H1 = [srow p cap e l]) := by
  intro w hw
  have hrow : (srow p cap e l).holds w := hw.1 _ (by simp)
  have nil : l = [] → Calls P (ρ.f 26) [.slice p l.length cap, .string x].toArray w fun ee w' => ∃ v H', ee = .returned v ∧ (v = .tuple #[.int .i64 (bsS l x), .bool (bsHit l x)] ∧ H' = [srow p cap e l]) ∧ H'.all Ent.wr = true ∧ XM w (foot [srow p cap e l]) H' w' := fun h => by
    subst h
    refine (Any2.slices_BinarySearch_string_empty L p cap x w).mono fun ee w' ⟨he, hw'⟩ => ⟨_, _, he, ⟨rfl, rfl⟩, rfl, ?_⟩
    subst hw'
    exact XM.start hw
  rcases row_view hrow with ⟨rfl, rfl, hk, hx⟩ | ⟨g, cur, rfl, h1, h2, h3, h4, h5, h6⟩
  · exact nil (List.eq_nil_of_length_eq_zero hk)
  · refine (Any2.slices_BinarySearch_string L g 0 l.length cap (fun t => l.getD t ByteArray.empty) x w (by omega) (fun j hj => cell_of_row hrow (strs_get hj))).mono fun ee w' ⟨he, q, hw'⟩ => ⟨_, _, he, ⟨rfl, rfl⟩, rfl, ?_⟩
    subst hw'
    exact (XM.start hw).drawn q
theorem left_cut {w : World} {g cap k i q : Nat} {cur : Array Value} {e : TypeId} {xs ys : List Value} (h1 : w.heap[g]? = some (.cells cur e (0, 0))) (h2 : k ≤ cap) (h3 : cap ≤ maxLen) (h4 : cur.size = cap) (h6 : xs.length = k) (hi : i < k) (hy : ys.length = k) (ht : ys.take (k - 1) = xs.eraseIdx i) :
    Left w ((w.drewN q).setCells g 0 ys) (.slice (some ⟨g, 0, none⟩) k cap) (.slice (some ⟨g, 0, none⟩) (k - 1) cap) e (k - 1) (xs.eraseIdx i) := by
  have a0 : (w.drewN q).heap[g]? = some (.cells cur e (0, 0)) := h1
  have a1 := heap_setCells_row ys 0 _ _ a0
  have hl : (xs.eraseIdx i).length = k - 1 := by rw [List.length_eraseIdx, if_pos (by omega), h6]
  refine ⟨⟨by rw [hl]; omega, .inr ⟨g, cap, _, rfl, Nat.zero_le _, a1, by omega, h3, by rw [setA_size, h4]; omega, ?_⟩⟩, ?_, fun b hb => .inl hb⟩
  · rw [← ht, Nat.mul_one]
    apply List.ext_getElem?
    intro j
    by_cases hj : j < k - 1
    · rw [List.getElem?_take_of_lt hj, List.getElem?_take_of_lt hj, Array.getElem?_toList, setA_at _ _ _ _ (by omega), if_pos (by omega), Nat.sub_zero]
    · rw [List.getElem?_take_eq_none (by omega), List.getElem?_take_eq_none (by omega)]
  · have k1 : Keep w (w.drewN q) (fun b _ => (Value.slice (some ⟨g, 0, none⟩) k cap).ownBlock = some b) := ⟨rfl, rfl, rfl, Nat.le_refl _, fun _ _ _ => rfl, fun _ A _ _ h => ⟨A, h, rfl, fun _ _ => rfl⟩⟩
    exact k1.trans (keep_setCells (S := fun b _ => (Value.slice (some ⟨g, 0, none⟩) k cap).ownBlock = some b) (fun _ => rfl) ys 0 _ _ a0) (fun _ _ q _ => q) (fun _ _ q _ => q)
theorem delete_int (L : Lays2.n23 P ρ) (p : Option Addr) (cap : Nat) (l : List Int) (i : Nat) (hi : i < l.length) (e : TypeId) (hl : l.length ≤ 1000000) :
    Spec P (ρ.f 23) [.slice p l.length cap, .int .i64 i, .int .i64 (i + 1)] [irow p cap e l] (fun v H1 => v = .slice p (l.length - 1) cap ∧ H1 = [.row (.slice p (l.length - 1) cap) e 1 (l.length - 1) (ints (l.eraseIdx i))]) := by
  intro w hw
  have hrow : (irow p cap e l).holds w := hw.1 _ (by simp)
  rcases row_view hrow with ⟨rfl, rfl, hk, hx⟩ | ⟨g, cur, rfl, h1, h2, h3, h4, h5, h6⟩
  · omega
  · have hm63 : cap ≤ 9223372036854775807 := by simp only [maxLen] at h3; omega
    refine (Any.slices_Delete_int_cells L g 0 l.length cap i (i + 1) l w (Nat.le_refl _) h2 hm63 (by omega) (by omega) (fun j hj => cell_of_row hrow (ints_get hj)) (fun j _ => frozen_row h1 _)).mono fun ee w' ⟨he, q, hw'⟩ => ⟨_, _, (by rw [he]; congr 2; omega), ⟨rfl, rfl⟩, rfl, ?_⟩
    subst hw'
    have hmap : ints (l.eraseIdx i) = (ints l).eraseIdx i := by unfold ints; simp [List.eraseIdx_eq_take_drop_succ, List.map_take, List.map_drop]
    rw [hmap]
    refine Left.xm (left_cut h1 h2 h3 h4 (by simp [ints]) hi ?_ ?_) hw
    · simp; omega
    · rw [← hmap, List.take_length, List.eraseIdx_eq_take_drop_succ]
      unfold ints
      rw [← List.map_take, List.take_append_of_le_length (by simp; omega), List.take_of_length_le (by simp; omega)]
theorem delete_string (L : Lays2.n24 P ρ) (p : Option Addr) (cap : Nat) (l : List ByteArray) (i : Nat) (hi : i < l.length) (e : TypeId) (hl : l.length ≤ 1000000) :
    Spec P (ρ.f 24) [.slice p l.length cap, .int .i64 i, .int .i64 (i + 1)] [srow p cap e l] (fun v H1 => v = .slice p (l.length - 1) cap ∧ H1 = [.row (.slice p (l.length - 1) cap) e 1 (l.length - 1) (strs (l.eraseIdx i))]) := by
  intro w hw
  have hrow : (srow p cap e l).holds w := hw.1 _ (by simp)
  rcases row_view hrow with ⟨rfl, rfl, hk, hx⟩ | ⟨g, cur, rfl, h1, h2, h3, h4, h5, h6⟩
  · omega
  · have hm63 : cap ≤ 9223372036854775807 := by simp only [maxLen] at h3; omega
    refine (Any.slices_Delete_string_cells L g 0 l.length cap i (i + 1) (fun t => l.getD t ByteArray.empty) w h2 hm63 (by omega) (by omega) (fun j hj => cell_of_row hrow (strs_get hj)) (fun j _ => frozen_row h1 _)).mono fun ee w' ⟨he, q, hw'⟩ => ⟨_, _, (by rw [he]; congr 2; omega), ⟨rfl, rfl⟩, rfl, ?_⟩
    subst hw'
    have hmap : strs (l.eraseIdx i) = (strs l).eraseIdx i := by unfold strs; simp [List.eraseIdx_eq_take_drop_succ, List.map_take, List.map_drop]
    have hso : (Lib.strsOf (fun t => l.getD t ByteArray.empty) l.length).map encStr = strs l := by
      apply List.ext_getElem?
      intro j
      by_cases hj : j < l.length
      · rw [strs_get hj]
        simp [Lib.strsOf, hj, encStr]
      · rw [List.getElem?_eq_none (by simp [Lib.strsOf]; omega), List.getElem?_eq_none (by simp [strs]; omega)]
    have hsl := Lib.strsOf_length (fun t => l.getD t ByteArray.empty) l.length
    generalize Lib.strsOf (fun t => l.getD t ByteArray.empty) l.length = Z at hso hsl ⊢
    rw [hmap]
    refine Left.xm (left_cut h1 h2 h3 h4 (by simp [strs]) hi ?_ ?_) hw
    · simp [hsl]; omega
    · rw [List.eraseIdx_eq_take_drop_succ, ← hso, ← List.map_take, List.take_append_of_le_length (by simp [hsl]; omega), List.take_of_length_le (by simp [hsl]; omega)]
      simp [List.map_take, List.map_drop]
theorem owns_zero {w : World} {base : Nat} {e : TypeId} {sz n : Nat} {v : Value} {xs : List Value} (h : w.ownsRow base e sz v n xs) : w.ownsRow 0 e sz v n xs :=
  ⟨h.1, h.2.imp id fun ⟨g, cap, cur, h1, _, h2⟩ => ⟨g, cap, cur, h1, Nat.zero_le _, h2⟩⟩
theorem clone_string (L : Lays2.n16 P ρ) (p : Option Addr) (cap : Nat) (e : TypeId) (l : List ByteArray) (hl : l.length ≤ 1000000) :
    Spec P (ρ.f 16) [.slice p l.length cap] [srow p cap e l] (fun v H1 => ∃ p' cap', v = .slice p' l.length cap' ∧ H1 = [srow p' cap' (ρ.t 9) l, srow p cap e l]) := by
  intro w hw
  have hrow : (srow p cap e l).holds w := hw.1 _ (by simp)
  rcases row_view hrow with ⟨rfl, rfl, hk, hx⟩ | ⟨g, cur, rfl, h1, h2, h3, h4, h5, h6⟩
  · have hn := List.eq_nil_of_length_eq_zero hk
    subst hn
    refine (Any.slices_Clone_string_nil L 0 0 w).mono fun ee w' ⟨he, hw'⟩ => ⟨_, _, he, ⟨_, _, rfl, rfl⟩, rfl, ?_⟩
    subst hw'
    exact (XM.start hw).nilRow _ _
  · refine (Any.slices_Clone_string L g 0 l.length cap l w (Nat.le_refl _) (by omega) (fun j hj => cell_of_row hrow (strs_get hj))).mono fun ee w' ⟨v', he, hown, hnn, hb⟩ => ?_
    rcases hown.2 with ⟨hv, _⟩ | ⟨g2, cap2, cur2, rfl, hg2, rest⟩
    · exact absurd hv hnn
    · rw [List.take_length] at hown
      refine ⟨_, _, he, ⟨_, _, rfl, rfl⟩, rfl, (XM.start hw).fresh (fun b o hb2 => by simp only [Ent.area, Value.ownBlock, Option.some.injEq] at hb2; omega) ?_ (owns_zero hown)⟩
      exact ⟨hb.os, hb.tape, hb.output, hb.size, fun b hb2 _ => hb.block b hb2, fun b A t fz hA => ⟨A, by rw [hb.block b (lt_of_heap hA)]; exact hA, rfl, fun _ _ => rfl⟩⟩
end
end Go.X
