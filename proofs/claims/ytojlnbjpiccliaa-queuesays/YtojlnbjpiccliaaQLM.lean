import Derived.Test.YtojlnbjpiccliaaQAM
namespace Go.X
open Go
/-! ### the queue and the document's -/
structure QRel (s : QS) (r : RQ) : Prop where
  ok : s.Ok
  heap : s.Heap
  inn : ∀ id, 0 ≤ id → id < 64 → (r.inn id = true ↔ ¬ s.at_ id = 0)
  key : ∀ id, 0 ≤ id → id < 64 → ¬ s.at_ id = 0 → r.key id = s.kOf id
def RQ.void : RQ := ⟨fun _ => false, fun _ => 0⟩
theorem QRel.void : QRel QS.void RQ.void := ⟨QS.Ok.void, QS.void_heap, fun id _ _ => by
    show (false = true) ↔ ¬ (0 : Int) = 0
    simp, fun id _ _ h => absurd rfl h⟩
theorem QRel.is {s : QS} {r : RQ} (h : QRel s r) {id : Int} (hd : 0 ≤ id ∧ id < 64) : r.is id = if s.at_ id = 0 then 2 else 0 := by
  have hi := h.inn id hd.1 hd.2
  by_cases c : s.at_ id = 0
  · rw [if_pos c]
    cases q : r.inn id with
    | false => exact RQ.is_none (by omega) q
    | true => exact absurd c (hi.1 q)
  · rw [if_neg c]
    exact RQ.is_ok (by omega) (hi.2 c)
theorem QRel.put {s : QS} {r : RQ} (h : QRel s r) (id k : Int) : (s.put id k).1 = (r.put id k).1 ∧ QRel (s.put id k).2 (r.put id k).2 := by
  by_cases c1 : id < 0 ∨ 63 < id
  · rw [QS.put_bound c1, RQ.put_bound k (RQ.is_bound c1)]; exact ⟨rfl, h⟩
  · have hd : 0 ≤ id ∧ id < 64 := by omega
    have his := h.is hd
    by_cases hz : s.at_ id = 0
    · rw [if_pos hz] at his
      rw [QS.put_done c1 (by omega), RQ.put_done k (by omega) (by omega)]
      obtain ⟨r1, r2, r3, r4, r5⟩ := h.ok.put_ok h.heap hd hz k
      refine ⟨rfl, r1, r2, fun m m0 m1 => ?_, fun m m0 m1 mp => ?_⟩
      · show fset r.inn id true m = true ↔ _
        rw [(r4 m m0 m1).1]
        by_cases q : m = id
        · rw [q, fset_eq]; simp
        · rw [fset_ne _ _ q, h.inn m m0 m1]; simp [q]
      · show fset r.key id k m = _
        by_cases q : m = id
        · rw [q, fset_eq, r5]
        · have hz2 : ¬ s.at_ m = 0 := fun e => mp ((r4 m m0 m1).1.2 ⟨q, e⟩)
          rw [fset_ne _ _ q, (r4 m m0 m1).2 q hz2]
          exact h.key m m0 m1 hz2
    · rw [if_neg hz] at his
      have hp : 0 < s.at_ id := by rcases h.ok.at2 id hd.1 hd.2 with q | q <;> omega
      rw [QS.put_exist c1 hp, RQ.put_exist k (by omega) his]
      exact ⟨rfl, h⟩
theorem QRel.cut {s : QS} {r : RQ} (h : QRel s r) (id : Int) : (s.cut id).1 = (r.of_ id true).1 ∧ (s.cut id).2.1 = (r.of_ id true).2.1 ∧ QRel (s.cut id).2.2 (r.of_ id true).2.2 := by
  by_cases c1 : id < 0 ∨ 63 < id
  · have hi := RQ.is_bound (r := r) c1
    rw [QS.cut_bound c1, RQ.of_no true (by omega)]; exact ⟨rfl, hi.symm, h⟩
  · have hd : 0 ≤ id ∧ id < 64 := by omega
    have his := h.is hd
    by_cases hz : s.at_ id = 0
    · rw [if_pos hz] at his
      rw [QS.cut_none c1 hz, RQ.of_no true (by omega)]; exact ⟨rfl, his.symm, h⟩
    · rw [if_neg hz] at his
      rw [QS.cut_done c1 hz, RQ.of_cut his]
      obtain ⟨r1, r2, r3, r4⟩ := h.ok.cut_ok h.heap hd hz
      refine ⟨(h.key id hd.1 hd.2 hz).symm, rfl, r1, r2, fun m m0 m1 => ?_, fun m m0 m1 mp => ?_⟩
      · show fset r.inn id false m = true ↔ _
        rw [(r4 m m0 m1).1]
        by_cases q : m = id
        · rw [q, fset_eq]; simp
        · rw [fset_ne _ _ q, h.inn m m0 m1]; simp [q]
      · show r.key m = _
        have q : ¬ m = id := fun e => mp ((r4 m m0 m1).1.2 (.inl e))
        have hz2 : ¬ s.at_ m = 0 := fun e => mp ((r4 m m0 m1).1.2 (.inr e))
        rw [(r4 m m0 m1).2 q hz2]
        exact h.key m m0 m1 hz2
theorem QRel.key_eq {s : QS} {r : RQ} (h : QRel s r) (id : Int) : (s.key id).1 = (r.of_ id false).1 ∧ (s.key id).2 = (r.of_ id false).2.1 ∧ (r.of_ id false).2.2 = r := by
  by_cases c1 : id < 0 ∨ 63 < id
  · have hi := RQ.is_bound (r := r) c1
    rw [QS.key_bound c1, RQ.of_no false (by omega)]; exact ⟨rfl, hi.symm, rfl⟩
  · have hd : 0 ≤ id ∧ id < 64 := by omega
    have his := h.is hd
    by_cases hz : s.at_ id = 0
    · rw [if_pos hz] at his
      rw [QS.key_none c1 hz, RQ.of_no false (by omega)]; exact ⟨rfl, his.symm, rfl⟩
    · rw [if_neg hz] at his
      rw [QS.key_done c1 hz, RQ.of_key his]
      exact ⟨(h.key id hd.1 hd.2 hz).symm, rfl, rfl⟩
theorem QRel.key_same {s : QS} {r : RQ} (h : QRel s r) (id : Int) : QRel s (r.of_ id false).2.2 := by rw [(h.key_eq id).2.2]; exact h
theorem QS.put_nn (s : QS) (id k : Int) : 0 ≤ (s.put id k).1 := by
  unfold QS.put
  split
  · simp
  · split <;> simp
theorem QS.cut_nn (s : QS) (id : Int) : 0 ≤ (s.cut id).2.1 := by
  unfold QS.cut
  split
  · simp
  · split <;> simp
theorem QS.key_nn (s : QS) (id : Int) : 0 ≤ (s.key id).2 := by
  unfold QS.key
  split
  · simp
  · split <;> simp
theorem Srt.re {k k' : Int → Int} {P Q : Int → Prop} {f : Int → Int} {n : Nat} (h : Srt k P f n) (hQ : ∀ id, Q id ↔ P id) (hk : ∀ id, P id → k' id = k id) : Srt k' Q f n :=
  ⟨fun j j' j0 jj j1 => by
    rw [hk _ ((h.mem _).1 ⟨j, j0, by omega, rfl⟩), hk _ ((h.mem _).1 ⟨j', by omega, j1, rfl⟩)]
    exact h.lt j j' j0 jj j1, fun id => (h.mem id).trans (hQ id).symm⟩
theorem QRel.re {s : QS} {r : RQ} (h : QRel s r) {f : Int → Int} {n : Nat} (hs : Srt s.kOf (fun id => 0 ≤ id ∧ id < 64 ∧ ¬ s.at_ id = 0) f n) : Srt r.key (fun id => 0 ≤ id ∧ id < 64 ∧ r.inn id = true) f n :=
  hs.re (fun id => ⟨fun ⟨a, b, c⟩ => ⟨a, b, (h.inn id a b).1 c⟩, fun ⟨a, b, c⟩ => ⟨a, b, (h.inn id a b).2 c⟩⟩) (fun id q => h.key id q.1 q.2.1 q.2.2)
theorem QRel.lists {s : QS} {r : RQ} (h : QRel s r) {f g : Int → Int} {n m : Nat} (hs : Srt s.kOf (fun id => 0 ≤ id ∧ id < 64 ∧ ¬ s.at_ id = 0) f n) (hr : Srt r.key (fun id => 0 ≤ id ∧ id < 64 ∧ r.inn id = true) g m) :
    n = m ∧ ∀ j : Int, 0 ≤ j → j < n → f j = g j := Srt.uniq n m (h.re hs) hr
/-- the first of the list stands first in the heap -/
theorem QRel.first {s : QS} {r : RQ} (h : QRel s r) {g : Int → Int} {m : Nat} (hr : Srt r.key (fun id => 0 ≤ id ∧ id < 64 ∧ r.inn id = true) g m) (hm : 0 < m) (hn : 0 < s.n) :
    (0 ≤ g 0 ∧ g 0 < 64) ∧ s.I 0 = g 0 ∧ s.K 0 = r.key (g 0) := by
  obtain ⟨a1, a2, a3⟩ := (hr.mem (g 0)).1 ⟨0, by omega, by omega, rfl⟩
  have hd := h.ok.rng 0 (by omega) (by omega)
  have ha := h.ok.at1 0 (by omega) (by omega)
  have hp : ¬ s.at_ (s.I 0) = 0 := by omega
  have hk : s.kOf (s.I 0) = s.K 0 := by unfold QS.kOf; rw [ha]; rfl
  obtain ⟨j, j0, j1, j2⟩ := (hr.mem (s.I 0)).2 ⟨hd.1, hd.2, (h.inn _ hd.1 hd.2).2 hp⟩
  have hj : j = 0 := by
    apply Classical.byContradiction
    intro hne
    have h1 := hr.lt 0 j (by omega) (by omega) j1
    have hp2 := (h.inn _ a1 a2).1 a3
    rw [j2, h.key _ hd.1 hd.2 hp, hk, h.key _ a1 a2 hp2] at h1
    obtain ⟨b1, b2, b3⟩ := (h.ok.at2 _ a1 a2).resolve_left hp2
    have hl := h.heap.least (s.at_ (g 0) - 1).toNat (s.at_ (g 0) - 1) (by omega) (by omega) (by omega)
    unfold QS.L at hl
    rw [b3] at hl
    exact hl h1
  rw [hj] at j2
  refine ⟨⟨a1, a2⟩, j2.symm, ?_⟩
  rw [j2, h.key _ hd.1 hd.2 hp, hk]
structure QL where
  s : QS
  p : Option Addr
  c : Nat
  r : RQ
  i : Int
theorem okT {a b : Int} (h : a = b) : some (Value.bool (decide (a = b))) = some (Value.bool true) := by rw [decide_eq_true h]
theorem QS.has_list {s : QS} (h : s.Ok) : ∃ f, Srt s.kOf (fun id => 0 ≤ id ∧ id < 64 ∧ ¬ s.at_ id = 0) f s.n := by
  have hp := Sort.pdq_sorts (Go.Proofs.ltOf cmp2) cmp2_swo (parr s) 0 (parr s).size (Lib.bitLen (parr s).size) true true (Nat.zero_le _) (Nat.le_refl _) (Or.inl rfl)
  rw [parr_size] at hp
  exact ⟨_, (sorted_of h hp.1 hp.2).srt h⟩
/-- as many are in the queue as its list tells -/
theorem QRel.n_of {s : QS} {r : RQ} (h : QRel s r) {g : Int → Int} {m : Nat} (hr : Srt r.key (fun id => 0 ≤ id ∧ id < 64 ∧ r.inn id = true) g m) : s.n = m := by
  obtain ⟨f, hf⟩ := QS.has_list h.ok
  exact (h.lists hf hr).1
def arrRQ : Array Value := ((List.range 128).map fun (j : Nat) => if j < 64 then Value.bool false else Value.int .u64 0).toArray
theorem boxRQ : ∀ i, i < 128 → cellsOf arrRQ i = encRQ RQ.void i := fun i hi => by
  have e : cellsOf arrRQ i = if i < 64 then Value.bool false else Value.int .u64 0 := by simp [cellsOf, arrRQ, hi]
  rw [e]
  unfold encRQ
  by_cases h : i < 64
  · rw [if_pos h, if_pos (by omega)]; rfl
  · rw [if_neg h, if_neg (by omega), if_pos (by omega)]; rfl

end Go.X
