import Derived.Test.YtojlnbjpiccliaaQM
namespace Go.X
open Go
/-! ### what TopQueue keeps -/
def encW (f : Int → Int) (m : Nat) : Nat → Value := fun i => if i < m then .int .u64 (f i) else undef
def arrW (f : Int → Int) (m : Nat) : Array Value := ((List.range m).map fun (j : Nat) => Value.int .u64 (f (j : Int))).toArray
theorem arrW_size (f : Int → Int) (m : Nat) : (arrW f m).size = m := by simp [arrW]
theorem encW.box (f : Int → Int) (m : Nat) : ∀ i, i < m → cellsOf (arrW f m) i = encW f m i := fun i hi => by simp [cellsOf, arrW, encW, hi]
theorem encW.ld (f : Int → Int) (m : Nat) (z : Int) (h : 0 ≤ z ∧ z < m) : 0 + z.toNat * 1 < m ∧ encW f m (0 + z.toNat * 1) = .int .u64 (f z) := by
  have h1 : 0 + z.toNat * 1 < m := by omega
  refine ⟨h1, ?_⟩
  unfold encW
  rw [if_pos h1, show ((0 + z.toNat * 1 : Nat) : Int) = z from by omega]
theorem encW.st (f : Int → Int) (m : Nat) (z v : Int) (h : 0 ≤ z ∧ z < m) : 0 + z.toNat * 1 < m ∧ upd (encW f m) (0 + z.toNat * 1) (.int .u64 v) = encW (fset f z v) m := by
  have h1 : 0 + z.toNat * 1 < m := by omega
  refine ⟨h1, ?_⟩
  funext i
  unfold upd encW fset
  by_cases h2 : i = 0 + z.toNat * 1
  · have h3 : (i : Int) = z := by omega
    have h4 : i < m := by omega
    simp only [if_pos h2, if_pos h3, if_pos h4]
  · have h3 : i < m → ¬ (i : Int) = z := by omega
    simp only [if_neg h2]
    by_cases h4 : i < m
    · simp only [if_pos h4, if_neg (h3 h4)]
    · simp only [if_neg h4]
structure TQ where
  s : QS
  p : Option Addr
  c : Nat
  key : Int → Int
  inn : Int → Bool
  n : Int
  i : Int
  was : Int
  last : Int
structure TQ.V (x : TQ) : Prop where
  ok : x.s.Ok
  heap : x.s.Heap
  inn : ∀ id, 0 ≤ id → id < 64 → (x.inn id = true ↔ ¬ x.s.at_ id = 0)
  key : ∀ id, 0 ≤ id → id < 64 → ¬ x.s.at_ id = 0 → x.key id = x.s.kOf id ∧ 0 ≤ x.s.kOf id ∧ ¬ lt2 (x.s.kOf id) id x.was x.last
  n : x.n = x.s.n
  i0 : 0 ≤ x.i ∧ x.n ≤ x.i
def TQ.start : TQ := ⟨QS.void, none, 0, fun _ => 0, fun _ => false, 0, 0, 0, -1⟩
theorem TQ.V.start : TQ.start.V := ⟨QS.Ok.void, QS.void_heap, fun id _ _ => by
    show (false = true) ↔ ¬ (0 : Int) = 0
    simp, fun id _ _ h => absurd rfl h, rfl, by decide⟩
theorem TQ.V.put {x : TQ} (h : x.V) (hw : x.was = 0 ∧ x.last = -1) {id k : Int} (he : (x.s.put id k).1 = 0) (hk : 0 ≤ k) (p : Option Addr) (c : Nat) :
    (0 ≤ id ∧ id < 64) ∧ x.inn id = false ∧ TQ.V ⟨(x.s.put id k).2, p, c, fset x.key id k, fset x.inn id true, x.n + 1, x.i + 1, x.was, x.last⟩ := by
  by_cases c1 : id < 0 ∨ 63 < id
  · rw [QS.put_bound c1] at he; cases he
  · by_cases c2 : 0 < x.s.at_ id
    · rw [QS.put_exist c1 c2] at he; cases he
    · have hd : 0 ≤ id ∧ id < 64 := by omega
      have hz : x.s.at_ id = 0 := by rcases h.ok.at2 id hd.1 hd.2 with q | q <;> omega
      obtain ⟨r1, r2, r3, r4, r5⟩ := h.ok.put_ok h.heap hd hz k
      have hin : x.inn id = false := by
        have := h.inn id hd.1 hd.2
        cases q : x.inn id with
        | false => rfl
        | true => exact absurd hz (this.1 q)
      have hi := h.i0
      have hn := h.n
      rw [QS.put_done c1 c2]
      refine ⟨hd, hin, r1, r2, fun m m0 m1 => ?_, fun m m0 m1 mp => ?_, ?_, ?_⟩
      · show fset x.inn id true m = true ↔ _
        rw [(r4 m m0 m1).1]
        by_cases q : m = id
        · rw [q, fset_eq]; simp
        · rw [fset_ne _ _ q, h.inn m m0 m1]; simp [q]
      · show fset x.key id k m = _ ∧ _
        by_cases q : m = id
        · subst q
          rw [fset_eq]
          refine ⟨r5.symm, by rw [r5]; exact hk, ?_⟩
          show ¬ lt2 _ m x.was x.last
          rw [r5, hw.1, hw.2]; unfold lt2; omega
        · have mp2 : ¬ x.s.at_ m = 0 := fun e => mp ((r4 m m0 m1).1.2 ⟨q, e⟩)
          rw [fset_ne _ _ q]
          show _ = QS.kOf _ m ∧ 0 ≤ QS.kOf _ m ∧ ¬ lt2 (QS.kOf _ m) m x.was x.last
          rw [(r4 m m0 m1).2 q mp2]
          exact h.key m m0 m1 mp2
      · show x.n + 1 = _
        rw [r3, hn]; omega
      · show 0 ≤ x.i + 1 ∧ x.n + 1 ≤ x.i + 1
        omega
theorem QS.put_err {s : QS} {id k : Int} (h : ¬ (s.put id k).1 = 0) : (s.put id k).2 = s := by
  unfold QS.put at h ⊢
  split
  · rfl
  · rename_i c1
    rw [if_neg c1] at h
    split
    · rfl
    · rename_i c2
      rw [if_neg c2] at h; exact absurd rfl h
theorem TQ.V.keep {x : TQ} (h : x.V) {id k : Int} (he : ¬ (x.s.put id k).1 = 0) (p : Option Addr) (c : Nat) : TQ.V ⟨(x.s.put id k).2, p, c, x.key, x.inn, x.n, x.i + 1, x.was, x.last⟩ := by
  rw [QS.put_err he]
  have hi := h.i0
  exact ⟨h.ok, h.heap, h.inn, h.key, h.n, by show 0 ≤ x.i + 1 ∧ x.n ≤ x.i + 1; omega⟩
theorem TQ.V.cut {x : TQ} (h : x.V) (hn : 0 < x.n) (p : Option Addr) (c : Nat) :
    (0 ≤ x.s.I 0 ∧ x.s.I 0 < 64) ∧ x.inn (x.s.I 0) = true ∧ x.key (x.s.I 0) = x.s.K 0 ∧ ¬ x.s.K 0 < x.was ∧ ¬ (x.s.K 0 = x.was ∧ x.s.I 0 < x.last) ∧ x.s.cut (x.s.I 0) = (x.s.K 0, 0, x.s.cutOk (x.s.I 0)) ∧
      TQ.V ⟨x.s.cutOk (x.s.I 0), p, c, x.key, fset x.inn (x.s.I 0) false, x.n - 1, x.i, x.s.K 0, x.s.I 0⟩ := by
  have hn2 := h.n
  have hd := h.ok.rng 0 (by omega) (by omega)
  have ha := h.ok.at1 0 (by omega) (by omega)
  have hp : ¬ x.s.at_ (x.s.I 0) = 0 := by omega
  have hk : x.s.kOf (x.s.I 0) = x.s.K 0 := by unfold QS.kOf; rw [ha]; rfl
  obtain ⟨k1, k2, k3⟩ := h.key _ hd.1 hd.2 hp
  rw [hk] at k1 k2 k3
  obtain ⟨r1, r2, r3, r4⟩ := h.ok.cut_ok h.heap hd hp
  have hi := h.i0
  refine ⟨hd, (h.inn _ hd.1 hd.2).2 hp, k1, fun q => k3 (.inl q), fun q => k3 (.inr q), ?_, r1, r2, fun m m0 m1 => ?_, fun m m0 m1 mp => ?_, ?_, ?_⟩
  · rw [QS.cut_done (by omega) hp, ha]; rfl
  · show fset x.inn (x.s.I 0) false m = true ↔ _
    rw [(r4 m m0 m1).1]
    by_cases q : m = x.s.I 0
    · rw [q, fset_eq]; simp
    · rw [fset_ne _ _ q, h.inn m m0 m1]; simp [q]
  · have q : ¬ m = x.s.I 0 := fun e => mp ((r4 m m0 m1).1.2 (.inl e))
    have mp2 : ¬ x.s.at_ m = 0 := fun e => mp ((r4 m m0 m1).1.2 (.inr e))
    obtain ⟨g1, g2, g3⟩ := h.key m m0 m1 mp2
    show x.key m = QS.kOf _ m ∧ 0 ≤ QS.kOf _ m ∧ ¬ lt2 (QS.kOf _ m) m (x.s.K 0) (x.s.I 0)
    rw [(r4 m m0 m1).2 q mp2]
    refine ⟨g1, g2, ?_⟩
    obtain ⟨a1, a2, a3⟩ := (h.ok.at2 m m0 m1).resolve_left mp2
    have hl := h.heap.least (x.s.at_ m - 1).toNat (x.s.at_ m - 1) (by omega) (by omega) (by omega)
    unfold QS.L at hl
    rw [a3] at hl
    exact hl
  · show x.n - 1 = _
    rw [r3, hn2]; omega
  · show 0 ≤ x.i ∧ x.n - 1 ≤ x.i
    omega
theorem QS.first_some {s : QS} (h : 0 < s.n) : s.first = (s.I 0, s.K 0, true) := by unfold QS.first; rw [if_neg (by omega)]
theorem QS.first_none {s : QS} (h : s.n = 0) : s.first = (0, 0, false) := by unfold QS.first; rw [if_pos h]

end Go.X
