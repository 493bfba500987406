import Derived.Test.YtojlnbjpiccliaaQM
import Derived.Test.YtojlnbjpiccliaaXMore
namespace Go.X
open Go
/-! ### the document's queue -/
structure RQ where
  inn : Int → Bool
  key : Int → Int
def RQ.is (r : RQ) (id : Int) : Int := if id < 0 ∨ 63 < id then 1 else if r.inn id then 0 else 2
def RQ.put (r : RQ) (id k : Int) : Int × RQ := if r.is id = 1 then (1, r) else if r.is id = 0 then (3, r) else (0, ⟨fset r.inn id true, fset r.key id k⟩)
def RQ.of_ (r : RQ) (id : Int) (cut : Bool) : Int × Int × RQ := if r.is id ≠ 0 then (0, r.is id, r) else (r.key id, 0, if cut then { r with inn := fset r.inn id false } else r)
theorem RQ.is_cases (r : RQ) (id : Int) : (r.is id = 1 ∧ (id < 0 ∨ 63 < id)) ∨ (r.is id = 0 ∧ 0 ≤ id ∧ id < 64 ∧ r.inn id = true) ∨ (r.is id = 2 ∧ 0 ≤ id ∧ id < 64 ∧ r.inn id = false) := by
  unfold RQ.is
  by_cases h : id < 0 ∨ 63 < id
  · rw [if_pos h]; exact .inl ⟨rfl, h⟩
  · rw [if_neg h]
    cases q : r.inn id with
    | true => rw [if_pos rfl]; exact .inr (.inl ⟨rfl, by omega, by omega, rfl⟩)
    | false => rw [if_neg (by simp)]; exact .inr (.inr ⟨rfl, by omega, by omega, rfl⟩)
theorem RQ.is_bound {r : RQ} {id : Int} (h : id < 0 ∨ 63 < id) : r.is id = 1 := by unfold RQ.is; rw [if_pos h]
theorem RQ.is_none {r : RQ} {id : Int} (h : ¬ (id < 0 ∨ 63 < id)) (ht : r.inn id = false) : r.is id = 2 := by unfold RQ.is; rw [if_neg h, if_neg (by simp [ht])]
theorem RQ.is_ok {r : RQ} {id : Int} (h : ¬ (id < 0 ∨ 63 < id)) (ht : r.inn id = true) : r.is id = 0 := by unfold RQ.is; rw [if_neg h, if_pos ht]
/-- a list told by its places -/
def encF (f : Int → Int) (i : Nat) : Value := .int .i64 (f (i : Int))
def listOf (f : Int → Int) (n : Nat) : List Int := (List.range n).map fun (j : Nat) => f (j : Int)
theorem listOf_length (f : Int → Int) (n : Nat) : (listOf f n).length = n := by simp [listOf]
theorem listOf_at {f : Int → Int} {n : Nat} {z : Int} (h : 0 ≤ z ∧ z < n) : at0 (listOf f n) z = f z := by
  have h1 : z.toNat < n := by omega
  have h2 : ((z.toNat : Nat) : Int) = z := by omega
  simp [listOf, at0, List.getD, h1, h2]
theorem frow_irow (p : Option Addr) (cap : Nat) (e : TypeId) (n : Nat) (f : Int → Int) : frow p cap e 1 n (encF f) = irow p cap e (listOf f n) := by
  unfold frow irow
  rw [listOf_length]
  congr 1
  unfold newsOf ints listOf encF
  rw [Nat.mul_one, List.map_map]
  rfl
theorem encF_ld (f : Int → Int) (n : Nat) (z : Int) (h : 0 ≤ z ∧ z < n) : 0 + z.toNat * 1 < n * 1 ∧ encF f (0 + z.toNat * 1) = .int .i64 (f z) := by
  refine ⟨by omega, ?_⟩
  unfold encF
  rw [show ((0 + z.toNat * 1 : Nat) : Int) = z from by omega]
theorem encF_st (f : Int → Int) (n : Nat) (z v : Int) (h : 0 ≤ z ∧ z < n) : 0 + z.toNat * 1 < n * 1 ∧ upd (encF f) (0 + z.toNat * 1) (.int .i64 v) = encF (fset f z v) := by
  refine ⟨by omega, ?_⟩
  funext i
  unfold upd encF fset
  by_cases h1 : i = 0 + z.toNat * 1
  · have h2 : (i : Int) = z := by omega
    simp only [if_pos h1, if_pos h2]
  · have h2 : ¬ (i : Int) = z := by omega
    simp only [if_neg h1, if_neg h2]
theorem encF_more (f : Int → Int) (n : Nat) (v : Int) : ∀ i, i < (n + 1) * 1 → encF (fset f n v) i = if i < n * 1 then encF f i else cellsOf #[.int .i64 v] (i - n * 1) := by
  intro i hi
  unfold encF fset
  by_cases h : i < n * 1
  · have h3 : ¬ (i : Int) = n := by omega
    simp only [if_pos h, if_neg h3]
  · have h3 : (i : Int) = n := by omega
    have h4 : i - n * 1 = 0 := by omega
    simp only [if_neg h, if_pos h3, h4]; rfl
/-- in it are the numbers of P, by their keys -/
structure Srt (key : Int → Int) (P : Int → Prop) (f : Int → Int) (n : Nat) : Prop where
  lt : ∀ j j' : Int, 0 ≤ j → j < j' → j' < n → lt2 (key (f j)) (f j) (key (f j')) (f j')
  mem : ∀ id, (∃ j : Int, 0 ≤ j ∧ j < n ∧ f j = id) ↔ P id
/-- place k is free for one more -/
def hole (f : Int → Int) (n k i : Int) : Int → Int := fun j => if j < k then f j else if j = k then (if k = n then i else f k) else f (j - 1)
def insAt (f : Int → Int) (k i : Int) : Int → Int := fun j => if j < k then f j else if j = k then i else f (j - 1)
theorem hole_start (f : Int → Int) (n i : Int) : ∀ j, j ≤ n → hole f n n i j = fset f n i j := fun j hj => by
  unfold hole fset
  by_cases h : j < n
  · have h2 : ¬ j = n := by omega
    rw [if_pos h, if_neg h2]
  · have h2 : j = n := by omega
    subst h2
    simp
theorem hole_step (f : Int → Int) {n k i : Int} (hk : 0 < k ∧ k ≤ n) : fset (hole f n k i) k (f (k - 1)) = hole f n (k - 1) i := by
  funext j
  unfold fset hole
  by_cases h1 : j = k
  · subst h1
    rw [if_pos rfl, if_neg (by omega), if_neg (by omega)]
  · rw [if_neg h1]
    by_cases h2 : j < k
    · rw [if_pos h2]
      by_cases h3 : j < k - 1
      · rw [if_pos h3]
      · have h4 : j = k - 1 := by omega
        subst h4
        rw [if_neg h3, if_pos rfl, if_neg (by omega)]
    · rw [if_neg h2, if_neg h1, if_neg (by omega), if_neg (by omega)]
theorem hole_end (f : Int → Int) (n k i : Int) : fset (hole f n k i) k i = insAt f k i := by
  funext j
  unfold fset hole insAt
  by_cases h1 : j = k
  · subst h1
    rw [if_pos rfl, if_neg (by omega), if_pos rfl]
  · rw [if_neg h1]
    by_cases h2 : j < k
    · rw [if_pos h2, if_pos h2]
    · rw [if_neg h2, if_neg h1, if_neg h2, if_neg h1]
theorem hole_before (f : Int → Int) {n k i : Int} (hk : 0 < k) : hole f n k i (k - 1) = f (k - 1) := by
  unfold hole
  rw [if_pos (by omega)]
theorem Srt.ins {key : Int → Int} {P Q : Int → Prop} {f : Int → Int} {n : Nat} {i k : Int} (h : Srt key P f n) (hk : 0 ≤ k ∧ k ≤ n) (hP : ∀ id, P id → id < i) (hQ : ∀ id, Q id ↔ P id ∨ id = i)
    (hup : ∀ j : Int, k ≤ j → j < n → key (f j) > key i) (hdn : k = 0 ∨ ¬ key (f (k - 1)) > key i) : Srt key Q (insAt f k i) (n + 1) := by
  have hlo : ∀ j : Int, 0 ≤ j → j < k → key (f j) ≤ key i := fun j j0 j1 => by
    rcases hdn with q | q
    · omega
    · by_cases c : j = k - 1
      · rw [c]; omega
      · have := h.lt j (k - 1) j0 (by omega) (by omega)
        unfold lt2 at this
        omega
  have hid : ∀ j : Int, 0 ≤ j → j < n → f j < i := fun j j0 j1 => hP _ ((h.mem _).1 ⟨j, j0, j1, rfl⟩)
  have e1 : ∀ j, j < k → insAt f k i j = f j := fun j hj => by unfold insAt; rw [if_pos hj]
  have e2 : insAt f k i k = i := by unfold insAt; rw [if_neg (by omega), if_pos rfl]
  have e3 : ∀ j, k < j → insAt f k i j = f (j - 1) := fun j hj => by unfold insAt; rw [if_neg (by omega), if_neg (by omega)]
  refine ⟨fun j j' j0 jj j1 => ?_, fun id => ?_⟩
  · by_cases c1 : j < k
    · rw [e1 j c1]
      by_cases c2 : j' < k
      · rw [e1 j' c2]; exact h.lt j j' j0 jj (by omega)
      · by_cases c3 : j' = k
        · rw [c3, e2]
          have g1 := hlo j j0 c1
          have g2 := hid j j0 (by omega)
          unfold lt2; omega
        · rw [e3 j' (by omega)]; exact h.lt j (j' - 1) j0 (by omega) (by omega)
    · by_cases c3 : j = k
      · rw [c3, e2, e3 j' (by omega)]
        have g1 := hup (j' - 1) (by omega) (by omega)
        unfold lt2; omega
      · rw [e3 j (by omega), e3 j' (by omega)]; exact h.lt (j - 1) (j' - 1) (by omega) (by omega) (by omega)
  · rw [hQ, ← h.mem]
    constructor
    · rintro ⟨j, j0, j1, rfl⟩
      by_cases c1 : j < k
      · rw [e1 j c1]; exact .inl ⟨j, j0, by omega, rfl⟩
      · by_cases c3 : j = k
        · rw [c3, e2]; exact .inr rfl
        · rw [e3 j (by omega)]; exact .inl ⟨j - 1, by omega, by omega, rfl⟩
    · rintro (⟨j, j0, j1, rfl⟩ | rfl)
      · by_cases c1 : j < k
        · exact ⟨j, j0, by omega, e1 j c1⟩
        · exact ⟨j + 1, by omega, by omega, by rw [e3 (j + 1) (by omega), show j + 1 - 1 = j from by omega]⟩
      · exact ⟨k, hk.1, by omega, e2⟩
theorem Srt.nil {key : Int → Int} {P : Int → Prop} (f : Int → Int) (hP : ∀ id, ¬ P id) : Srt key P f 0 :=
  ⟨fun j j' j0 jj j1 => by omega, fun id => ⟨fun ⟨j, j0, j1, _⟩ => by omega, fun h => absurd h (hP id)⟩⟩
theorem Srt.congr {key : Int → Int} {P Q : Int → Prop} {f : Int → Int} {n : Nat} (h : Srt key P f n) (hQ : ∀ id, Q id ↔ P id) : Srt key Q f n :=
  ⟨h.lt, fun id => (h.mem id).trans (hQ id).symm⟩
/-- who is sorted so is so in one way alone -/
theorem Srt.uniq {key : Int → Int} {P : Int → Prop} : ∀ (n m : Nat) {f g : Int → Int} , Srt key P f n → Srt key P g m → n = m ∧ ∀ j : Int, 0 ≤ j → j < n → f j = g j := by
  have agree : ∀ {n m : Nat} {f g : Int → Int}, Srt key P f n → Srt key P g m → ∀ (d : Nat) (j : Int), j.toNat = d → 0 ≤ j → j < n → j < m ∧ f j = g j := by
    intro n m f g hf hg d
    induction d using Nat.strongRecOn with
    | _ d ih =>
      intro j hd j0 j1
      have hPj := (hf.mem (f j)).1 ⟨j, j0, j1, rfl⟩
      obtain ⟨a, a0, a1, a2⟩ := (hg.mem (f j)).2 hPj
      have hja : ¬ a < j := fun q => by
        obtain ⟨_, e⟩ := ih a.toNat (by omega) a rfl a0 (by omega)
        have := hf.lt a j a0 q j1
        rw [e, a2] at this
        unfold lt2 at this; omega
      have hjm : j < m := by omega
      refine ⟨hjm, ?_⟩
      by_cases c : a = j
      · rw [← a2, c]
      · exfalso
        have hPg := (hg.mem (g j)).1 ⟨j, j0, hjm, rfl⟩
        obtain ⟨b, b0, b1, b2⟩ := (hf.mem (g j)).2 hPg
        have h1 := hg.lt j a j0 (by omega) a1
        rw [a2] at h1
        have hbj : ¬ b < j := fun q => by
          obtain ⟨_, e⟩ := ih b.toNat (by omega) b rfl b0 (by omega)
          have := hg.lt b j b0 q hjm
          rw [← e, b2] at this
          unfold lt2 at this; omega
        by_cases c2 : b = j
        · rw [← b2, c2] at h1
          unfold lt2 at h1; omega
        · have h2 := hf.lt j b j0 (by omega) b1
          rw [b2] at h2
          unfold lt2 at h1 h2; omega
  intro n m f g hf hg
  have hnm : n = m := by
    apply Classical.byContradiction
    intro hne
    by_cases c : n < m
    · have := (agree hg hf n (n : Int) (by omega) (by omega) (by omega)).1; omega
    · have := (agree hf hg m (m : Int) (by omega) (by omega) (by omega)).1; omega
  exact ⟨hnm, fun j j0 j1 => (agree hf hg _ j rfl j0 j1).2⟩
theorem listOf_congr {f g : Int → Int} {n : Nat} (h : ∀ j : Int, 0 ≤ j → j < n → f j = g j) : listOf f n = listOf g n := by
  unfold listOf
  apply List.map_congr_left
  intro j hj
  have : j < n := by simpa using hj
  exact h j (by omega) (by omega)

theorem hole_more (f : Int → Int) (n : Nat) (i : Int) : ∀ j, j < (n + 1) * 1 → encF (hole f n n i) j = if j < n * 1 then encF f j else cellsOf #[.int .i64 i] (j - n * 1) := fun j hj => by
  rw [← encF_more f n i j hj]
  unfold encF
  rw [hole_start f n i j (by omega)]
theorem hole_ld (f : Int → Int) (n : Nat) (k i : Int) (h : 0 < k ∧ k ≤ n) : 0 + (k - 1).toNat * 1 < (n + 1) * 1 ∧ encF (hole f n k i) (0 + (k - 1).toNat * 1) = .int .i64 (f (k - 1)) := by
  rw [← hole_before f (n := n) (i := i) h.1]
  exact encF_ld _ (n + 1) (k - 1) (by omega)
theorem hole_fin (f : Int → Int) (n : Nat) (k i : Int) (h : 0 ≤ k ∧ k ≤ n) : 0 + k.toNat * 1 < (n + 1) * 1 ∧ upd (encF (hole f n k i)) (0 + k.toNat * 1) (.int .i64 i) = encF (insAt f k i) := by
  rw [← hole_end f n k i]
  exact encF_st _ (n + 1) k i (by omega)
structure RA where
  i : Int
  p : Option Addr
  c : Nat
  n : Nat
  f : Int → Int
structure RA.V (r : RQ) (x : RA) : Prop where
  i0 : 0 ≤ x.i ∧ x.i ≤ 64
  n0 : (x.n : Int) ≤ x.i
  srt : Srt r.key (fun id => 0 ≤ id ∧ id < x.i ∧ r.inn id = true) x.f x.n
theorem RA.V.start (r : RQ) : RA.V r ⟨0, none, 0, 0, fun _ => 0⟩ := ⟨⟨by simp, by simp⟩, by simp, Srt.nil _ (fun id h => by simp at h; omega)⟩
theorem RA.V.at {r : RQ} {x : RA} (h : x.V r) {j : Int} (hj : 0 ≤ j ∧ j < x.n) : 0 ≤ x.f j ∧ x.f j < x.i := by
  have := (h.srt.mem (x.f j)).1 ⟨j, hj.1, hj.2, rfl⟩
  exact ⟨this.1, this.2.1⟩
theorem RA.V.pass {r : RQ} {x : RA} (h : x.V r) (hi : r.inn x.i = false) (hl : x.i < 64 := by omega) : RA.V r ⟨x.i + 1, x.p, x.c, x.n, x.f⟩ := by
  have h0 := h.i0
  have h1 := h.n0
  refine ⟨⟨by simp; omega, by simp; omega⟩, by simp; omega, h.srt.congr fun id => ?_⟩
  constructor
  · rintro ⟨a, b, c⟩
    refine ⟨a, ?_, c⟩
    simp at b
    have : ¬ id = x.i := fun e => by rw [e, hi] at c; cases c
    omega
  · rintro ⟨a, b, c⟩
    exact ⟨a, by simp; omega, c⟩
theorem RA.V.ins {r : RQ} {x : RA} (h : x.V r) (hi : r.inn x.i = true) {k : Int} (hk : 0 ≤ k ∧ k ≤ x.n) (hup : ∀ j : Int, k ≤ j → j < x.n → r.key (x.f j) > r.key x.i) (hdn : k = 0 ∨ ¬ r.key (x.f (k - 1)) > r.key x.i)
    (p : Option Addr) (c : Nat) (hl : x.i < 64 := by omega) : RA.V r ⟨x.i + 1, p, c, x.n + 1, insAt x.f k x.i⟩ := by
  have h0 := h.i0
  have h1 := h.n0
  refine ⟨⟨by simp; omega, by simp; omega⟩, by simp; omega, ?_⟩
  refine h.srt.ins (i := x.i) hk (fun id q => q.2.1) (fun id => ?_) hup hdn
  constructor
  · rintro ⟨a, b, c⟩
    simp at b
    by_cases e : id = x.i
    · exact .inr e
    · exact .inl ⟨a, by omega, c⟩
  · rintro (⟨a, b, c⟩ | rfl)
    · exact ⟨a, by simp; omega, c⟩
    · exact ⟨h0.1, by show x.i < x.i + 1; omega, hi⟩
theorem RA.V.done {r : RQ} {x : RA} (h : x.V r) (hi : ¬ x.i < 64) : Srt r.key (fun id => 0 ≤ id ∧ id < 64 ∧ r.inn id = true) x.f x.n := by
  have h0 := h.i0
  have : x.i = 64 := by omega
  have h2 := h.srt
  rw [this] at h2
  exact h2
def encRQ (s : RQ) (i : Nat) : Value :=
  if i % 1 = 0 ∧ i / 1 < 64 then .bool (s.inn ((i / 1 : Nat) : Int)) else
  if 64 ≤ i ∧ (i - 64) % 1 = 0 ∧ (i - 64) / 1 < 64 then .int .u64 (s.key (((i - 64) / 1 : Nat) : Int)) else
  undef
theorem encRQ.ld_In_I (s : RQ) (z0 : Int) (q0 : 0 ≤ z0 ∧ z0 < 64) : ((0 + 0) + z0.toNat * 1) < 128 ∧ encRQ s ((0 + 0) + z0.toNat * 1) = .bool (s.inn z0) := by
  refine ⟨by omega, ?_⟩
  unfold encRQ
  rw [if_pos (by omega)]
  rw [show ((((0 + 0) + z0.toNat * 1) / 1 : Nat) : Int) = z0 from by omega]
theorem encRQ.st_In_I (s : RQ) (z0 : Int) (q0 : 0 ≤ z0 ∧ z0 < 64) (v : Bool) : ((0 + 0) + z0.toNat * 1) < 128 ∧ upd (encRQ s) ((0 + 0) + z0.toNat * 1) (.bool (v)) = encRQ ({ s with inn := fset s.inn z0 v }) := by
  refine ⟨by omega, ?_⟩
  funext j
  unfold upd
  by_cases hj : j = ((0 + 0) + z0.toNat * 1)
  · rw [if_pos hj, hj, (encRQ.ld_In_I ({ s with inn := fset s.inn z0 v }) z0 q0).2]
    simp [fset, fset2]
  · rw [if_neg hj]
    unfold encRQ
    refine ite_both (fun c0 => ?_) (fun c0 => ?_)
    · have hne : ¬ (((j / 1 : Nat) : Int) = z0) := by omega
      simp only [fset, fset2, hne, if_false, and_true, true_and]
    refine ite_both (fun c1 => ?_) (fun c1 => ?_)
    · first | rfl | simp [fset, fset2]
    rfl
theorem encRQ.ld_Key_I (s : RQ) (z0 : Int) (q0 : 0 ≤ z0 ∧ z0 < 64) : ((0 + 64) + z0.toNat * 1) < 128 ∧ encRQ s ((0 + 64) + z0.toNat * 1) = .int .u64 (s.key z0) := by
  refine ⟨by omega, ?_⟩
  unfold encRQ
  rw [if_neg (by omega)]
  rw [if_pos (by omega)]
  rw [show (((((0 + 64) + z0.toNat * 1) - 64) / 1 : Nat) : Int) = z0 from by omega]
theorem encRQ.st_Key_I (s : RQ) (z0 : Int) (q0 : 0 ≤ z0 ∧ z0 < 64) (v : Int) : ((0 + 64) + z0.toNat * 1) < 128 ∧ upd (encRQ s) ((0 + 64) + z0.toNat * 1) (.int .u64 (v)) = encRQ ({ s with key := fset s.key z0 v }) := by
  refine ⟨by omega, ?_⟩
  funext j
  unfold upd
  by_cases hj : j = ((0 + 64) + z0.toNat * 1)
  · rw [if_pos hj, hj, (encRQ.ld_Key_I ({ s with key := fset s.key z0 v }) z0 q0).2]
    simp [fset, fset2]
  · rw [if_neg hj]
    unfold encRQ
    refine ite_both (fun c0 => ?_) (fun c0 => ?_)
    · first | rfl | simp [fset, fset2]
    refine ite_both (fun c1 => ?_) (fun c1 => ?_)
    · have hne : ¬ ((((j - 64) / 1 : Nat) : Int) = z0) := by omega
      simp only [fset, fset2, hne, if_false, and_true, true_and]
    rfl

theorem RQ.put_bound {r : RQ} {id : Int} (k : Int) (h : r.is id = 1) : r.put id k = (1, r) := by unfold RQ.put; rw [if_pos h]
theorem RQ.put_exist {r : RQ} {id : Int} (k : Int) (h1 : ¬ r.is id = 1) (h : r.is id = 0) : r.put id k = (3, r) := by unfold RQ.put; rw [if_neg h1, if_pos h]
theorem RQ.put_done {r : RQ} {id : Int} (k : Int) (h1 : ¬ r.is id = 1) (h : ¬ r.is id = 0) : r.put id k = (0, ⟨fset r.inn id true, fset r.key id k⟩) := by unfold RQ.put; rw [if_neg h1, if_neg h]
theorem RQ.of_no {r : RQ} {id : Int} (c : Bool) (h : ¬ r.is id = 0) : r.of_ id c = (0, r.is id, r) := by unfold RQ.of_; rw [if_pos h]
theorem RQ.of_cut {r : RQ} {id : Int} (h : r.is id = 0) : r.of_ id true = (r.key id, 0, { r with inn := fset r.inn id false }) := by unfold RQ.of_; rw [if_neg (fun q => q h)]; rfl
theorem RQ.of_key {r : RQ} {id : Int} (h : r.is id = 0) : r.of_ id false = (r.key id, 0, r) := by unfold RQ.of_; rw [if_neg (fun q => q h)]; rfl

end Go.X
