import Derived.Test.YtmklfkjfgjagaaaDoorNLW
namespace Go.X
open Go
/-! ### what is counted -/
theorem pig : ∀ (N : Nat) (L : List Int), L.Nodup → (∀ y ∈ L, 0 ≤ y ∧ y < (N : Int)) → L.length ≤ N
  | 0, L, _, h => by
    cases L with
    | nil => exact Nat.le_refl _
    | cons a r => have := h a (by simp); omega
  | N + 1, L, hn, h => by
    by_cases c : (N : Int) ∈ L
    · have h1 := pig N (L.erase (N : Int)) (hn.erase _) (fun y hy => by
        have h2 := hn.mem_erase_iff.1 hy
        have h3 := h y h2.2
        have h4 := h2.1
        omega)
      have h2 := List.length_erase_of_mem c
      omega
    · have := pig N L hn (fun y hy => by
        have h3 := h y hy
        have h4 : y ≠ N := fun e => c (e ▸ hy)
        omega)
      omega
namespace FF
/-- names[k] when the first t roots are told -/
def rootW (s : FF) (t : Int) (k : Int) : Int := ((s.roots.take t.toNat).count k : Int)
theorem rootW_le (s : FF) (h : s.roots.length ≤ 4) (t k : Int) : 0 ≤ s.rootW t k ∧ s.rootW t k ≤ 4 := by
  have h1 := List.count_le_length (a := k) (l := s.roots.take t.toNat)
  have h2 : (s.roots.take t.toNat).length ≤ s.roots.length := by simp; omega
  unfold rootW
  omega
theorem rootW_next (s : FF) {t : Int} (h : 0 ≤ t) (h2 : s.rootE t = 0) : s.rootW (t + 1) = fset (s.rootW t) (s.rootV t) (s.rootW t (s.rootV t) + 1) := by
  have hv : s.rootV t = at0 s.roots t := by unfold rootV; rw [if_pos h2]
  have hl : t.toNat < s.roots.length := by
    unfold rootE at h2
    split at h2
    · omega
    · split at h2 <;> omega
  funext k
  unfold fset rootW
  rw [show (t + 1).toNat = t.toNat + 1 by omega, take_snoc s.roots t.toNat 0 hl, List.count_append, List.count_singleton, hv]
  show _ = if k = s.roots.getD t.toNat 0 then _ else _
  by_cases c : k = s.roots.getD t.toNat 0
  · rw [if_pos c, if_pos (by simp [c]), show at0 s.roots t = k from c.symm]; omega
  · rw [if_neg c, if_neg (by simpa using fun e => c e.symm)]; omega
theorem rootW_same (s : FF) {t : Int} (h : 0 ≤ t) (h4 : t < 4) (h2 : s.rootE t ≠ 0) : s.rootW (t + 1) = s.rootW t := by
  have hl : s.roots.length ≤ t.toNat := by
    unfold rootE at h2
    split at h2
    · omega
    · split at h2
      · omega
      · exact absurd rfl h2
  funext k
  unfold rootW
  rw [List.take_of_length_le (by omega), List.take_of_length_le hl]
/-- and when those of the first n nodes are -/
def kidW (s : FF) (n : Int) (k : Int) : Int := (s.roots.count k : Int) + (sumK s.kids k n.toNat : Int)
def kidW2 (s : FF) (n i : Int) (k : Int) : Int := s.kidW n k + (((s.kids n).take i.toNat).count k : Int)
theorem rootW_end (s : FF) (h : s.roots.length ≤ 4) : s.rootW 4 = s.kidW 0 := by
  funext k
  unfold rootW kidW
  rw [List.take_of_length_le (by show s.roots.length ≤ 4; exact h)]
  show _ = _ + ((0 : Nat) : Int)
  omega
theorem kidW_le {s : FF} {d : Int → Nat} (h : s.Inv d) (n : Int) (hn : n ≤ 40) (k : Int) : 0 ≤ s.kidW n k ∧ s.kidW n k ≤ 324 := by
  have h1 := sumK_le s.kids k 8 n.toNat (fun m hm => by
    obtain ⟨_, a, b, _⟩ := h.rise m (by omega) (by omega)
    omega)
  have h2 := List.count_le_length (a := k) (l := s.roots)
  have h3 := h.roots.1
  unfold kidW
  omega
theorem kidW2_le {s : FF} {d : Int → Nat} (h : s.Inv d) (n i : Int) (h0 : 0 ≤ n) (hn : n < 40) (k : Int) : 0 ≤ s.kidW2 n i k ∧ s.kidW2 n i k ≤ 332 := by
  have h1 := kidW_le h n (by omega) k
  obtain ⟨_, a, b, _⟩ := h.rise n h0 hn
  have h2 := List.count_le_length (a := k) (l := (s.kids n).take i.toNat)
  have h3 : ((s.kids n).take i.toNat).length ≤ (s.kids n).length := by simp; omega
  unfold kidW2
  omega
theorem kidW2_0 (s : FF) (n : Int) : s.kidW2 n 0 = s.kidW n := by
  funext k
  unfold kidW2
  show _ + ((([] : List Int).count k : Nat) : Int) = _
  simp
theorem kidW2_next (s : FF) (n : Int) {i : Int} (h : 0 ≤ i) (hl : i.toNat < (s.kids n).length) : s.kidW2 n (i + 1) = fset (s.kidW2 n i) (at0 (s.kids n) i) (s.kidW2 n i (at0 (s.kids n) i) + 1) := by
  funext k
  unfold fset kidW2
  rw [show (i + 1).toNat = i.toNat + 1 by omega, take_snoc (s.kids n) i.toNat 0 hl, List.count_append, List.count_singleton]
  show _ = if k = (s.kids n).getD i.toNat 0 then _ else _
  by_cases c : k = (s.kids n).getD i.toNat 0
  · rw [if_pos c, if_pos (by simp [c]), show at0 (s.kids n) i = k from c.symm]; omega
  · rw [if_neg c, if_neg (by simpa using fun e => c e.symm)]; omega
theorem kidW_step (s : FF) {n : Int} (h : 0 ≤ n) (k : Int) : s.kidW (n + 1) k = s.kidW n k + ((s.kids n).count k : Int) := by
  unfold kidW
  rw [show (n + 1).toNat = n.toNat + 1 by omega]
  conv => lhs; unfold sumK
  rw [show ((n.toNat : Nat) : Int) = n by omega]
  omega
theorem kidW2_end (s : FF) {n i : Int} (h : 0 ≤ n) (hi : (s.kids n).length ≤ i.toNat) : s.kidW2 n i = s.kidW (n + 1) := by
  funext k
  rw [kidW_step s h]
  unfold kidW2
  rw [List.take_of_length_le hi]
theorem kidW_skip (s : FF) {n : Int} (h : 0 ≤ n) (hk : s.kids n = []) : s.kidW (n + 1) = s.kidW n := by
  funext k
  rw [kidW_step s h, hk]
  show _ + ((0 : Nat) : Int) = _
  omega
theorem kidW_cnt (s : FF) (k : Int) : s.kidW 40 k = (s.cnt k : Int) := by
  unfold kidW cnt
  show _ + ((sumK s.kids k 40 : Nat) : Int) = _
  omega
theorem dir_isE {s : FF} {n : Int} (h1 : 0 ≤ n) (h2 : n < 40) (h : s.kind n = 2) : s.isE n 2 = 0 ∧ s.isE n 0 = 0 := by
  have e : s.isE n 2 = 0 := by unfold isE; rw [if_neg (by omega), if_neg (by omega), if_neg (by omega)]
  exact ⟨e, isE_20 e⟩
theorem ok_isE {s : FF} {n : Int} (h1 : 0 ≤ n) (h2 : n < 40) (h : s.kind n ≠ 0) : s.isE n 0 = 0 := by
  unfold isE; rw [if_neg (by omega), if_neg h, if_neg (by omega)]
/-- the names of a directory are found -/
theorem find_at {s : FF} {d : Int → Nat} (h : s.Inv d) {n i : Int} (hn : s.isE n 2 = 0) (hi : 0 ≤ i ∧ i < (s.names n).length) :
    s.findE n (sat0 (s.names n) i) = 0 ∧ s.findV n (sat0 (s.names n) i) = at0 (s.kids n) i ∧ i.toNat < (s.kids n).length ∧ nameOk (sat0 (s.names n) i) = true := by
  obtain ⟨i1, i2, i3, i4⟩ := isE_k0 hn
  obtain ⟨r1, r2, r3, r4⟩ := h.rise n i1 i2
  have hp := at_posn r1 (x := sat0 (s.names n) i) (i := i.toNat) (by omega) rfl
  have hh : hasn (s.names n) (sat0 (s.names n) i) = true := hasn_iff.2 ⟨by omega, by rw [← hp]; rfl⟩
  have e : s.findE n (sat0 (s.names n) i) = 0 := by unfold findE; rw [if_neg (by omega), if_pos hh]
  refine ⟨e, ?_, by omega, h.nok n i1 i2 _ (hasn_mem hh)⟩
  unfold findV
  rw [if_pos e, ← hp, show ((i.toNat : Nat) : Int) = i by omega]
theorem nameOk_size {x : ByteArray} (h : nameOk x = true) : x.size ≤ 8 := by
  refine Decidable.byContradiction fun c => ?_
  rw [nameOk_len (by omega)] at h
  cases h
theorem names_lt {s : FF} {d : Int → Nat} (h : s.Inv d) {n i : Int} (hn : s.isE n 2 = 0) (hi : 0 < i ∧ i < (s.names n).length) : Op.bytesLess (sat0 (s.names n) (i - 1)).toList (sat0 (s.names n) i).toList = true := by
  obtain ⟨i1, i2, i3, i4⟩ := isE_k0 hn
  exact (h.rise n i1 i2).1 (i - 1).toNat i.toNat (by omega) (by omega)
theorem ofV_ok {s : FF} {n : Int} (h : s.isE n 0 = 0) : (s.ofV n).kind = s.kind n ∧ (s.ofV n).links = s.links n ∧ (s.ofV n).held = s.held n := by
  unfold ofV; rw [if_pos h]; exact ⟨rfl, rfl, rfl⟩
theorem links_cnt {s : FF} {d : Int → Nat} (h : s.Inv d) {n : Int} (h1 : 0 ≤ n) (h2 : n < 40) : s.links n = s.kidW 40 n := by
  have := (h.num n h1 h2).2
  rw [if_neg (show ¬ n = (-1 : Int) by omega)] at this
  rw [kidW_cnt]; omega
theorem rootV_mem {s : FF} {t : Int} (h : s.rootE t = 0) (h0 : 0 ≤ t) : s.rootV t ∈ s.roots := by
  have hl : t.toNat < s.roots.length := by
    have h2 := h
    unfold rootE at h2
    split at h2
    · omega
    · split at h2 <;> omega
  rw [show s.rootV t = s.roots.getD t.toNat 0 from by unfold rootV; rw [if_pos h]; rfl]
  exact at0_mem hl
theorem nokids_isE {s : FF} {d : Int → Nat} (h : s.Inv d) {n : Int} (h1 : 0 ≤ n) (h2 : n < 40) (h3 : s.isE n 2 ≠ 0) : s.kids n = [] :=
  (h.nokids h1 h2 fun q => h3 (dir_isE h1 h2 q).1).1
/-- on the way up no node is met twice -/
structure Way (s : FF) (d : Int → Nat) (a k : Int) : Prop where
  nn : 0 ≤ k
  rng : 0 ≤ a ∧ a < 40
  dir : s.kind a = 2
  list : ∃ L : List Int, (L.length : Int) = k ∧ L.Nodup ∧ ∀ z ∈ L, (0 ≤ z ∧ z < 40) ∧ d a < d z
theorem Way.start {s : FF} {d : Int → Nat} {n : Int} (h1 : 0 ≤ n) (h2 : n < 40) (h : s.kind n = 2) : s.Way d n 0 := ⟨by omega, ⟨h1, h2⟩, h, [], rfl, List.nodup_nil, fun z hz => by cases hz⟩
theorem Way.step {s : FF} {d : Int → Nat} {a k : Int} (h : s.Way d a k) : ((a :: h.list.choose).length : Int) = k + 1 ∧ (a :: h.list.choose).Nodup ∧ ∀ z ∈ a :: h.list.choose, 0 ≤ z ∧ z < 40 := by
  obtain ⟨l1, l2, l3⟩ := h.list.choose_spec
  refine ⟨by rw [List.length_cons]; omega, List.nodup_cons.2 ⟨fun q => ?_, l2⟩, fun z hz => ?_⟩
  · have := (l3 a q).2; omega
  · rcases List.mem_cons.1 hz with rfl | hz
    · exact h.rng
    · exact (l3 z hz).1
theorem Way.short {s : FF} {d : Int → Nat} {a k : Int} (h : s.Way d a k) : k < 40 := by
  obtain ⟨l1, l2, l3⟩ := h.step
  have := pig 40 _ l2 l3
  omega
theorem Way.next {s : FF} {d : Int → Nat} {a k : Int} (hI : s.Inv d) (h : s.Way d a k) (hu : s.up a ≠ a) : s.Way d (s.up a) (k + 1) ∧ d (s.up a) < d a := by
  have hk := h.nn
  rcases hI.up a h.rng.1 h.rng.2 h.dir (by have := h.rng; omega) (by have := h.rng; omega) with g | ⟨g1, g2, g3, g4, g5⟩
  · exact absurd g.2 hu
  · obtain ⟨l1, l2, l3⟩ := h.step
    refine ⟨⟨by omega, ⟨g1, g2⟩, g3, a :: h.list.choose, l1, l2, fun z hz => ⟨l3 z hz, ?_⟩⟩, g5⟩
    rcases List.mem_cons.1 hz with rfl | hz
    · exact g5
    · have := (h.list.choose_spec.2.2 z hz).2; omega
end FF
theorem XM.rrSame {W w : World} {S : Nat → Nat → Prop} {H F : List Ent} {s t : FC} (h1 : t.rP = s.rP) (h2 : t.rC = s.rC) (h3 : t.toFF.roots = s.toFF.roots) (hp : Pick H [irow s.rP s.rC 3 s.toFF.roots] F) (h : XM W S H w) : XM W S (irow t.rP t.rC 3 t.toFF.roots :: F) w := by
  rw [h1, h2, h3]
  exact h.perm hp.perm

end Go.X
