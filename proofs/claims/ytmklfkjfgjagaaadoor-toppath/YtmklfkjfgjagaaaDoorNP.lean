import Derived.Test.YtmklfkjfgjagaaaDoorNM
namespace Go.X
open Go
/-! ### what is always so, by each act -/
theorem count_ins (v k : Int) : ∀ (l : List Int) (i : Nat), i ≤ l.length → (l.insertIdx i v).count k = l.count k + (if v = k then 1 else 0)
  | l, 0, _ => by rw [List.insertIdx_zero, List.count_cons]; simp
  | [], i + 1, h => by simp at h
  | x :: l, i + 1, h => by
    rw [List.insertIdx_succ_cons, List.count_cons, List.count_cons, count_ins v k l i (by simpa using h)]
    omega
theorem count_del (k : Int) : ∀ (l : List Int) (i : Nat), i < l.length → (l.eraseIdx i).count k + (if l.getD i 0 = k then 1 else 0) = l.count k
  | x :: l, 0, _ => by rw [List.eraseIdx_cons_zero, List.count_cons]; simp
  | x :: l, i + 1, h => by
    rw [List.eraseIdx_cons_succ, List.count_cons, List.count_cons, ← count_del k l i (by simpa using h), List.getD_cons_succ]
    omega
theorem mem_del_ne {l : List Int} {i : Nat} {k : Int} (hi : i < l.length) (h : k ∈ l) (hk : l.getD i 0 ≠ k) : k ∈ l.eraseIdx i := by
  have h1 := count_del k l i hi
  rw [if_neg hk] at h1
  rw [← List.count_pos_iff] at h ⊢
  omega
theorem at0_mem {l : List Int} {p : Nat} (h : p < l.length) : l.getD p 0 ∈ l := by
  rw [List.getD, List.getElem?_eq_getElem h]
  exact List.getElem_mem h
theorem sumK_set (f : Int → List Int) (z : Int) (l : List Int) (k : Int) : ∀ N : Nat, FF.sumK (fset f z l) k N + (if 0 ≤ z ∧ z < N then (f z).count k else 0) = FF.sumK f k N + (if 0 ≤ z ∧ z < N then l.count k else 0)
  | 0 => by rw [if_neg (by omega), if_neg (by omega)]; rfl
  | N + 1 => by
    have ih := sumK_set f z l k N
    unfold FF.sumK
    by_cases c : z = N
    · subst c
      rw [if_neg (by omega), if_neg (by omega)] at ih
      rw [fset_eq, if_pos (by omega), if_pos (by omega)]
      omega
    · rw [fset_ne _ _ (fun e => c e.symm)]
      by_cases q : 0 ≤ z ∧ z < N
      · rw [if_pos q, if_pos q] at ih
        rw [if_pos (by omega), if_pos (by omega)]
        omega
      · rw [if_neg q, if_neg q] at ih
        rw [if_neg (by omega), if_neg (by omega)]
        omega
theorem sumK_ge (f : Int → List Int) (k : Int) {z : Int} {N : Nat} (hz : 0 ≤ z ∧ z < N) : (f z).count k ≤ FF.sumK f k N := by
  have := sumK_set f z [] k N
  rw [if_pos hz, if_pos hz] at this
  simp only [List.count_nil] at this
  omega
theorem sumK_ge2 (f : Int → List Int) (k : Int) {y z : Int} {N : Nat} (hy : 0 ≤ y ∧ y < N) (hz : 0 ≤ z ∧ z < N) (h : y ≠ z) : (f y).count k + (f z).count k ≤ FF.sumK f k N := by
  have h1 := sumK_set f z [] k N
  rw [if_pos hz, if_pos hz] at h1
  have h2 := sumK_ge (fset f z []) k hy
  rw [fset_ne _ _ h] at h2
  simp only [List.count_nil] at h1
  omega
theorem sumK_le (f : Int → List Int) (k : Int) (B : Nat) : ∀ N : Nat, (∀ n : Nat, n < N → (f (n : Int)).length ≤ B) → FF.sumK f k N ≤ N * B
  | 0, _ => by simp [FF.sumK]
  | N + 1, h => by
    have ih := sumK_le f k B N (fun n hn => h n (by omega))
    have h1 := h N (by omega)
    have h2 := List.count_le_length (a := k) (l := f (N : Int))
    unfold FF.sumK
    rw [Nat.add_mul]
    omega
namespace FF
theorem cnt_set {s t : FF} {z : Int} {l : List Int} (h1 : t.kids = fset s.kids z l) (h2 : t.roots = s.roots) (hz : 0 ≤ z ∧ z < 40) (k : Int) : t.cnt k + (s.kids z).count k = s.cnt k + l.count k := by
  have := sumK_set s.kids z l k 40
  rw [if_pos (show 0 ≤ z ∧ z < ((40 : Nat) : Int) by omega), if_pos (show 0 ≤ z ∧ z < ((40 : Nat) : Int) by omega)] at this
  unfold cnt
  rw [h1, h2]
  omega
theorem cnt_same {s t : FF} (h1 : t.kids = s.kids) (h2 : t.roots = s.roots) (k : Int) : t.cnt k = s.cnt k := by unfold cnt; rw [h1, h2]
theorem cnt_kid {s : FF} {n k : Int} (hn : 0 ≤ n ∧ n < 40) (h : k ∈ s.kids n) : 1 ≤ s.cnt k := by
  have h1 := sumK_ge s.kids k (N := 40) hn
  have h2 := List.count_pos_iff.2 h
  unfold cnt
  omega
theorem cnt_root {s : FF} {k : Int} (h : k ∈ s.roots) : 1 ≤ s.cnt k := by
  have h2 := List.count_pos_iff.2 h
  unfold cnt
  omega
section
variable {s : FF} {d : Int → Nat} {e q : Int}
theorem InvX.nokids (h : s.InvX d e q) {n : Int} (h1 : 0 ≤ n) (h2 : n < 40) (hk : s.kind n ≠ 2) : s.kids n = [] ∧ s.names n = [] := by
  obtain ⟨_, a, _, b⟩ := h.rise n h1 h2
  have := b hk
  exact ⟨List.eq_nil_of_length_eq_zero (by rw [← a, this]; rfl), this⟩
theorem InvX.dirkid (h : s.InvX d e q) {n k : Int} (h1 : 0 ≤ n) (h2 : n < 40) (hk : k ∈ s.kids n) : s.kind n = 2 := by
  refine Decidable.byContradiction fun c => ?_
  rw [(h.nokids h1 h2 c).1] at hk
  cases hk
theorem InvX.cnt_le (h : s.InvX d e q) (k : Int) : s.cnt k ≤ 324 := by
  have h1 := sumK_le s.kids k 8 40 (fun n hn => by
    obtain ⟨_, a, b, _⟩ := h.rise n (by omega) (by omega)
    omega)
  have h2 := List.count_le_length (a := k) (l := s.roots)
  have h3 := h.roots.1
  unfold cnt
  omega
theorem InvX.sh (h : s.InvX d e q) (hB : ∀ n, 0 ≤ n → n < 40 → s.held n ≤ 1000000) : s.Sh where
  rise := h.rise
  kids := fun n h1 h2 k hk => ⟨(h.kids n h1 h2 k hk).1, (h.kids n h1 h2 k hk).2.1⟩
  data := fun n h1 h2 => (h.data n h1 h2).1
  roots := ⟨h.roots.1, fun r hr => ⟨(h.roots.2 r hr).1, (h.roots.2 r hr).2.1⟩⟩
  num := fun n h1 h2 => by
    obtain ⟨a, b⟩ := h.num n h1 h2
    have c := h.cnt_le n
    have e := hB n h1 h2
    split at b <;> omega
/-- nothing leads to who has no kind -/
theorem InvX.cnt0 (h : s.InvX d e q) {z : Int} (h1 : 0 ≤ z) (h2 : z < 40) (hz : s.kind z = 0) : s.cnt z = 0 ∧ z ≠ e := by
  obtain ⟨_, b⟩ := h.num z h1 h2
  have a := (h.zero z h1 h2 hz).1
  split at b
  · omega
  · exact ⟨by omega, by assumption⟩
/-- a name is cut -/
theorem InvX.cut (h : s.InvX d (-1) q) {n : Int} {x : ByteArray} {k : Int} (h1 : 0 ≤ n) (h2 : n < 40) (hx : hasn (s.names n) x = true) (hk : at0 (s.kids n) (posn (s.names n) x) = k) : (s.cutF n x).InvX d k q := by
  obtain ⟨p1, p2⟩ := hasn_iff.1 hx
  obtain ⟨r1, r2, r3, r4⟩ := h.rise n h1 h2
  have hp : posn (s.names n) x < (s.kids n).length := by omega
  have hk2 : (s.kids n).getD (posn (s.names n) x) 0 = k := by simpa [at0] using hk
  have hkr : 0 ≤ k := by
    have := at0_mem hp
    rw [hk2] at this
    exact (h.kids n h1 h2 k this).1
  have hm : ∀ m, (s.cutF n x).kids m = if m = n then (s.kids n).eraseIdx (posn (s.names n) x) else s.kids m := fun m => rfl
  have hnm : ∀ m, (s.cutF n x).names m = if m = n then (s.names n).eraseIdx (posn (s.names n) x) else s.names m := fun m => rfl
  have sub : ∀ m j, j ∈ (s.cutF n x).kids m → j ∈ s.kids m := fun m j hj => by
    rw [hm] at hj
    split at hj
    · rename_i c; subst c; exact List.mem_of_mem_eraseIdx hj
    · exact hj
  refine ⟨h.kinds, fun m a b => ?_, fun m a b y hy => ?_, fun m a b j hj => h.kids m a b j (sub m j hj), h.data, h.roots, fun m a b c hne hnq => ?_, fun m a b => ?_, h.zero, h.pos, h.dir⟩
  · rw [hm, hnm]
    by_cases c : m = n
    · subst c
      rw [if_pos rfl, if_pos rfl, List.length_eraseIdx, if_pos p1, List.length_eraseIdx, if_pos hp]
      exact ⟨r1.erase _ p1, by omega, by omega, fun q => by rw [r4 q]; rfl⟩
    · rw [if_neg c, if_neg c]
      exact h.rise m a b
  · rw [hnm] at hy
    split at hy
    · rename_i c; subst c; exact h.nok m a b y (List.mem_of_mem_eraseIdx hy)
    · exact h.nok m a b y hy
  · rcases h.up m a b c (by omega) hnq with g | ⟨g1, g2, g3, g4, g5⟩
    · exact .inl g
    · refine .inr ⟨g1, g2, g3, ?_, g5⟩
      show m ∈ (s.cutF n x).kids (s.up m)
      rw [hm]
      split
      · rename_i c2
        rw [c2] at g4
        exact mem_del_ne hp g4 (by rw [hk2]; exact fun e => hne e.symm)
      · exact g4
  · obtain ⟨a1, a2⟩ := h.num m a b
    have h3 := cnt_set (s := s) (t := s.cutF n x) (z := n) rfl rfl ⟨h1, h2⟩ m
    have h4 := count_del m (s.kids n) _ hp
    rw [hk2] at h4
    rw [if_neg (by omega)] at a2
    refine ⟨a1, ?_⟩
    show s.links m = _
    by_cases c : m = k
    · rw [if_pos c]; rw [if_pos c.symm] at h4; omega
    · rw [if_neg c]; rw [if_neg (fun e => c e.symm)] at h4; omega
/-- a name is put -/
theorem InvX.put {k : Int} (h : s.InvX d k q) {n : Int} {x : ByteArray} (h1 : 0 ≤ n) (h2 : n < 40) (hn : s.kind n = 2) (hx : hasn (s.names n) x = false) (hl : (s.names n).length < 8) (ok : nameOk x = true) (hk : 0 ≤ k ∧ k < 40 ∧ s.kind k ≠ 0) (ht : s.tree k = s.tree n) (hd : s.kind k = 2 → s.up k = n ∧ d n < d k) : (s.putF n x k).InvX d (-1) q := by
  obtain ⟨r1, r2, r3, r4⟩ := h.rise n h1 h2
  have hpl := posn_le (s.names n) x
  have hp : posn (s.names n) x ≤ (s.kids n).length := by omega
  have hm : ∀ m, (s.putF n x k).kids m = if m = n then (s.kids n).insertIdx (posn (s.names n) x) k else s.kids m := fun m => rfl
  have hnm : ∀ m, (s.putF n x k).names m = if m = n then (s.names n).insertIdx (posn (s.names n) x) x else s.names m := fun m => rfl
  refine ⟨h.kinds, fun m a b => ?_, fun m a b y hy => ?_, fun m a b j hj => ?_, h.data, h.roots, fun m a b c _ hnq => ?_, fun m a b => ?_, h.zero, h.pos, h.dir⟩
  · rw [hm, hnm]
    by_cases c : m = n
    · subst c
      rw [if_pos rfl, if_pos rfl, List.length_insertIdx, if_pos hpl, List.length_insertIdx, if_pos hp]
      exact ⟨r1.insert hx, by omega, by omega, fun q => absurd hn q⟩
    · rw [if_neg c, if_neg c]
      exact h.rise m a b
  · rw [hnm] at hy
    split at hy
    · rename_i c; subst c
      rcases (List.mem_insertIdx hpl).1 hy with rfl | hy
      · exact ok
      · exact h.nok m a b y hy
    · exact h.nok m a b y hy
  · rw [hm] at hj
    split at hj
    · rename_i c; subst c
      rcases (List.mem_insertIdx hp).1 hj with rfl | hj
      · exact ⟨hk.1, hk.2.1, hk.2.2, ht, hd⟩
      · exact h.kids m a b j hj
    · exact h.kids m a b j hj
  · by_cases c3 : m = k
    · subst c3
      obtain ⟨d1, d2⟩ := hd c
      refine .inr ?_
      show 0 ≤ s.up m ∧ s.up m < 40 ∧ s.kind (s.up m) = 2 ∧ m ∈ (s.putF n x m).kids (s.up m) ∧ d (s.up m) < d m
      rw [d1]
      refine ⟨h1, h2, hn, ?_, d2⟩
      rw [hm, if_pos rfl]
      exact (List.mem_insertIdx hp).2 (.inl rfl)
    · rcases h.up m a b c c3 hnq with g | ⟨g1, g2, g3, g4, g5⟩
      · exact .inl g
      · refine .inr ⟨g1, g2, g3, ?_, g5⟩
        show m ∈ (s.putF n x k).kids (s.up m)
        rw [hm]
        split
        · rename_i c2
          rw [c2] at g4
          exact (List.mem_insertIdx hp).2 (.inr g4)
        · exact g4
  · obtain ⟨a1, a2⟩ := h.num m a b
    have h3 := cnt_set (s := s) (t := s.putF n x k) (z := n) rfl rfl ⟨h1, h2⟩ m
    have h4 := count_ins k m (s.kids n) _ hp
    rw [if_neg (by omega)]
    refine ⟨a1, ?_⟩
    show s.links m = _
    by_cases c : m = k
    · rw [if_pos c] at a2; rw [if_pos c.symm] at h4; omega
    · rw [if_neg c] at a2; rw [if_neg (fun e => c e.symm)] at h4; omega
/-- a node made new, of which no name is laid yet -/
theorem InvX.fresh (h : s.InvX d (-1) (-1)) {z k t u : Int} (h1 : 0 ≤ z) (h2 : z < 40) (hz : s.kind z = 0) (hk : k = 1 ∨ k = 2) (N : Nat) : (s.setN z k t 1 u).InvX (fset d z N) z (-1) := by
  obtain ⟨c0, _⟩ := h.cnt0 h1 h2 hz
  obtain ⟨k0, n0⟩ := h.nokids h1 h2 (by omega)
  obtain ⟨l0, e0⟩ := h.zero z h1 h2 hz
  have hm : (s.setN z k t 1 u).kids = s.kids := fset_same _ k0
  have hnm : (s.setN z k t 1 u).names = s.names := fset_same _ n0
  have hkd : ∀ m, (s.setN z k t 1 u).kind m = if m = z then k else s.kind m := fun m => rfl
  have htr : ∀ m, (s.setN z k t 1 u).tree m = if m = z then t else s.tree m := fun m => rfl
  have hup : ∀ m, (s.setN z k t 1 u).up m = if m = z then u else s.up m := fun m => rfl
  have hdt : ∀ m, (s.setN z k t 1 u).data m = if m = z then ByteArray.empty else s.data m := fun m => rfl
  have hli : ∀ m, (s.setN z k t 1 u).links m = if m = z then 1 else s.links m := fun m => rfl
  have hhe : ∀ m, (s.setN z k t 1 u).held m = if m = z then 0 else s.held m := fun m => rfl
  have hro : (s.setN z k t 1 u).roots = s.roots := rfl
  have hdd : ∀ m, fset d z N m = if m = z then N else d m := fun m => rfl
  have nz : ∀ m j, 0 ≤ m → m < 40 → j ∈ s.kids m → m ≠ z ∧ j ≠ z := by
    intro m j a b hj
    refine ⟨fun e => ?_, fun e => ?_⟩
    · subst e; rw [k0] at hj; cases hj
    · subst e
      have := cnt_kid ⟨a, b⟩ hj
      omega
  refine ⟨fun m a b => ?_, fun m a b => ?_, fun m a b y hy => ?_, fun m a b j hj => ?_, fun m a b => ?_, ⟨h.roots.1, fun r hr => ?_⟩, fun m a b c hne _ => ?_, fun m a b => ?_, fun m a b c => ?_, fun m a b c _ => ?_, fun m a b c _ => ?_⟩
  · rw [hkd]; split
    · omega
    · exact h.kinds m a b
  · rw [hnm, hm, hkd]
    split
    · rename_i c; subst c; rw [n0, k0]; exact ⟨Rising.nil, rfl, by simp, fun _ => rfl⟩
    · exact h.rise m a b
  · rw [hnm] at hy; exact h.nok m a b y hy
  · rw [hm] at hj
    obtain ⟨n1, n2⟩ := nz m j a b hj
    rw [hkd, htr, htr, hup, hdd, hdd, if_neg n2, if_neg n2, if_neg n1, if_neg n2, if_neg n1, if_neg n2]
    exact h.kids m a b j hj
  · rw [hdt, hkd]; split
    · exact ⟨by simp, fun _ => rfl⟩
    · exact h.data m a b
  · have nr : r ≠ z := fun e => by subst e; have := cnt_root (s := s) hr; omega
    rw [hkd, hup, if_neg nr, if_neg nr]
    exact h.roots.2 r hr
  · rw [hkd, if_neg hne] at c
    rw [hup, hkd, hm, hdd, hdd, if_neg hne, if_neg hne, hro]
    rcases h.up m a b c (by omega) (by omega) with g | ⟨g1, g2, g3, g4, g5⟩
    · exact .inl g
    · have : s.up m ≠ z := fun e => by rw [e, hz] at g3; omega
      rw [if_neg this, if_neg this]
      exact .inr ⟨g1, g2, g3, g4, g5⟩
  · obtain ⟨a1, a2⟩ := h.num m a b
    rw [hli, hhe, cnt_same hm hro]
    rw [if_neg (by omega)] at a2
    split
    · rename_i c; subst c; exact ⟨Int.le_refl _, by omega⟩
    · exact ⟨a1, by omega⟩
  · rw [hkd] at c
    rw [hli, hhe]
    split at c
    · omega
    · rename_i c2; rw [if_neg c2, if_neg c2]; exact h.zero m a b c
  · rw [hkd] at c
    rw [hli, hhe]
    split at c
    · rename_i c2; rw [if_pos c2]; exact .inl (by omega)
    · rename_i c2; rw [if_neg c2, if_neg c2]; exact h.pos m a b c (by omega)
  · rw [hkd] at c
    rw [hli]
    split at c
    · rename_i c2; rw [if_pos c2]
    · rename_i c2; rw [if_neg c2]; exact h.dir m a b c (by omega)
/-- a root is laid -/
theorem InvX.root {z : Int} (h : s.InvX d z q) (h1 : 0 ≤ z) (h2 : z < 40) (hz : s.kind z = 2) (hu : s.up z = z) (hl : s.roots.length < 4) : InvX { s with roots := s.roots ++ [z] } d (-1) q := by
  refine ⟨h.kinds, h.rise, h.nok, h.kids, h.data, ⟨by simp; omega, fun r hr => ?_⟩, fun m a b c _ hnq => ?_, fun m a b => ?_, h.zero, h.pos, h.dir⟩
  · rcases List.mem_append.1 hr with hr | hr
    · exact h.roots.2 r hr
    · simp only [List.mem_singleton] at hr
      subst hr
      exact ⟨h1, h2, hz, hu⟩
  · by_cases c2 : m = z
    · subst c2; exact .inl ⟨by simp, hu⟩
    · rcases h.up m a b c c2 hnq with ⟨g1, g2⟩ | g
      · exact .inl ⟨List.mem_append.2 (.inl g1), g2⟩
      · exact .inr g
  · obtain ⟨a1, a2⟩ := h.num m a b
    refine ⟨a1, ?_⟩
    show s.links m = ((FF.sumK s.kids m 40 + (s.roots ++ [z]).count m : Nat) : Int) + _
    have e : s.cnt m = FF.sumK s.kids m 40 + s.roots.count m := rfl
    rw [List.count_append, List.count_singleton, if_neg (show ¬ m = (-1 : Int) by omega)]
    by_cases c : m = z
    · rw [if_pos c] at a2; subst c; simp only [beq_self_eq_true, if_true]; omega
    · rw [if_neg c] at a2
      have : (z == m) = false := by simpa using fun e => c e.symm
      rw [this]; simp only [Bool.false_eq_true, if_false]; omega
/-- one link more or less, of a file -/
theorem InvX.linkUp (h : s.InvX d (-1) (-1)) {k : Int} (h1 : 0 ≤ k) (h2 : k < 40) (hk : s.kind k = 1) : InvX { s with links := fset s.links k (s.links k + 1) } d k (-1) := by
  have hli : ∀ m, fset s.links k (s.links k + 1) m = if m = k then s.links k + 1 else s.links m := fun m => rfl
  refine ⟨h.kinds, h.rise, h.nok, h.kids, h.data, h.roots, fun m a b c _ _ => h.up m a b c (by omega) (by omega), fun m a b => ?_, fun m a b c => ?_, fun m a b c _ => ?_, fun m a b c _ => ?_⟩
  · obtain ⟨a1, a2⟩ := h.num m a b
    rw [if_neg (by omega)] at a2
    refine ⟨a1, ?_⟩
    show fset s.links k (s.links k + 1) m = (s.cnt m : Int) + _
    rw [hli]
    split
    · rename_i c; subst c; omega
    · omega
  · obtain ⟨b1, b2⟩ := h.zero m a b c
    have : m ≠ k := fun e => by subst e; rw [hk] at c; omega
    exact ⟨by show fset s.links k _ m = 0; rw [hli, if_neg this]; exact b1, b2⟩
  · show 0 < fset s.links k _ m ∨ _
    rw [hli]
    obtain ⟨a1, a2⟩ := h.num m a b
    split
    · rename_i c2; subst c2; exact .inl (by omega)
    · exact h.pos m a b c (by omega)
  · show fset s.links k _ m = 1
    have : m ≠ k := fun e => by subst e; rw [hk] at c; omega
    rw [hli, if_neg this]
    exact h.dir m a b c (by omega)
theorem InvX.linkDown {k : Int} (h : s.InvX d k (-1)) (hk : s.kind k ≠ 0) : InvX { s with links := fset s.links k (s.links k - 1) } d (-1) k := by
  have hli : ∀ m, fset s.links k (s.links k - 1) m = if m = k then s.links k - 1 else s.links m := fun m => rfl
  refine ⟨h.kinds, h.rise, h.nok, h.kids, h.data, h.roots, fun m a b c _ hq => h.up m a b c hq (by omega), fun m a b => ?_, fun m a b c => ?_, fun m a b c hq => ?_, fun m a b c hq => ?_⟩
  · obtain ⟨a1, a2⟩ := h.num m a b
    refine ⟨a1, ?_⟩
    show fset s.links k _ m = (s.cnt m : Int) + _
    rw [hli, if_neg (show ¬ m = (-1 : Int) by omega)]
    split
    · rename_i c; subst c; rw [if_pos rfl] at a2; omega
    · rename_i c; rw [if_neg c] at a2; omega
  · obtain ⟨b1, b2⟩ := h.zero m a b c
    have : m ≠ k := fun e => by subst e; exact hk c
    exact ⟨by show fset s.links k _ m = 0; rw [hli, if_neg this]; exact b1, b2⟩
  · show 0 < fset s.links k _ m ∨ _
    rw [hli, if_neg hq]
    exact h.pos m a b c (by omega)
  · show fset s.links k _ m = 1
    rw [hli, if_neg hq]
    exact h.dir m a b c (by omega)
theorem InvX.back (h : s.InvX d e q) (h1 : 0 ≤ q → q < 40 → s.kind q ≠ 0 → 0 < s.links q ∨ 0 < s.held q) (h2 : 0 ≤ q → q < 40 → s.kind q ≠ 2) : s.InvX d e (-1) :=
  ⟨h.kinds, h.rise, h.nok, h.kids, h.data, h.roots, fun m a b c he _ => h.up m a b c he (fun e => by subst e; exact h2 a b c), h.num, h.zero, fun m a b c _ => by
    by_cases e : m = q
    · subst e; exact h1 a b c
    · exact h.pos m a b c e, fun m a b c _ => h.dir m a b c (fun e => by subst e; exact h2 a b c)⟩
theorem InvX.weak (h : s.InvX d e (-1)) (q : Int) : s.InvX d e q :=
  ⟨h.kinds, h.rise, h.nok, h.kids, h.data, h.roots, fun m a b c he _ => h.up m a b c he (by omega), h.num, h.zero, fun m a b c _ => h.pos m a b c (by omega), fun m a b c _ => h.dir m a b c (by omega)⟩
/-- a node is no more -/
theorem InvX.wipe (h : s.InvX d (-1) q) (h1 : 0 ≤ q) (h2 : q < 40) (hl : s.links q = 0) (hh : s.held q = 0) (hk : s.kids q = []) : (s.setN q 0 0 0 0).InvX d (-1) (-1) := by
  have c0 : s.cnt q = 0 := by
    have := (h.num q h1 h2).2
    rw [hl, if_neg (by omega)] at this
    omega
  have n0 : s.names q = [] := List.eq_nil_of_length_eq_zero (by rw [(h.rise q h1 h2).2.1, hk]; rfl)
  have hm : (s.setN q 0 0 0 0).kids = s.kids := fset_same _ hk
  have hnm : (s.setN q 0 0 0 0).names = s.names := fset_same _ n0
  have hkd : ∀ m, (s.setN q 0 0 0 0).kind m = if m = q then 0 else s.kind m := fun m => rfl
  have htr : ∀ m, (s.setN q 0 0 0 0).tree m = if m = q then 0 else s.tree m := fun m => rfl
  have hup : ∀ m, (s.setN q 0 0 0 0).up m = if m = q then 0 else s.up m := fun m => rfl
  have hdt : ∀ m, (s.setN q 0 0 0 0).data m = if m = q then ByteArray.empty else s.data m := fun m => rfl
  have hli : ∀ m, (s.setN q 0 0 0 0).links m = if m = q then 0 else s.links m := fun m => rfl
  have hhe : ∀ m, (s.setN q 0 0 0 0).held m = if m = q then 0 else s.held m := fun m => rfl
  have hro : (s.setN q 0 0 0 0).roots = s.roots := rfl
  have nz : ∀ m j, 0 ≤ m → m < 40 → j ∈ s.kids m → m ≠ q ∧ j ≠ q := by
    intro m j a b hj
    refine ⟨fun e => ?_, fun e => ?_⟩
    · subst e; rw [hk] at hj; cases hj
    · subst e
      have := cnt_kid ⟨a, b⟩ hj
      omega
  refine ⟨fun m a b => ?_, fun m a b => ?_, fun m a b y hy => ?_, fun m a b j hj => ?_, fun m a b => ?_, ⟨h.roots.1, fun r hr => ?_⟩, fun m a b c _ _ => ?_, fun m a b => ?_, fun m a b c => ?_, fun m a b c _ => ?_, fun m a b c _ => ?_⟩
  · rw [hkd]; split
    · exact .inl rfl
    · exact h.kinds m a b
  · rw [hnm, hm, hkd]
    split
    · rename_i c; subst c; rw [n0, hk]; exact ⟨Rising.nil, rfl, by simp, fun _ => rfl⟩
    · exact h.rise m a b
  · rw [hnm] at hy; exact h.nok m a b y hy
  · rw [hm] at hj
    obtain ⟨n1, n2⟩ := nz m j a b hj
    rw [hkd, htr, htr, hup, if_neg n2, if_neg n2, if_neg n1, if_neg n2]
    exact h.kids m a b j hj
  · rw [hdt, hkd]; split
    · exact ⟨by simp, fun _ => rfl⟩
    · exact h.data m a b
  · have nr : r ≠ q := fun e => by subst e; have := cnt_root (s := s) hr; omega
    rw [hkd, hup, if_neg nr, if_neg nr]
    exact h.roots.2 r hr
  · have hne : m ≠ q := fun e => by subst e; rw [hkd, if_pos rfl] at c; omega
    rw [hkd, if_neg hne] at c
    rw [hup, hkd, hm, if_neg hne, hro]
    rcases h.up m a b c (by omega) hne with g | ⟨g1, g2, g3, g4, g5⟩
    · exact .inl g
    · have := (nz (s.up m) m g1 g2 g4).1
      rw [if_neg this]
      exact .inr ⟨g1, g2, g3, g4, g5⟩
  · obtain ⟨a1, a2⟩ := h.num m a b
    rw [hli, hhe, cnt_same hm hro]
    rw [if_neg (show ¬ m = (-1 : Int) by omega)] at a2 ⊢
    split
    · rename_i c; subst c; exact ⟨Int.le_refl _, by omega⟩
    · exact ⟨a1, by omega⟩
  · rw [hkd] at c
    rw [hli, hhe]
    split at c
    · rename_i c2; rw [if_pos c2, if_pos c2]; exact ⟨rfl, rfl⟩
    · rename_i c2; rw [if_neg c2, if_neg c2]; exact h.zero m a b c
  · rw [hkd] at c
    rw [hli, hhe]
    split at c
    · exact absurd rfl c
    · rename_i c2; rw [if_neg c2, if_neg c2]; exact h.pos m a b c c2
  · rw [hkd] at c
    rw [hli]
    split at c
    · omega
    · rename_i c2; rw [if_neg c2]; exact h.dir m a b c c2
end
end FF

end Go.X
