import Derived.Test.YthdinakloheinaaGreatDoorkNL
namespace Go.X.Tr
open Go Go.X
/-! ### what is always so, by each act -/
theorem count_ins (v k : Int) : ∀ (l : List Int) (i : Nat), i ≤ l.length → (l.insertIdx i v).count k = l.count k + (if v = k then 1 else 0)
  | l, 0, _ => by rw [List.insertIdx_zero, List.count_cons]; simp
  | [], i + 1, h => by simp at h
  | x :: l, i + 1, h => by
    rw [List.insertIdx_succ_cons, List.count_cons, List.count_cons, count_ins v k l i (by simpa using h)]
    omega
theorem count_del (k : Int) : ∀ (l : List Int) (i : Nat), i < l.length → (l.eraseIdx i).count k + (if l.getD i 0 = k then 1 else 0) = l.count k
  | x :: l, 0, _ => by rw [List.eraseIdx_cons_zero, List.count_cons]; simp
  | x :: l, i + 1, h => by
    rw [List.eraseIdx_cons_succ, List.count_cons, List.count_cons, ← count_del k l i (by simpa using h), List.getD_cons_succ]
    omega
theorem mem_del_ne {l : List Int} {i : Nat} {k : Int} (hi : i < l.length) (h : k ∈ l) (hk : l.getD i 0 ≠ k) : k ∈ l.eraseIdx i := by
  have h1 := count_del k l i hi
  rw [if_neg hk] at h1
  rw [← List.count_pos_iff] at h ⊢
  omega
theorem at0_mem {l : List Int} {p : Nat} (h : p < l.length) : l.getD p 0 ∈ l := by
  rw [List.getD, List.getElem?_eq_getElem h]
  exact List.getElem_mem h
theorem sumK_set (f : Int → List Int) (z : Int) (l : List Int) (k : Int) : ∀ N : Nat, FF.sumK (fset f z l) k N + (if 0 ≤ z ∧ z < N then (f z).count k else 0) = FF.sumK f k N + (if 0 ≤ z ∧ z < N then l.count k else 0)
  | 0 => by rw [if_neg (by omega), if_neg (by omega)]; rfl
  | N + 1 => by
    have ih := sumK_set f z l k N
    unfold FF.sumK
    by_cases c : z = N
    · subst c
      rw [if_neg (by omega), if_neg (by omega)] at ih
      rw [fset_eq, if_pos (by omega), if_pos (by omega)]
      omega
    · rw [fset_ne _ _ (fun e => c e.symm)]
      by_cases q : 0 ≤ z ∧ z < N
      · rw [if_pos q, if_pos q] at ih
        rw [if_pos (by omega), if_pos (by omega)]
        omega
      · rw [if_neg q, if_neg q] at ih
        rw [if_neg (by omega), if_neg (by omega)]
        omega
theorem sumK_ge (f : Int → List Int) (k : Int) {z : Int} {N : Nat} (hz : 0 ≤ z ∧ z < N) : (f z).count k ≤ FF.sumK f k N := by
  have := sumK_set f z [] k N
  rw [if_pos hz, if_pos hz] at this
  simp only [List.count_nil] at this
  omega
theorem sumK_le (f : Int → List Int) (k : Int) (B : Nat) : ∀ N : Nat, (∀ n : Nat, n < N → (f (n : Int)).length ≤ B) → FF.sumK f k N ≤ N * B
  | 0, _ => by simp [FF.sumK]
  | N + 1, h => by
    have ih := sumK_le f k B N (fun n hn => h n (by omega))
    have h1 := h N (by omega)
    have h2 := List.count_le_length (a := k) (l := f (N : Int))
    unfold FF.sumK
    rw [Nat.add_mul]
    omega
namespace FF
theorem cnt_set {s t : FF} {z : Int} {l : List Int} (h1 : t.kids = fset s.kids z l) (h2 : t.roots = s.roots) (hz : 0 ≤ z ∧ z < 40) (k : Int) : t.cnt k + (s.kids z).count k = s.cnt k + l.count k := by
  have := sumK_set s.kids z l k 40
  rw [if_pos (show 0 ≤ z ∧ z < ((40 : Nat) : Int) by omega), if_pos (show 0 ≤ z ∧ z < ((40 : Nat) : Int) by omega)] at this
  unfold cnt
  rw [h1, h2]
  omega
theorem cnt_same {s t : FF} (h1 : t.kids = s.kids) (h2 : t.roots = s.roots) (k : Int) : t.cnt k = s.cnt k := by unfold cnt; rw [h1, h2]
theorem cnt_kid {s : FF} {n k : Int} (hn : 0 ≤ n ∧ n < 40) (h : k ∈ s.kids n) : 1 ≤ s.cnt k := by
  have h1 := sumK_ge s.kids k (N := 40) hn
  have h2 := List.count_pos_iff.2 h
  unfold cnt
  omega
theorem cnt_root {s : FF} {k : Int} (h : k ∈ s.roots) : 1 ≤ s.cnt k := by
  have h2 := List.count_pos_iff.2 h
  unfold cnt
  omega
section
variable {s : FF} {d : Int → Nat} {e q : Int}
theorem InvX.nokids (h : s.InvX d e q) {n : Int} (h1 : 0 ≤ n) (h2 : n < 40) (hk : s.kind n ≠ 2) : s.kids n = [] ∧ s.names n = [] := by
  obtain ⟨_, a, _, b⟩ := h.rise n h1 h2
  have := b hk
  exact ⟨List.eq_nil_of_length_eq_zero (by rw [← a, this]; rfl), this⟩
theorem InvX.cnt_le (h : s.InvX d e q) (k : Int) : s.cnt k ≤ 324 := by
  have h1 := sumK_le s.kids k 8 40 (fun n hn => by
    obtain ⟨_, a, b, _⟩ := h.rise n (by omega) (by omega)
    omega)
  have h2 := List.count_le_length (a := k) (l := s.roots)
  have h3 := h.roots.1
  unfold cnt
  omega
theorem InvX.sh (h : s.InvX d e q) (hB : ∀ n, 0 ≤ n → n < 40 → s.held n ≤ 1000000) : s.Sh where
  rise := h.rise
  kids := fun n h1 h2 k hk => ⟨(h.kids n h1 h2 k hk).1, (h.kids n h1 h2 k hk).2.1⟩
  data := fun n h1 h2 => (h.data n h1 h2).1
  roots := ⟨h.roots.1, fun r hr => ⟨(h.roots.2 r hr).1, (h.roots.2 r hr).2.1⟩⟩
  num := fun n h1 h2 => by
    obtain ⟨a, b⟩ := h.num n h1 h2
    have c := h.cnt_le n
    have e := hB n h1 h2
    split at b <;> omega
/-- nothing leads to who has no kind -/ theorem InvX.cnt0 (h : s.InvX d e q) {z : Int} (h1 : 0 ≤ z) (h2 : z < 40) (hz : s.kind z = 0) : s.cnt z = 0 ∧ z ≠ e := by
  obtain ⟨_, b⟩ := h.num z h1 h2
  have a := (h.zero z h1 h2 hz).1
  split at b
  · omega
  · exact ⟨by omega, by assumption⟩
/-- a name is cut -/ theorem InvX.cut (h : s.InvX d (-1) q) {n : Int} {x : ByteArray} {k : Int} (h1 : 0 ≤ n) (h2 : n < 40) (hx : hasn (s.names n) x = true) (hk : at0 (s.kids n) (posn (s.names n) x) = k) : (s.cutF n x).InvX d k q := by
  obtain ⟨p1, p2⟩ := hasn_iff.1 hx
  obtain ⟨r1, r2, r3, r4⟩ := h.rise n h1 h2
  have hp : posn (s.names n) x < (s.kids n).length := by omega
  have hk2 : (s.kids n).getD (posn (s.names n) x) 0 = k := by simpa [at0] using hk
  have hkr : 0 ≤ k := by
    have := at0_mem hp
    rw [hk2] at this
    exact (h.kids n h1 h2 k this).1
  have hm : ∀ m, (s.cutF n x).kids m = if m = n then (s.kids n).eraseIdx (posn (s.names n) x) else s.kids m := fun m => rfl
  have hnm : ∀ m, (s.cutF n x).names m = if m = n then (s.names n).eraseIdx (posn (s.names n) x) else s.names m := fun m => rfl
  have sub : ∀ m j, j ∈ (s.cutF n x).kids m → j ∈ s.kids m := fun m j hj => by
    rw [hm] at hj
    split at hj
    · rename_i c; subst c; exact List.mem_of_mem_eraseIdx hj
    · exact hj
  refine ⟨h.kinds, fun m a b => ?_, fun m a b y hy => ?_, fun m a b j hj => h.kids m a b j (sub m j hj), h.data, h.roots, fun m a b c hne hnq => ?_, fun m a b => ?_, h.zero, h.pos, h.dir⟩
  · rw [hm, hnm]
    by_cases c : m = n
    · subst c
      rw [if_pos rfl, if_pos rfl, List.length_eraseIdx, if_pos p1, List.length_eraseIdx, if_pos hp]
      exact ⟨r1.erase _ p1, by omega, by omega, fun q => by rw [r4 q]; rfl⟩
    · rw [if_neg c, if_neg c]
      exact h.rise m a b
  · rw [hnm] at hy
    split at hy
    · rename_i c; subst c; exact h.nok m a b y (List.mem_of_mem_eraseIdx hy)
    · exact h.nok m a b y hy
  · rcases h.up m a b c (by omega) hnq with g | ⟨g1, g2, g3, g4, g5⟩
    · exact .inl g
    · refine .inr ⟨g1, g2, g3, ?_, g5⟩
      show m ∈ (s.cutF n x).kids (s.up m)
      rw [hm]
      split
      · rename_i c2
        rw [c2] at g4
        exact mem_del_ne hp g4 (by rw [hk2]; exact fun e => hne e.symm)
      · exact g4
  · obtain ⟨a1, a2⟩ := h.num m a b
    have h3 := cnt_set (s := s) (t := s.cutF n x) (z := n) rfl rfl ⟨h1, h2⟩ m
    have h4 := count_del m (s.kids n) _ hp
    rw [hk2] at h4
    rw [if_neg (by omega)] at a2
    refine ⟨a1, ?_⟩
    show s.links m = _
    by_cases c : m = k
    · rw [if_pos c]; rw [if_pos c.symm] at h4; omega
    · rw [if_neg c]; rw [if_neg (fun e => c e.symm)] at h4; omega
/-- a name is put -/ theorem InvX.put {k : Int} (h : s.InvX d k q) {n : Int} {x : ByteArray} (h1 : 0 ≤ n) (h2 : n < 40) (hn : s.kind n = 2) (hx : hasn (s.names n) x = false) (hl : (s.names n).length < 8) (ok : nameOk x = true) (hk : 0 ≤ k ∧ k < 40 ∧ s.kind k ≠ 0) (ht : s.tree k = s.tree n) (hd : s.kind k = 2 → s.up k = n ∧ d n < d k) : (s.putF n x k).InvX d (-1) q := by
  obtain ⟨r1, r2, r3, r4⟩ := h.rise n h1 h2
  have hpl := posn_le (s.names n) x
  have hp : posn (s.names n) x ≤ (s.kids n).length := by omega
  have hm : ∀ m, (s.putF n x k).kids m = if m = n then (s.kids n).insertIdx (posn (s.names n) x) k else s.kids m := fun m => rfl
  have hnm : ∀ m, (s.putF n x k).names m = if m = n then (s.names n).insertIdx (posn (s.names n) x) x else s.names m := fun m => rfl
  refine ⟨h.kinds, fun m a b => ?_, fun m a b y hy => ?_, fun m a b j hj => ?_, h.data, h.roots, fun m a b c _ hnq => ?_, fun m a b => ?_, h.zero, h.pos, h.dir⟩
  · rw [hm, hnm]
    by_cases c : m = n
    · subst c
      rw [if_pos rfl, if_pos rfl, List.length_insertIdx, if_pos hpl, List.length_insertIdx, if_pos hp]
      exact ⟨r1.insert hx, by omega, by omega, fun q => absurd hn q⟩
    · rw [if_neg c, if_neg c]
      exact h.rise m a b
  · rw [hnm] at hy
    split at hy
    · rename_i c; subst c
      rcases (List.mem_insertIdx hpl).1 hy with rfl | hy
      · exact ok
      · exact h.nok m a b y hy
    · exact h.nok m a b y hy
  · rw [hm] at hj
    split at hj
    · rename_i c; subst c
      rcases (List.mem_insertIdx hp).1 hj with rfl | hj
      · exact ⟨hk.1, hk.2.1, hk.2.2, ht, hd⟩
      · exact h.kids m a b j hj
    · exact h.kids m a b j hj
  · by_cases c3 : m = k
    · subst c3
      obtain ⟨d1, d2⟩ := hd c
      refine .inr ?_
      show 0 ≤ s.up m ∧ s.up m < 40 ∧ s.kind (s.up m) = 2 ∧ m ∈ (s.putF n x m).kids (s.up m) ∧ d (s.up m) < d m
      rw [d1]
      refine ⟨h1, h2, hn, ?_, d2⟩
      rw [hm, if_pos rfl]
      exact (List.mem_insertIdx hp).2 (.inl rfl)
    · rcases h.up m a b c c3 hnq with g | ⟨g1, g2, g3, g4, g5⟩
      · exact .inl g
      · refine .inr ⟨g1, g2, g3, ?_, g5⟩
        show m ∈ (s.putF n x k).kids (s.up m)
        rw [hm]
        split
        · rename_i c2
          rw [c2] at g4
          exact (List.mem_insertIdx hp).2 (.inr g4)
        · exact g4
  · obtain ⟨a1, a2⟩ := h.num m a b
    have h3 := cnt_set (s := s) (t := s.putF n x k) (z := n) rfl rfl ⟨h1, h2⟩ m
    have h4 := count_ins k m (s.kids n) _ hp
    rw [if_neg (by omega)]
    refine ⟨a1, ?_⟩
    show s.links m = _
    by_cases c : m = k
    · rw [if_pos c] at a2; rw [if_pos c.symm] at h4; omega
    · rw [if_neg c] at a2; rw [if_neg (fun e => c e.symm)] at h4; omega
/-- a node made new, of which no name is laid yet -/ theorem InvX.fresh (h : s.InvX d (-1) (-1)) {z k t u : Int} (h1 : 0 ≤ z) (h2 : z < 40) (hz : s.kind z = 0) (hk : k = 1 ∨ k = 2) (N : Nat) : (s.setN z k t 1 u).InvX (fset d z N) z (-1) := by
  obtain ⟨c0, _⟩ := h.cnt0 h1 h2 hz
  obtain ⟨k0, n0⟩ := h.nokids h1 h2 (by omega)
  obtain ⟨l0, e0⟩ := h.zero z h1 h2 hz
  have hm : (s.setN z k t 1 u).kids = s.kids := fset_same _ k0
  have hnm : (s.setN z k t 1 u).names = s.names := fset_same _ n0
  have hkd : ∀ m, (s.setN z k t 1 u).kind m = if m = z then k else s.kind m := fun m => rfl
  have htr : ∀ m, (s.setN z k t 1 u).tree m = if m = z then t else s.tree m := fun m => rfl
  have hup : ∀ m, (s.setN z k t 1 u).up m = if m = z then u else s.up m := fun m => rfl
  have hdt : ∀ m, (s.setN z k t 1 u).data m = if m = z then ByteArray.empty else s.data m := fun m => rfl
  have hli : ∀ m, (s.setN z k t 1 u).links m = if m = z then 1 else s.links m := fun m => rfl
  have hhe : ∀ m, (s.setN z k t 1 u).held m = if m = z then 0 else s.held m := fun m => rfl
  have hro : (s.setN z k t 1 u).roots = s.roots := rfl
  have hdd : ∀ m, fset d z N m = if m = z then N else d m := fun m => rfl
  have nz : ∀ m j, 0 ≤ m → m < 40 → j ∈ s.kids m → m ≠ z ∧ j ≠ z := by
    intro m j a b hj
    refine ⟨fun e => ?_, fun e => ?_⟩
    · subst e; rw [k0] at hj; cases hj
    · subst e
      have := cnt_kid ⟨a, b⟩ hj
      omega
  refine ⟨fun m a b => ?_, fun m a b => ?_, fun m a b y hy => ?_, fun m a b j hj => ?_, fun m a b => ?_, ⟨h.roots.1, fun r hr => ?_⟩, fun m a b c hne _ => ?_, fun m a b => ?_, fun m a b c => ?_, fun m a b c _ => ?_, fun m a b c _ => ?_⟩
  · rw [hkd]; split
    · omega
    · exact h.kinds m a b
  · rw [hnm, hm, hkd]
    split
    · rename_i c; subst c; rw [n0, k0]; exact ⟨Rising.nil, rfl, by simp, fun _ => rfl⟩
    · exact h.rise m a b
  · rw [hnm] at hy; exact h.nok m a b y hy
  · rw [hm] at hj
    obtain ⟨n1, n2⟩ := nz m j a b hj
    rw [hkd, htr, htr, hup, hdd, hdd, if_neg n2, if_neg n2, if_neg n1, if_neg n2, if_neg n1, if_neg n2]
    exact h.kids m a b j hj
  · rw [hdt, hkd]; split
    · exact ⟨by simp, fun _ => rfl⟩
    · exact h.data m a b
  · have nr : r ≠ z := fun e => by subst e; have := cnt_root (s := s) hr; omega
    rw [hkd, hup, if_neg nr, if_neg nr]
    exact h.roots.2 r hr
  · rw [hkd, if_neg hne] at c
    rw [hup, hkd, hm, hdd, hdd, if_neg hne, if_neg hne, hro]
    rcases h.up m a b c (by omega) (by omega) with g | ⟨g1, g2, g3, g4, g5⟩
    · exact .inl g
    · have : s.up m ≠ z := fun e => by rw [e, hz] at g3; omega
      rw [if_neg this, if_neg this]
      exact .inr ⟨g1, g2, g3, g4, g5⟩
  · obtain ⟨a1, a2⟩ := h.num m a b
    rw [hli, hhe, cnt_same hm hro]
    rw [if_neg (by omega)] at a2
    split
    · rename_i c; subst c; exact ⟨Int.le_refl _, by omega⟩
    · exact ⟨a1, by omega⟩
  · rw [hkd] at c
    rw [hli, hhe]
    split at c
    · omega
    · rename_i c2; rw [if_neg c2, if_neg c2]; exact h.zero m a b c
  · rw [hkd] at c
    rw [hli, hhe]
    split at c
    · rename_i c2; rw [if_pos c2]; exact .inl (by omega)
    · rename_i c2; rw [if_neg c2, if_neg c2]; exact h.pos m a b c (by omega)
  · rw [hkd] at c
    rw [hli]
    split at c
    · rename_i c2; rw [if_pos c2]
    · rename_i c2; rw [if_neg c2]; exact h.dir m a b c (by omega)
/-- a root is laid -/ theorem InvX.root {z : Int} (h : s.InvX d z q) (h1 : 0 ≤ z) (h2 : z < 40) (hz : s.kind z = 2) (hu : s.up z = z) (hl : s.roots.length < 4) : InvX { s with roots := s.roots ++ [z] } d (-1) q := by
  refine ⟨h.kinds, h.rise, h.nok, h.kids, h.data, ⟨by simp; omega, fun r hr => ?_⟩, fun m a b c _ hnq => ?_, fun m a b => ?_, h.zero, h.pos, h.dir⟩
  · rcases List.mem_append.1 hr with hr | hr
    · exact h.roots.2 r hr
    · simp only [List.mem_singleton] at hr
      subst hr
      exact ⟨h1, h2, hz, hu⟩
  · by_cases c2 : m = z
    · subst c2; exact .inl ⟨by simp, hu⟩
    · rcases h.up m a b c c2 hnq with ⟨g1, g2⟩ | g
      · exact .inl ⟨List.mem_append.2 (.inl g1), g2⟩
      · exact .inr g
  · obtain ⟨a1, a2⟩ := h.num m a b
    refine ⟨a1, ?_⟩
    show s.links m = ((FF.sumK s.kids m 40 + (s.roots ++ [z]).count m : Nat) : Int) + _
    have e : s.cnt m = FF.sumK s.kids m 40 + s.roots.count m := rfl
    rw [List.count_append, List.count_singleton, if_neg (show ¬ m = (-1 : Int) by omega)]
    by_cases c : m = z
    · rw [if_pos c] at a2; subst c; simp only [beq_self_eq_true, if_true]; omega
    · rw [if_neg c] at a2
      have : (z == m) = false := by simpa using fun e => c e.symm
      rw [this]; simp only [Bool.false_eq_true, if_false]; omega
/-- one link more or less, of a file -/ theorem InvX.linkUp (h : s.InvX d (-1) (-1)) {k : Int} (h1 : 0 ≤ k) (h2 : k < 40) (hk : s.kind k = 1) : InvX { s with links := fset s.links k (s.links k + 1) } d k (-1) := by
  have hli : ∀ m, fset s.links k (s.links k + 1) m = if m = k then s.links k + 1 else s.links m := fun m => rfl
  refine ⟨h.kinds, h.rise, h.nok, h.kids, h.data, h.roots, fun m a b c _ _ => h.up m a b c (by omega) (by omega), fun m a b => ?_, fun m a b c => ?_, fun m a b c _ => ?_, fun m a b c _ => ?_⟩
  · obtain ⟨a1, a2⟩ := h.num m a b
    rw [if_neg (by omega)] at a2
    refine ⟨a1, ?_⟩
    show fset s.links k (s.links k + 1) m = (s.cnt m : Int) + _
    rw [hli]
    split
    · rename_i c; subst c; omega
    · omega
  · obtain ⟨b1, b2⟩ := h.zero m a b c
    have : m ≠ k := fun e => by subst e; rw [hk] at c; omega
    exact ⟨by show fset s.links k _ m = 0; rw [hli, if_neg this]; exact b1, b2⟩
  · show 0 < fset s.links k _ m ∨ _
    rw [hli]
    obtain ⟨a1, a2⟩ := h.num m a b
    split
    · rename_i c2; subst c2; exact .inl (by omega)
    · exact h.pos m a b c (by omega)
  · show fset s.links k _ m = 1
    have : m ≠ k := fun e => by subst e; rw [hk] at c; omega
    rw [hli, if_neg this]
    exact h.dir m a b c (by omega)
theorem InvX.linkDown {k : Int} (h : s.InvX d k (-1)) (hk : s.kind k ≠ 0) : InvX { s with links := fset s.links k (s.links k - 1) } d (-1) k := by
  have hli : ∀ m, fset s.links k (s.links k - 1) m = if m = k then s.links k - 1 else s.links m := fun m => rfl
  refine ⟨h.kinds, h.rise, h.nok, h.kids, h.data, h.roots, fun m a b c _ hq => h.up m a b c hq (by omega), fun m a b => ?_, fun m a b c => ?_, fun m a b c hq => ?_, fun m a b c hq => ?_⟩
  · obtain ⟨a1, a2⟩ := h.num m a b
    refine ⟨a1, ?_⟩
    show fset s.links k _ m = (s.cnt m : Int) + _
    rw [hli, if_neg (show ¬ m = (-1 : Int) by omega)]
    split
    · rename_i c; subst c; rw [if_pos rfl] at a2; omega
    · rename_i c; rw [if_neg c] at a2; omega
  · obtain ⟨b1, b2⟩ := h.zero m a b c
    have : m ≠ k := fun e => by subst e; exact hk c
    exact ⟨by show fset s.links k _ m = 0; rw [hli, if_neg this]; exact b1, b2⟩
  · show 0 < fset s.links k _ m ∨ _
    rw [hli, if_neg hq]
    exact h.pos m a b c (by omega)
  · show fset s.links k _ m = 1
    rw [hli, if_neg hq]
    exact h.dir m a b c (by omega)
theorem InvX.back (h : s.InvX d e q) (h1 : 0 ≤ q → q < 40 → s.kind q ≠ 0 → 0 < s.links q ∨ 0 < s.held q) (h2 : 0 ≤ q → q < 40 → s.kind q ≠ 2) : s.InvX d e (-1) :=
  ⟨h.kinds, h.rise, h.nok, h.kids, h.data, h.roots, fun m a b c he _ => h.up m a b c he (fun e => by subst e; exact h2 a b c), h.num, h.zero, fun m a b c _ => by
    by_cases e : m = q
    · subst e; exact h1 a b c
    · exact h.pos m a b c e, fun m a b c _ => h.dir m a b c (fun e => by subst e; exact h2 a b c)⟩
theorem InvX.weak (h : s.InvX d e (-1)) (q : Int) : s.InvX d e q :=
  ⟨h.kinds, h.rise, h.nok, h.kids, h.data, h.roots, fun m a b c he _ => h.up m a b c he (by omega), h.num, h.zero, fun m a b c _ => h.pos m a b c (by omega), fun m a b c _ => h.dir m a b c (by omega)⟩
/-- a node is no more -/ theorem InvX.wipe (h : s.InvX d (-1) q) (h1 : 0 ≤ q) (h2 : q < 40) (hl : s.links q = 0) (hh : s.held q = 0) (hk : s.kids q = []) : (s.setN q 0 0 0 0).InvX d (-1) (-1) := by
  have c0 : s.cnt q = 0 := by
    have := (h.num q h1 h2).2
    rw [hl, if_neg (by omega)] at this
    omega
  have n0 : s.names q = [] := List.eq_nil_of_length_eq_zero (by rw [(h.rise q h1 h2).2.1, hk]; rfl)
  have hm : (s.setN q 0 0 0 0).kids = s.kids := fset_same _ hk
  have hnm : (s.setN q 0 0 0 0).names = s.names := fset_same _ n0
  have hkd : ∀ m, (s.setN q 0 0 0 0).kind m = if m = q then 0 else s.kind m := fun m => rfl
  have htr : ∀ m, (s.setN q 0 0 0 0).tree m = if m = q then 0 else s.tree m := fun m => rfl
  have hup : ∀ m, (s.setN q 0 0 0 0).up m = if m = q then 0 else s.up m := fun m => rfl
  have hdt : ∀ m, (s.setN q 0 0 0 0).data m = if m = q then ByteArray.empty else s.data m := fun m => rfl
  have hli : ∀ m, (s.setN q 0 0 0 0).links m = if m = q then 0 else s.links m := fun m => rfl
  have hhe : ∀ m, (s.setN q 0 0 0 0).held m = if m = q then 0 else s.held m := fun m => rfl
  have hro : (s.setN q 0 0 0 0).roots = s.roots := rfl
  have nz : ∀ m j, 0 ≤ m → m < 40 → j ∈ s.kids m → m ≠ q ∧ j ≠ q := by
    intro m j a b hj
    refine ⟨fun e => ?_, fun e => ?_⟩
    · subst e; rw [hk] at hj; cases hj
    · subst e
      have := cnt_kid ⟨a, b⟩ hj
      omega
  refine ⟨fun m a b => ?_, fun m a b => ?_, fun m a b y hy => ?_, fun m a b j hj => ?_, fun m a b => ?_, ⟨h.roots.1, fun r hr => ?_⟩, fun m a b c _ _ => ?_, fun m a b => ?_, fun m a b c => ?_, fun m a b c _ => ?_, fun m a b c _ => ?_⟩
  · rw [hkd]; split
    · exact .inl rfl
    · exact h.kinds m a b
  · rw [hnm, hm, hkd]
    split
    · rename_i c; subst c; rw [n0, hk]; exact ⟨Rising.nil, rfl, by simp, fun _ => rfl⟩
    · exact h.rise m a b
  · rw [hnm] at hy; exact h.nok m a b y hy
  · rw [hm] at hj
    obtain ⟨n1, n2⟩ := nz m j a b hj
    rw [hkd, htr, htr, hup, if_neg n2, if_neg n2, if_neg n1, if_neg n2]
    exact h.kids m a b j hj
  · rw [hdt, hkd]; split
    · exact ⟨by simp, fun _ => rfl⟩
    · exact h.data m a b
  · have nr : r ≠ q := fun e => by subst e; have := cnt_root (s := s) hr; omega
    rw [hkd, hup, if_neg nr, if_neg nr]
    exact h.roots.2 r hr
  · have hne : m ≠ q := fun e => by subst e; rw [hkd, if_pos rfl] at c; omega
    rw [hkd, if_neg hne] at c
    rw [hup, hkd, hm, if_neg hne, hro]
    rcases h.up m a b c (by omega) hne with g | ⟨g1, g2, g3, g4, g5⟩
    · exact .inl g
    · have := (nz (s.up m) m g1 g2 g4).1
      rw [if_neg this]
      exact .inr ⟨g1, g2, g3, g4, g5⟩
  · obtain ⟨a1, a2⟩ := h.num m a b
    rw [hli, hhe, cnt_same hm hro]
    rw [if_neg (show ¬ m = (-1 : Int) by omega)] at a2 ⊢
    split
    · rename_i c; subst c; exact ⟨Int.le_refl _, by omega⟩
    · exact ⟨a1, by omega⟩
  · rw [hkd] at c
    rw [hli, hhe]
    split at c
    · rename_i c2; rw [if_pos c2, if_pos c2]; exact ⟨rfl, rfl⟩
    · rename_i c2; rw [if_neg c2, if_neg c2]; exact h.zero m a b c
  · rw [hkd] at c
    rw [hli, hhe]
    split at c
    · exact absurd rfl c
    · rename_i c2; rw [if_neg c2, if_neg c2]; exact h.pos m a b c c2
  · rw [hkd] at c
    rw [hli]
    split at c
    · omega
    · rename_i c2; rw [if_neg c2]; exact h.dir m a b c c2
end
end FF

end Go.X.Tr

namespace Go.X.Tr
open Go Go.X
theorem posn_uniq {l : List ByteArray} {x : ByteArray} {p : Nat} (hp : p ≤ l.length) (h1 : ∀ i, i < p → blt (ats l i) x = true) (h2 : p < l.length → blt (ats l p) x = false) : posn l x = p := by
  have h3 := posn_le l x
  rcases Nat.lt_trichotomy (posn l x) p with c | c | c
  · have a := h1 _ c
    rw [posn_at l x (by omega)] at a; cases a
  · exact c
  · have a := posn_lt l x p c
    rw [h2 (by omega)] at a; cases a
theorem posn_erase {l : List ByteArray} (hl : Rising l) {x : ByteArray} (h : hasn l x = true) : posn (l.eraseIdx (posn l x)) x = posn l x := by
  obtain ⟨p1, p2⟩ := hasn_iff.1 h
  refine posn_uniq (by rw [List.length_eraseIdx, if_pos p1]; omega) (fun i hi => ?_) (fun hi => ?_)
  · rw [ats_erase, if_pos hi]; exact posn_lt l x i hi
  · rw [List.length_eraseIdx, if_pos p1] at hi
    rw [ats_erase, if_neg (by omega)]
    exact posn_ge hl x (by omega) (by omega)
theorem ins_del {α : Type} (y : α) : ∀ (l : List α) (p : Nat), p < l.length → (l.eraseIdx p).insertIdx p (l.getD p y) = l
  | x :: l, 0, _ => by simp
  | x :: l, p + 1, h => by
    rw [List.eraseIdx_cons_succ, List.insertIdx_succ_cons, List.getD_cons_succ, ins_del y l p (by simpa using h)]
theorem hasn_mem {l : List ByteArray} {x : ByteArray} (h : hasn l x = true) : x ∈ l := by
  obtain ⟨p1, p2⟩ := hasn_iff.1 h
  have h2 : l[posn l x]? = some (ats l (posn l x)) := by unfold ats; rw [List.getD, List.getElem?_eq_getElem p1]; rfl
  rw [p2] at h2
  exact List.mem_of_getElem? h2
namespace FF
theorem putcut {s : FF} {n : Int} {x : ByteArray} (hl : Rising (s.names n)) (h : hasn (s.names n) x = true) (hk : (s.names n).length = (s.kids n).length) : (s.cutF n x).putF n x (at0 (s.kids n) (posn (s.names n) x)) = s := by
  obtain ⟨p1, p2⟩ := hasn_iff.1 h
  have e1 : ((s.cutF n x).names n) = (s.names n).eraseIdx (posn (s.names n) x) := fset_eq _ _ _
  have e2 : ((s.cutF n x).kids n) = (s.kids n).eraseIdx (posn (s.names n) x) := fset_eq _ _ _
  have a1 := ins_del ByteArray.empty (s.names n) _ p1
  have a2 := ins_del (0 : Int) (s.kids n) (posn (s.names n) x) (by omega)
  rw [show (s.names n).getD (posn (s.names n) x) ByteArray.empty = x from p2] at a1
  have b1 : fset (s.cutF n x).names n (((s.cutF n x).names n).insertIdx (posn ((s.cutF n x).names n) x) x) = s.names := by
    rw [e1, posn_erase hl h, a1]
    funext j; unfold fset; split
    · rename_i c; rw [c]
    · show fset s.names n _ j = _; rw [fset_ne _ _ (by assumption)]
  have b2 : fset (s.cutF n x).kids n (((s.cutF n x).kids n).insertIdx (posn ((s.cutF n x).names n) x) (at0 (s.kids n) (posn (s.names n) x))) = s.kids := by
    rw [e2, e1, posn_erase hl h, show at0 (s.kids n) (posn (s.names n) x) = (s.kids n).getD (posn (s.names n) x) 0 from by simp [at0], a2]
    funext j; unfold fset; split
    · rename_i c; rw [c]
    · show fset s.kids n _ j = _; rw [fset_ne _ _ (by assumption)]
  unfold putF
  rw [b1, b2]
  rfl
/-! ### under -/
def Ch (s : FF) (d : Int → Nat) (k : Int) : Prop := ∀ n, 0 ≤ n → n < 40 → s.kind n = 2 → n ≠ k → s.up n = n ∨ (0 ≤ s.up n ∧ s.up n < 40 ∧ s.kind (s.up n) = 2 ∧ d (s.up n) < d n)
theorem undF_congr {s t : FF} (h : t.up = s.up) (k : Int) : ∀ (f : Nat) (n : Int), undF t f n k = undF s f n k
  | 0, n => rfl
  | f + 1, n => by unfold undF; rw [h, undF_congr h k f]
theorem undF_fuel {s : FF} {d : Int → Nat} {k : Int} (hc : s.Ch d k) : ∀ (f g : Nat) (n : Int), 0 ≤ n → n < 40 → s.kind n = 2 → d n ≤ f → d n ≤ g → undF s f n k = undF s g n k
  | 0, 0, _, _, _, _, _, _ => rfl
  | 0, g + 1, n, h1, h2, h3, h4, h5 => by
    unfold undF
    by_cases c : n = k
    · rw [if_pos c]; simp [c]
    · rw [if_neg c]
      rcases hc n h1 h2 h3 c with u | ⟨_, _, _, u⟩
      · rw [if_pos u]; simp [c]
      · omega
  | f + 1, 0, n, h1, h2, h3, h4, h5 => by
    unfold undF
    by_cases c : n = k
    · rw [if_pos c]; simp [c]
    · rw [if_neg c]
      rcases hc n h1 h2 h3 c with u | ⟨_, _, _, u⟩
      · rw [if_pos u]; simp [c]
      · omega
  | f + 1, g + 1, n, h1, h2, h3, h4, h5 => by
    unfold undF
    by_cases c : n = k
    · rw [if_pos c, if_pos c]
    · rw [if_neg c, if_neg c]
      by_cases c2 : s.up n = n
      · rw [if_pos c2, if_pos c2]
      · rw [if_neg c2, if_neg c2]
        rcases hc n h1 h2 h3 c with u | ⟨u1, u2, u3, u4⟩
        · exact absurd u c2
        · exact undF_fuel hc f g _ u1 u2 u3 (by omega) (by omega)
theorem und_self (d : Int → Nat) (s : FF) (k : Int) : und d s k k = true := by
  unfold und
  cases d k with
  | zero => simp [undF]
  | succ f => simp [undF]
theorem und_step {s : FF} {d : Int → Nat} {k n : Int} (hc : s.Ch d k) (h1 : 0 ≤ n) (h2 : n < 40) (h3 : s.kind n = 2) (h4 : n ≠ k) : und d s n k = if s.up n = n then false else und d s (s.up n) k := by
  unfold und
  rw [undF_fuel hc (d n) (d n + 1) n h1 h2 h3 (by omega) (by omega)]
  conv => lhs; unfold undF
  rw [if_neg h4]
  by_cases c2 : s.up n = n
  · rw [if_pos c2, if_pos c2]
  · rw [if_neg c2, if_neg c2]
    rcases hc n h1 h2 h3 h4 with u | ⟨u1, u2, u3, u4⟩
    · exact absurd u c2
    · exact undF_fuel hc _ _ _ u1 u2 u3 (by omega) (by omega)
theorem InvX.ch {s : FF} {d : Int → Nat} {k : Int} (h : s.InvX d k (-1)) : s.Ch d k := fun n h1 h2 h3 h4 => by
  rcases h.up n h1 h2 h3 h4 (by omega) with g | ⟨g1, g2, g3, _, g5⟩
  · exact .inl g.2
  · exact .inr ⟨g1, g2, g3, g5⟩
def rank (d : Int → Nat) (s : FF) (k to : Int) : Int → Nat := fun x => d x + (if und d s x k = true then d to + 1 else 0)
theorem InvX.upTo {s : FF} {d : Int → Nat} {k to : Int} (h : s.InvX d k (-1)) (h1 : 0 ≤ k) (h2 : k < 40) (h3 : s.kind k = 2) (h4 : 0 ≤ to) (h5 : to < 40) (h6 : s.kind to = 2) (hu : und d s to k = false) :
    InvX { s with up := fset s.up k to } (rank d s k to) k (-1) ∧ rank d s k to to < rank d s k to k := by
  have c0 : s.cnt k = 0 := by
    have a := (h.num k h1 h2).2
    have b := h.dir k h1 h2 h3 (by omega)
    rw [if_pos rfl] at a
    omega
  have hc := h.ch
  have hup : ∀ m, fset s.up k to m = if m = k then to else s.up m := fun m => rfl
  refine ⟨⟨h.kinds, h.rise, h.nok, fun n a b j hj => ?_, h.data, ⟨h.roots.1, fun r hr => ?_⟩, fun n a b c hk hq => ?_, h.num, h.zero, h.pos, h.dir⟩, ?_⟩
  · have hj' : j ∈ s.kids n := hj
    obtain ⟨g1, g2, g3, g4, g5⟩ := h.kids n a b j hj'
    have hjk : j ≠ k := fun e => by subst e; have := cnt_kid ⟨a, b⟩ hj'; omega
    refine ⟨g1, g2, g3, g4, fun g => ?_⟩
    obtain ⟨g6, g7⟩ := g5 g
    refine ⟨by show fset s.up k to j = n; rw [hup, if_neg hjk]; exact g6, ?_⟩
    have e := und_step hc g1 g2 g hjk
    have hnj : ¬ n = j := fun e => by rw [e] at g7; omega
    rw [g6, if_neg hnj] at e
    unfold rank
    rw [e]
    omega
  · have hr' : r ∈ s.roots := hr
    obtain ⟨g1, g2, g3, g4⟩ := h.roots.2 r hr'
    have : r ≠ k := fun e => by subst e; have := cnt_root hr'; omega
    exact ⟨g1, g2, g3, by show fset s.up k to r = r; rw [hup, if_neg this]; exact g4⟩
  · show (n ∈ s.roots ∧ fset s.up k to n = n) ∨ (0 ≤ fset s.up k to n ∧ fset s.up k to n < 40 ∧ s.kind (fset s.up k to n) = 2 ∧ n ∈ s.kids (fset s.up k to n) ∧ rank d s k to (fset s.up k to n) < rank d s k to n)
    rw [hup, if_neg hk]
    rcases h.up n a b c hk hq with g | ⟨g1, g2, g3, g4, g5⟩
    · exact .inl g
    · refine .inr ⟨g1, g2, g3, g4, ?_⟩
      have e := und_step hc a b c hk
      have hne : ¬ s.up n = n := fun e => by rw [e] at g5; omega
      rw [if_neg hne] at e
      unfold rank
      rw [e]
      omega
  · unfold rank
    rw [hu, und_self]
    simp
    omega
/-! ### the acts -/
structure Ok (s : FF) (d : Int → Nat) (B : Int) : Prop where
  inv : s.Inv d
  held : ∀ n, 0 ≤ n → n < 40 → s.held n ≤ B
  nn : 0 ≤ B
theorem Ok.sh {s : FF} {d : Int → Nat} {B : Int} (h : s.Ok d B) (hB : B ≤ 1000000) : s.Sh := h.inv.sh fun n a b => Int.le_trans (h.held n a b) hB
theorem freeN_spec (s : FF) : ∀ k : Nat, k ≤ 40 → s.freeN k = -1 ∨ (40 - (k : Int) ≤ s.freeN k ∧ s.freeN k < 40 ∧ s.kind (s.freeN k) = 0)
  | 0, _ => .inl rfl
  | k + 1, h => by
    unfold freeN
    split
    · rename_i c; exact .inr ⟨by omega, by omega, c⟩
    · rcases freeN_spec s k (by omega) with g | ⟨g1, g2, g3⟩
      · exact .inl g
      · exact .inr ⟨by omega, g2, g3⟩
theorem free_ok {s : FF} (h : ¬ s.free < 0) : 0 ≤ s.free ∧ s.free < 40 ∧ s.kind s.free = 0 := by
  have := freeN_spec s 40 (Nat.le_refl _)
  unfold free at h ⊢
  rcases this with g | ⟨g1, g2, g3⟩
  · omega
  · exact ⟨by omega, g2, g3⟩
section
variable {s : FF} {d : Int → Nat} {B : Int}
theorem Ok.plant (h : s.Ok d B) : ∃ d', s.plant.Ok d' (B + 1) := by
  have hn := h.nn
  unfold FF.plant
  split
  · rename_i c
    unfold plantE at c
    split at c
    · omega
    · split at c
      · omega
      · rename_i c1 c2
        obtain ⟨f1, f2, f3⟩ := free_ok c2
        have hr := h.inv.roots.1
        have h1 := h.inv.fresh (k := 2) (t := (s.roots.length : Int)) (u := s.free) f1 f2 f3 (.inr rfl) 0
        have h2 := h1.root f1 f2 (fset_eq _ _ _) (fset_eq _ _ _) (show s.roots.length < 4 by omega)
        refine ⟨_, h2, fun n a b => ?_, by omega⟩
        show fset s.held s.free 0 n ≤ _
        unfold fset; split
        · omega
        · have := h.held n a b; omega
  · exact ⟨d, h.inv, fun n a b => by have := h.held n a b; omega, by omega⟩
theorem roomE_0 {s : FF} {n : Int} {x : ByteArray} (h : s.roomE n x = 0) : s.isE n 2 = 0 ∧ nameOk x = true ∧ hasn (s.names n) x = false ∧ (s.names n).length ≠ 8 := by
  unfold roomE at h
  split at h
  · omega
  · split at h
    · omega
    · split at h
      · omega
      · split at h
        · omega
        · refine ⟨by omega, ?_, ?_, by assumption⟩
          · cases c : nameOk x with
            | true => rfl
            | false => contradiction
          · cases c : hasn (s.names n) x with
            | false => rfl
            | true => contradiction
theorem findE_0 {s : FF} {n : Int} {x : ByteArray} (h : s.findE n x = 0) : s.isE n 2 = 0 ∧ hasn (s.names n) x = true ∧ s.findV n x = at0 (s.kids n) (posn (s.names n) x) := by
  have h2 := h
  unfold findE at h
  split at h
  · omega
  · split at h
    · exact ⟨by omega, by assumption, by unfold findV; rw [if_pos h2]⟩
    · omega
theorem Ok.kid (h : s.Inv d) {n : Int} {x : ByteArray} (h0 : s.findE n x = 0) : 0 ≤ n ∧ n < 40 ∧ s.kind n = 2 ∧ s.findV n x ∈ s.kids n ∧ hasn (s.names n) x = true ∧ at0 (s.kids n) (posn (s.names n) x) = s.findV n x := by
  obtain ⟨a, b, c⟩ := findE_0 h0
  obtain ⟨i1, i2, i3, i4⟩ := isE_k0 a
  obtain ⟨r1, r2, r3, r4⟩ := h.rise n i1 i2
  obtain ⟨p1, p2⟩ := hasn_iff.1 b
  refine ⟨i1, i2, i4 (by omega), ?_, b, c.symm⟩
  rw [c]
  have := at0_mem (l := s.kids n) (p := posn (s.names n) x) (by omega)
  simpa [at0] using this
theorem Ok.make (h : s.Ok d B) (n : Int) (x : ByteArray) (k : Int) : ∃ d', (s.make n x k).Ok d' (B + 1) := by
  have hn := h.nn
  unfold FF.make
  split
  · rename_i c
    unfold makeE at c
    split at c
    · omega
    · split at c
      · omega
      · split at c
        · omega
        · rename_i c0 c1 c2
          obtain ⟨f1, f2, f3⟩ := free_ok c2
          obtain ⟨a1, a2, a3, a4⟩ := roomE_0 (show s.roomE n x = 0 by omega)
          obtain ⟨i1, i2, _, i4⟩ := isE_k0 a1
          have i5 := i4 (by omega)
          have hne : n ≠ s.free := fun e => by rw [← e] at f3; omega
          have h1 := h.inv.fresh (k := k) (t := s.tree n) (u := n) f1 f2 f3 (by omega) (d n + 1)
          have e1 : (s.setN s.free k (s.tree n) 1 n).kind n = s.kind n := fset_ne _ _ hne
          have e2 : (s.setN s.free k (s.tree n) 1 n).names n = s.names n := fset_ne _ _ hne
          have e3 : (s.setN s.free k (s.tree n) 1 n).tree n = s.tree n := fset_ne _ _ hne
          have h2 := h1.put (n := n) (x := x) i1 i2 (by rw [e1]; exact i5) (by rw [e2]; exact a3) (by rw [e2]; have := (h.inv.rise n i1 i2).2.2.1; omega) a2 ⟨f1, f2, by
            rw [show (s.setN s.free k (s.tree n) 1 n).kind s.free = k from fset_eq _ _ _]; omega⟩ (by rw [e3]; exact fset_eq _ _ _) (fun _ => ⟨fset_eq _ _ _, by rw [fset_ne _ _ hne, fset_eq]; omega⟩)
          refine ⟨_, h2, fun m a b => ?_, by omega⟩
          show fset s.held s.free 0 m ≤ _
          unfold fset; split
          · omega
          · have := h.held m a b; omega
  · exact ⟨d, h.inv, fun n a b => by have := h.held n a b; omega, by omega⟩
theorem Ok.link (h : s.Ok d B) (k n : Int) (x : ByteArray) : (s.link k n x).Ok d (B + 1) := by
  have hn := h.nn
  unfold FF.link
  split
  · rename_i c
    unfold linkE at c
    split at c
    · omega
    · split at c
      · omega
      · split at c
        · omega
        · rename_i c0 c1 c2
          obtain ⟨a1, a2, a3, a4⟩ := roomE_0 (show s.roomE n x = 0 by omega)
          obtain ⟨i1, i2, _, i4⟩ := isE_k0 a1
          obtain ⟨j1, j2, _, j4⟩ := isE_k0 (show s.isE k 1 = 0 by omega)
          have i5 := i4 (by omega)
          have j5 := j4 (by omega)
          have h1 := h.inv.linkUp j1 j2 j5
          have h2 := h1.put (n := n) (x := x) i1 i2 i5 a3 (by show (s.names n).length < 8; have := (h.inv.rise n i1 i2).2.2.1; omega) a2 ⟨j1, j2, by show s.kind k ≠ 0; omega⟩ (show s.tree k = s.tree n by omega) (fun g => by
            have g2 : s.kind k = 2 := g
            omega)
          exact ⟨h2, fun m a b => by have := h.held m a b; show s.held m ≤ _; omega, by omega⟩
  · exact ⟨h.inv, fun n a b => by have := h.held n a b; omega, by omega⟩
theorem Ok.remove (h : s.Ok d B) (n : Int) (x : ByteArray) : (s.remove n x).Ok d (B + 1) := by
  have hn := h.nn
  unfold FF.remove
  split
  · rename_i c
    unfold removeE at c
    split at c
    · omega
    · split at c
      · omega
      · rename_i c0 c1
        obtain ⟨i1, i2, i3, i4, i5, i6⟩ := Ok.kid h.inv (show s.findE n x = 0 by omega)
        obtain ⟨k1, k2, k3, k4, k5⟩ := h.inv.kids n i1 i2 _ i4
        have h1 := h.inv.cut (k := s.findV n x) i1 i2 i5 i6
        have h2 := h1.linkDown k3
        have hk : s.kind (s.findV n x) = 2 → s.kids (s.findV n x) = [] ∧ s.held (s.findV n x) = 0 := fun g => by
          have g1 := (h.inv.num _ k1 k2).1
          have g2 : ¬ (0 < (s.kids (s.findV n x)).length ∨ 0 < s.held (s.findV n x)) := fun q => c1 ⟨g, q⟩
          exact ⟨List.eq_nil_of_length_eq_zero (by omega), by omega⟩
        have hne : s.findV n x ≠ n ∨ s.kind (s.findV n x) ≠ 2 := by
          by_cases g : s.kind (s.findV n x) = 2
          · left; intro e
            rw [e] at i4 hk g
            rw [(hk g).1] at i4; cases i4
          · exact .inr g
        have hkk : s.kids (s.findV n x) = [] := by
          by_cases g : s.kind (s.findV n x) = 2
          · exact (hk g).1
          · exact (h.inv.nokids k1 k2 g).1
        have hkn : s.findV n x ≠ n := fun e => by rw [e] at hkk; rw [hkk] at i4; cases i4
        have hb : ∀ m, 0 ≤ m → m < 40 → s.held m ≤ B + 1 := fun m a b => by have := h.held m a b; omega
        unfold goneF
        split
        · rename_i c2
          have h3 := h2.wipe k1 k2 c2.1 c2.2 (by
            show fset s.kids n _ (s.findV n x) = []
            rw [fset_ne _ _ hkn]; exact hkk)
          refine ⟨h3, fun m a b => ?_, by omega⟩
          show fset s.held _ 0 m ≤ _
          unfold fset; split
          · omega
          · exact hb m a b
        · rename_i c2
          have g0 : s.kind (s.findV n x) ≠ 2 := fun g => by
            refine c2 ⟨?_, (hk g).2⟩
            show fset s.links _ _ (s.findV n x) = 0
            rw [fset_eq]
            show s.links (s.findV n x) - 1 = 0
            have := h.inv.dir _ k1 k2 g (by omega)
            omega
          refine ⟨h2.back (fun _ _ _ => ?_) (fun _ _ => g0), hb, by omega⟩
          have a1 := (h2.num _ k1 k2)
          have a2 : ¬ (fset s.links (s.findV n x) (s.links (s.findV n x) - 1) (s.findV n x) = 0 ∧ s.held (s.findV n x) = 0) := c2
          have a3 : (0 : Int) ≤ s.held (s.findV n x) := a1.1
          have a4 : fset s.links (s.findV n x) (s.links (s.findV n x) - 1) (s.findV n x) = _ := a1.2
          show 0 < fset s.links (s.findV n x) (s.links (s.findV n x) - 1) (s.findV n x) ∨ 0 < s.held (s.findV n x)
          rw [if_neg (show ¬ s.findV n x = (-1 : Int) by omega)] at a4
          omega
  · exact ⟨h.inv, fun n a b => by have := h.held n a b; omega, by omega⟩
theorem Ok.hold (h : s.Ok d B) (n : Int) : (s.hold n).Ok d (B + 1) := by
  have hn := h.nn
  unfold FF.hold
  split
  · rename_i c
    obtain ⟨i1, i2, i3⟩ := isE_0 c
    have hhe : ∀ m, fset s.held n (s.held n + 1) m = if m = n then s.held n + 1 else s.held m := fun m => rfl
    have a0 := (h.inv.num n i1 i2).1
    refine ⟨⟨h.inv.kinds, h.inv.rise, h.inv.nok, h.inv.kids, h.inv.data, h.inv.roots, h.inv.up, fun m a b => ?_, fun m a b c => ?_, fun m a b c e => ?_, h.inv.dir⟩, fun m a b => ?_, by omega⟩
    · obtain ⟨a1, a2⟩ := h.inv.num m a b
      refine ⟨?_, a2⟩
      show 0 ≤ fset s.held n _ m
      rw [hhe]; split <;> omega
    · obtain ⟨b1, b2⟩ := h.inv.zero m a b c
      have : m ≠ n := fun e => by subst e; exact i3 c
      exact ⟨b1, by show fset s.held n _ m = 0; rw [hhe, if_neg this]; exact b2⟩
    · show 0 < s.links m ∨ 0 < fset s.held n _ m
      rw [hhe]; split
      · omega
      · exact h.inv.pos m a b c e
    · show fset s.held n _ m ≤ _
      have := h.held m a b
      have := h.held n i1 i2
      rw [hhe]; split <;> omega
  · exact ⟨h.inv, fun n a b => by have := h.held n a b; omega, by omega⟩
theorem Ok.letF (h : s.Ok d B) (n : Int) : (s.letF n).Ok d (B + 1) := by
  have hn := h.nn
  unfold FF.letF
  split
  · rename_i c
    unfold letE at c
    split at c
    · omega
    · split at c
      · omega
      · rename_i c0 c1
        obtain ⟨i1, i2, i3⟩ := isE_0 (show s.isE n 0 = 0 by omega)
        have a0 := (h.inv.num n i1 i2).1
        have hhe : ∀ m, fset s.held n (s.held n - 1) m = if m = n then s.held n - 1 else s.held m := fun m => rfl
        have hw := h.inv.weak n
        have h2 : InvX { s with held := fset s.held n (s.held n - 1) } d (-1) n := ⟨hw.kinds, hw.rise, hw.nok, hw.kids, hw.data, hw.roots, hw.up, fun m a b => by
            obtain ⟨a1, a2⟩ := hw.num m a b
            refine ⟨?_, a2⟩
            show 0 ≤ fset s.held n _ m
            rw [hhe]; split <;> omega, fun m a b c => by
            obtain ⟨b1, b2⟩ := hw.zero m a b c
            have : m ≠ n := fun e => by subst e; exact i3 c
            exact ⟨b1, by show fset s.held n _ m = 0; rw [hhe, if_neg this]; exact b2⟩, fun m a b c e => by
            show 0 < s.links m ∨ 0 < fset s.held n _ m
            rw [hhe, if_neg e]
            exact hw.pos m a b c e, hw.dir⟩
        have hb : ∀ m, 0 ≤ m → m < 40 → fset s.held n (s.held n - 1) m ≤ B + 1 := fun m a b => by
          have h1 := h.held m a b
          have h3 := h.held n i1 i2
          rw [hhe]; split <;> omega
        unfold goneF
        split
        · rename_i c2
          have g0 : s.kind n ≠ 2 := fun g => by
            have g1 := h.inv.dir n i1 i2 g (by omega)
            have g2 : s.links n = 0 := c2.1
            omega
          have h3 := h2.wipe i1 i2 c2.1 c2.2 (h.inv.nokids i1 i2 g0).1
          refine ⟨h3, fun m a b => ?_, by omega⟩
          show fset (fset s.held n (s.held n - 1)) n 0 m ≤ _
          have := hb m a b
          rw [show fset (fset s.held n (s.held n - 1)) n 0 m = if m = n then 0 else fset s.held n (s.held n - 1) m from rfl]
          split <;> omega
        · rename_i c2
          have a4 := (h.inv.num n i1 i2).2
          rw [if_neg (show ¬ n = (-1 : Int) by omega)] at a4
          have a5 : ¬ (s.links n = 0 ∧ fset s.held n (s.held n - 1) n = 0) := c2
          rw [fset_eq] at a5
          refine ⟨⟨h2.kinds, h2.rise, h2.nok, h2.kids, h2.data, h2.roots, h.inv.up, h2.num, h2.zero, fun m a b c _ => ?_, h.inv.dir⟩, hb, by omega⟩
          by_cases e : m = n
          · subst e
            show 0 < s.links m ∨ 0 < fset s.held m _ m
            rw [fset_eq]
            omega
          · exact h2.pos m a b c e
  · exact ⟨h.inv, fun n a b => by have := h.held n a b; omega, by omega⟩
theorem Ok.data (h : s.Ok d B) {n : Int} (hk : s.kind n = 1) (x : ByteArray) (hx : x.size ≤ 40) : Ok { s with data := fset s.data n x } d (B + 1) := by
  have hn := h.nn
  refine ⟨⟨h.inv.kinds, h.inv.rise, h.inv.nok, h.inv.kids, fun m a b => ?_, h.inv.roots, h.inv.up, h.inv.num, h.inv.zero, h.inv.pos, h.inv.dir⟩, fun m a b => by have := h.held m a b; show s.held m ≤ _; omega, by omega⟩
  show (fset s.data n x m).size ≤ 40 ∧ (s.kind m ≠ 1 → fset s.data n x m = ByteArray.empty)
  rw [show fset s.data n x m = if m = n then x else s.data m from rfl]
  split
  · rename_i c; subst c; exact ⟨hx, fun q => absurd hk q⟩
  · exact h.inv.data m a b
theorem Ok.up1 (h : s.Ok d B) : s.Ok d (B + 1) := ⟨h.inv, fun n a b => by have := h.held n a b; omega, by have := h.nn; omega⟩
theorem wrB_size (x : ByteArray) (a : Nat) (y : ByteArray) : (wrB x a y).size = max x.size (a + y.size) := by
  unfold wrB; rw [← ByteArray.size_data]; simp
theorem Ok.write (h : s.Ok d B) (n a : Int) (x : ByteArray) : (s.write n a x).Ok d (B + 1) := by
  unfold FF.write
  split
  · rename_i c
    obtain ⟨c, _⟩ := c
    unfold writeE at c
    split at c
    · omega
    · split at c
      · omega
      · split at c
        · omega
        · obtain ⟨i1, i2, _, i4⟩ := isE_k0 (show s.isE n 1 = 0 by omega)
          refine h.data (i4 (by omega)) _ ?_
          rw [wrB_size]
          have := (h.inv.data n i1 i2).1
          omega
  · exact h.up1
theorem Ok.clip (h : s.Ok d B) (n a : Int) : (s.clip n a).Ok d (B + 1) := by
  unfold FF.clip
  split
  · rename_i c
    unfold clipE at c
    split at c
    · omega
    · split at c
      · omega
      · obtain ⟨i1, i2, _, i4⟩ := isE_k0 (show s.isE n 1 = 0 by omega)
        refine h.data (i4 (by omega)) _ ?_
        have := (h.inv.data n i1 i2).1
        rw [ByteArray.size_extract]
        omega
  · exact h.up1
theorem Ok.move (h : s.Ok d B) (n : Int) (x : ByteArray) (to : Int) (y : ByteArray) : ∃ d', (s.move d n x to y).Ok d' (B + 1) := by
  have hn := h.nn
  unfold FF.move
  split
  · exact ⟨d, h.up1⟩
  · rename_i c
    have hb : ∀ m, 0 ≤ m → m < 40 → s.held m ≤ B + 1 := fun m a b => by have := h.held m a b; omega
    have c' : s.moveE0 d n x to = 0 := by omega
    unfold moveE0 at c'
    split at c'
    · omega
    · split at c'
      · omega
      · split at c'
        · omega
        · split at c'
          · omega
          · rename_i c0 c1 c2 c3
            obtain ⟨i1, i2, i3, i4, i5, i6⟩ := Ok.kid h.inv (show s.findE n x = 0 by omega)
            obtain ⟨k1, k2, k3, k4, k5⟩ := h.inv.kids n i1 i2 _ i4
            have h1 := h.inv.cut (k := s.findV n x) i1 i2 i5 i6
            obtain ⟨r1, r2, r3, r4⟩ := h.inv.rise n i1 i2
            split
            · refine ⟨d, ?_, fun m a b => hb m a b, by omega⟩
              have e := putcut r1 i5 r2
              rw [i6] at e
              rw [e]
              exact h.inv
            · rename_i c4
              obtain ⟨a1, a2, a3, a4⟩ := roomE_0 (show (s.cutF n x).roomE to y = 0 by omega)
              obtain ⟨t1, t2, _, t4⟩ := isE_k0 a1
              have t5 : s.kind to = 2 := t4 (by omega)
              have hlen : ((s.cutF n x).names to).length < 8 := by have := (h1.rise to t1 t2).2.2.1; omega
              split
              · rename_i c5
                have hu : und d (s.cutF n x) to (s.findV n x) = false := by
                  have e : und d (s.cutF n x) to (s.findV n x) = und d s to (s.findV n x) := undF_congr (s := s) (t := s.cutF n x) rfl _ _ _
                  rw [e]
                  cases g : und d s to (s.findV n x) with
                  | false => rfl
                  | true => exact absurd ⟨c5, g⟩ c3
                obtain ⟨g1, g2⟩ := h1.upTo k1 k2 c5 t1 t2 t5 hu
                have h3 := g1.put (n := to) (x := y) t1 t2 t5 a3 hlen a2 ⟨k1, k2, k3⟩ (show s.tree (s.findV n x) = s.tree to by omega) (fun _ => ⟨fset_eq _ _ _, g2⟩)
                exact ⟨_, h3, fun m a b => hb m a b, by omega⟩
              · rename_i c5
                have h3 := h1.put (n := to) (x := y) t1 t2 t5 a3 hlen a2 ⟨k1, k2, k3⟩ (show s.tree (s.findV n x) = s.tree to by omega) (fun g => absurd g c5)
                exact ⟨d, h3, fun m a b => hb m a b, by omega⟩
theorem inv_void : void.Ok (fun _ => 0) 0 := by
  have hc : ∀ k, void.cnt k = 0 := fun k => by
    have : ∀ N, sumK (fun _ => []) k N = 0 := fun N => by
      induction N with
      | zero => rfl
      | succ N ih => unfold sumK; rw [ih]; rfl
    show sumK (fun _ => []) k 40 + ([] : List Int).count k = 0
    rw [this]; rfl
  refine ⟨⟨fun _ _ _ => .inl rfl, fun _ _ _ => ⟨Rising.nil, rfl, by simp [void], fun _ => rfl⟩, fun _ _ _ x hx => by simp [void] at hx, fun _ _ _ k hk => by simp [void] at hk, fun _ _ _ => ⟨by simp [void], fun _ => rfl⟩, ⟨by simp [void], fun r hr => by simp [void] at hr⟩, fun _ _ _ c => by simp [void] at c, fun m a b => ⟨by simp [void], ?_⟩, fun _ _ _ _ => ⟨rfl, rfl⟩, fun _ _ _ c => absurd rfl c, fun _ _ _ c => by simp [void] at c⟩, fun _ _ _ => by simp [void], Int.le_refl _⟩
  rw [hc, if_neg (show ¬ m = (-1 : Int) by omega)]; rfl
end
/-! ### the shape, step by step -/
theorem Sh.cutF {s : FF} (h : s.Sh) {n : Int} {x : ByteArray} (h1 : 0 ≤ n) (h2 : n < 40) (hx : hasn (s.names n) x = true) : (s.cutF n x).Sh := by
  obtain ⟨p1, p2⟩ := hasn_iff.1 hx
  obtain ⟨r1, r2, r3, r4⟩ := h.rise n h1 h2
  have hm : ∀ m, (s.cutF n x).kids m = if m = n then (s.kids n).eraseIdx (posn (s.names n) x) else s.kids m := fun m => rfl
  have hnm : ∀ m, (s.cutF n x).names m = if m = n then (s.names n).eraseIdx (posn (s.names n) x) else s.names m := fun m => rfl
  refine ⟨fun m a b => ?_, fun m a b j hj => ?_, h.data, h.roots, h.num⟩
  · rw [hm, hnm]
    by_cases c : m = n
    · subst c
      rw [if_pos rfl, if_pos rfl, List.length_eraseIdx, if_pos p1, List.length_eraseIdx, if_pos (by omega)]
      exact ⟨r1.erase _ p1, by omega, by omega, fun q => by rw [r4 q]; rfl⟩
    · rw [if_neg c, if_neg c]
      exact h.rise m a b
  · rw [hm] at hj
    split at hj
    · rename_i c; subst c; exact h.kids m a b j (List.mem_of_mem_eraseIdx hj)
    · exact h.kids m a b j hj
theorem Sh.setN {s : FF} (h : s.Sh) (z k t l u : Int) (hl : -1000000 ≤ l ∧ l ≤ 1000000) : (s.setN z k t l u).Sh := by
  refine ⟨fun m a b => ?_, fun m a b j hj => ?_, fun m a b => ?_, h.roots, fun m a b => ?_⟩
  · show Rising (fset s.names z [] m) ∧ (fset s.names z [] m).length = (fset s.kids z [] m).length ∧ (fset s.names z [] m).length ≤ 8 ∧ (fset s.kind z k m ≠ 2 → fset s.names z [] m = [])
    unfold fset
    by_cases c : m = z
    · simp only [c, if_true]; exact ⟨Rising.nil, by simp, by simp, by simp⟩
    · simp only [c, if_false]; exact h.rise m a b
  · have hj2 : j ∈ fset s.kids z [] m := hj
    unfold fset at hj2
    split at hj2
    · cases hj2
    · exact h.kids m a b j hj2
  · show (fset s.data z _ m).size ≤ 40
    unfold fset; split
    · simp
    · exact h.data m a b
  · show -1000000 ≤ fset s.links z l m ∧ fset s.links z l m ≤ 1000000 ∧ 0 ≤ fset s.held z 0 m ∧ fset s.held z 0 m ≤ 1000000
    have := h.num m a b
    unfold fset; split <;> omega
theorem Sh.putF {s : FF} (h : s.Sh) {n : Int} {x : ByteArray} {k : Int} (h1 : 0 ≤ n) (h2 : n < 40) (hn : s.kind n = 2) (hx : hasn (s.names n) x = false) (hl : (s.names n).length < 8) (hk : 0 ≤ k ∧ k < 40) : (s.putF n x k).Sh := by
  obtain ⟨r1, r2, r3, r4⟩ := h.rise n h1 h2
  have hpl := posn_le (s.names n) x
  have hp : posn (s.names n) x ≤ (s.kids n).length := by omega
  have hm : ∀ m, (s.putF n x k).kids m = if m = n then (s.kids n).insertIdx (posn (s.names n) x) k else s.kids m := fun m => rfl
  have hnm : ∀ m, (s.putF n x k).names m = if m = n then (s.names n).insertIdx (posn (s.names n) x) x else s.names m := fun m => rfl
  refine ⟨fun m a b => ?_, fun m a b j hj => ?_, h.data, h.roots, h.num⟩
  · rw [hm, hnm]
    by_cases c : m = n
    · subst c
      rw [if_pos rfl, if_pos rfl, List.length_insertIdx, if_pos hpl, List.length_insertIdx, if_pos hp]
      exact ⟨r1.insert hx, by omega, by omega, fun q => absurd hn q⟩
    · rw [if_neg c, if_neg c]
      exact h.rise m a b
  · rw [hm] at hj
    split at hj
    · rename_i c; subst c
      rcases (List.mem_insertIdx hp).1 hj with rfl | hj
      · exact hk
      · exact h.kids m a b j hj
    · exact h.kids m a b j hj
theorem Sh.kid {s : FF} (h : s.Sh) {n : Int} {x : ByteArray} (h0 : s.findE n x = 0) : 0 ≤ n ∧ n < 40 ∧ s.kind n = 2 ∧ 0 ≤ s.findV n x ∧ s.findV n x < 40 ∧ hasn (s.names n) x = true := by
  obtain ⟨a, b, c⟩ := findE_0 h0
  obtain ⟨i1, i2, i3, i4⟩ := isE_k0 a
  obtain ⟨r1, r2, r3, r4⟩ := h.rise n i1 i2
  obtain ⟨p1, p2⟩ := hasn_iff.1 b
  have := at0_mem (l := s.kids n) (p := posn (s.names n) x) (by omega)
  have h3 := h.kids n i1 i2 (s.findV n x) (by rw [c]; simpa [at0] using this)
  exact ⟨i1, i2, i4 (by omega), h3.1, h3.2, b⟩
theorem fset_fset {α : Type} (f : Int → α) (z : Int) (a b : α) : fset (fset f z a) z b = fset f z b := by
  funext j; unfold fset; split <;> rfl
theorem setN_up (s : FF) (z k t l u v : Int) : ({ s.setN z k t l u with up := fset (s.setN z k t l u).up z v } : FF) = s.setN z k t l v := by
  unfold setN
  simp only [fset_fset]
end FF

end Go.X.Tr

namespace Go.X.Tr
open Go Go.X
/-! ### what the document's loops compute -/
namespace FF
theorem freeN_skip (s : FF) : ∀ (i : Nat), i ≤ 40 → (∀ j : Int, 0 ≤ j → j < i → s.kind j ≠ 0) → s.freeN (40 - i) = s.free
  | 0, _, _ => rfl
  | i + 1, h, ho => by
    rw [← freeN_skip s i (by omega) (fun j a b => ho j a (by omega))]
    obtain ⟨k, hk⟩ : ∃ k, 40 - i = k + 1 := ⟨39 - i, by omega⟩
    rw [hk, show 40 - (i + 1) = k by omega]
    conv => rhs; unfold freeN
    rw [if_neg]
    have := ho (i : Int) (by omega) (by omega)
    rw [show (39 - (k : Int)) = (i : Int) by omega]
    exact this
theorem free_at {s : FF} {i : Int} (h1 : 0 ≤ i) (h2 : i < 40) (ho : ∀ j, 0 ≤ j → j < i → s.kind j ≠ 0) (hz : s.kind i = 0) : s.free = i := by
  have h := freeN_skip s i.toNat (by omega) (fun j a b => ho j a (by omega))
  rw [← h]
  obtain ⟨k, hk⟩ : ∃ k, 40 - i.toNat = k + 1 := ⟨39 - i.toNat, by omega⟩
  rw [hk]
  unfold freeN
  rw [show (39 - (k : Int)) = i by omega, if_pos hz]
theorem free_none {s : FF} (ho : ∀ j, 0 ≤ j → j < 40 → s.kind j ≠ 0) : s.free = -1 := by
  have h := freeN_skip s 40 (Nat.le_refl _) (fun j a b => ho j a (by omega))
  rw [← h]; rfl
end FF
/-- where a name stands, or -1 -/ def placeR (l : List ByteArray) (x : ByteArray) : Int := if hasn l x = true then (posn l x : Int) else -1
/-- the lists so far, as a name is put -/ def putT {α : Type} (l : List α) (p : Nat) (x : α) (i : Nat) : List α := if p < i then (l.take i).insertIdx p x else l.take i
theorem take_snoc {α : Type} (l : List α) (i : Nat) (y : α) (h : i < l.length) : l.take (i + 1) = l.take i ++ [l.getD i y] := by
  rw [List.take_add_one, List.getD, List.getElem?_eq_getElem h]; rfl
/-- and as one is cut -/ def cutT {α : Type} (l : List α) (p i : Nat) : List α := (l.take i).eraseIdx p
/-- bytes read one by one -/ def readT (d : ByteArray) (a i : Int) : ByteArray := d.extract a.toNat i.toNat
namespace FF
theorem findE_nn (s : FF) (n : Int) (x : ByteArray) : 0 ≤ s.findE n x := by
  have := isE_nn s n 2
  unfold findE; split
  · exact this
  · split <;> omega
theorem roomE_nn (s : FF) (n : Int) (x : ByteArray) : 0 ≤ s.roomE n x := by
  have := isE_nn s n 2
  unfold roomE; split
  · exact this
  · split
    · omega
    · split
      · omega
      · split <;> omega
end FF
end Go.X.Tr
