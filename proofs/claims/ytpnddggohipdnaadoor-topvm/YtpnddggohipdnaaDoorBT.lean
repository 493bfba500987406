import Derived.Test.YtpnddggohipdnaaDoorBM
namespace Go.X
open Go
/-! ### what TopBuddy looks at -/
theorem half_half {i k : Int} (hk : 0 ≤ k ∧ k ≤ 6) : halfB (halfB i k) k = i := by
  have hc : k = 0 ∨ k = 1 ∨ k = 2 ∨ k = 3 ∨ k = 4 ∨ k = 5 ∨ k = 6 := by omega
  unfold halfB
  by_cases c : (i / p2 k) % 2 = 1
  · have d : ¬ ((i - p2 k) / p2 k) % 2 = 1 := by
      rcases hc with rfl | rfl | rfl | rfl | rfl | rfl | rfl
      all_goals (simp only [p2_0, p2_1, p2_2, p2_3, p2_4, p2_5, p2_6] at c ⊢; omega)
    rw [if_pos c, if_neg d]; omega
  · have d : ((i + p2 k) / p2 k) % 2 = 1 := by
      rcases hc with rfl | rfl | rfl | rfl | rfl | rfl | rfl
      all_goals (simp only [p2_0, p2_1, p2_2, p2_3, p2_4, p2_5, p2_6] at c ⊢; omega)
    rw [if_neg c, if_pos d]; omega
theorem half_up {a k : Int} (hk : 0 ≤ k ∧ k ≤ 5) (h : a % p2 (k + 1) = 0) : halfB (a + p2 k) k = a := by
  have hc : k = 0 ∨ k = 1 ∨ k = 2 ∨ k = 3 ∨ k = 4 ∨ k = 5 := by omega
  have d : ((a + p2 k) / p2 k) % 2 = 1 := by
    rcases hc with rfl | rfl | rfl | rfl | rfl | rfl
    all_goals (simp only [Int.reduceAdd, p2_0, p2_1, p2_2, p2_3, p2_4, p2_5, p2_6] at h ⊢; omega)
  unfold halfB
  rw [if_pos d]; omega
theorem BB.buddy_of {b : BB} {i j : Int} (h : b.ord i = b.ord j) : halfB i (b.ord j - 1) = b.buddy i := by unfold BB.buddy; rw [h]
/-- all frames lie in blocks, and no two free ones could be joined -/
structure BB.Full (b : BB) : Prop where
  inv : b.Inv
  cov : ∀ j, 0 ≤ j → j < 64 → ∃ i, i ≤ j ∧ 0 < b.ord i ∧ j < i + p2 (b.ord i - 1)
  nb : ∀ i, 0 < b.ord i → b.tk i = false → ¬ b.canJoin i
theorem BB.Full.init : BB.init.Full where
  inv := BB.Inv.init
  cov := fun j h0 h1 => ⟨0, h0, by decide, by show j < 0 + p2 6; rw [p2_6]; omega⟩
  nb := fun i hi _ hc => by
    have h1 := hc.1
    have : i = 0 := by
      apply Classical.byContradiction; intro c
      rw [show BB.init.ord i = fset (fun _ => (0 : Int)) 0 7 i from rfl, fset_ne _ _ c] at hi; omega
    subst this
    have : BB.init.ord 0 = 7 := rfl
    omega
theorem BB.split_cov {b : BB} (h : b.Inv) {a : Int} (ha : 1 < b.ord a) (hc : ∀ j, 0 ≤ j → j < 64 → ∃ i, i ≤ j ∧ 0 < b.ord i ∧ j < i + p2 (b.ord i - 1)) :
    ∀ j, 0 ≤ j → j < 64 → ∃ i, i ≤ j ∧ 0 < (b.split a).ord i ∧ j < i + p2 ((b.split a).ord i - 1) := fun j h0 h1 => by
  obtain ⟨s1, s2, s3, s4⟩ := h.split ha
  have e2 := p2_next (k := b.ord a - 2) (by omega)
  rw [show b.ord a - 2 + 1 = b.ord a - 1 from by omega] at e2
  have hp := p2_pos (b.ord a - 2)
  have hne : ¬ a = a + p2 (b.ord a - 2) := by omega
  have o1 : ∀ i, (b.split a).ord i = if i = a + p2 (b.ord a - 2) then b.ord a - 1 else if i = a then b.ord a - 1 else b.ord i := fun i => rfl
  obtain ⟨i, i1, i2, i3⟩ := hc j h0 h1
  by_cases c : i = a
  · subst c
    by_cases c2 : j < i + p2 (b.ord i - 2)
    · refine ⟨i, i1, by omega, ?_⟩
      rw [s4, show b.ord i - 1 - 1 = b.ord i - 2 from by omega]; exact c2
    · refine ⟨i + p2 (b.ord i - 2), by omega, ?_, ?_⟩
      · rw [o1, if_pos rfl]; omega
      · rw [o1, if_pos rfl, show b.ord i - 1 - 1 = b.ord i - 2 from by omega]; omega
  · have c3 : ¬ i = a + p2 (b.ord a - 2) := by rintro rfl; omega
    refine ⟨i, i1, ?_, ?_⟩
    · rw [o1, if_neg c3, if_neg c]; exact i2
    · rw [o1, if_neg c3, if_neg c]; exact i3
theorem BB.join_cov {b : BB} (h : b.Inv) {a : Int} (ha : 0 < b.ord a) (hj : b.canJoin a) (hc : ∀ j, 0 ≤ j → j < 64 → ∃ i, i ≤ j ∧ 0 < b.ord i ∧ j < i + p2 (b.ord i - 1)) :
    ∀ j, 0 ≤ j → j < 64 → ∃ i, i ≤ j ∧ 0 < (b.join1 a).ord i ∧ j < i + p2 ((b.join1 a).ord i - 1) := fun j h0 h1 => by
  obtain ⟨l, l1, l2, l3, l4⟩ := half_facts ha hj.1 (h.al a ha) (h.in_rng ha)
  rw [show halfB a (b.ord a - 1) = b.buddy a from rfl] at l4
  have e2 := p2_next (k := b.ord a - 1) (by omega)
  rw [show b.ord a - 1 + 1 = b.ord a from by omega] at e2
  have hp := p2_pos (b.ord a - 1)
  have hmin : min a (b.buddy a) = l := by omega
  have hmax : max a (b.buddy a) = l + p2 (b.ord a - 1) := by omega
  have o1 : ∀ i, (b.join1 a).ord i = if i = l then b.ord a + 1 else if i = l + p2 (b.ord a - 1) then 0 else b.ord i := fun i => by
    show fset (fset b.ord (max a (b.buddy a)) 0) (min a (b.buddy a)) (b.ord a + 1) i = _
    rw [hmin, hmax]; rfl
  have ob := hj.2.1
  obtain ⟨i, i1, i2, i3⟩ := hc j h0 h1
  by_cases c : i = l ∨ i = l + p2 (b.ord a - 1)
  · have oi : b.ord i = b.ord a := by
      rcases l4 with ⟨q1, q2⟩ | ⟨q1, q2⟩ <;> rcases c with c | c
      · rw [c, ← q1]
      · rw [c, ← q2]; exact ob
      · rw [c, ← q2]; exact ob
      · rw [c, ← q1]
    rw [oi] at i3
    refine ⟨l, by omega, ?_, ?_⟩
    · rw [o1, if_pos rfl]; omega
    · rw [o1, if_pos rfl, show b.ord a + 1 - 1 = b.ord a from by omega]; omega
  · refine ⟨i, i1, ?_, ?_⟩
    · rw [o1, if_neg (by omega), if_neg (by omega)]; exact i2
    · rw [o1, if_neg (by omega), if_neg (by omega)]; exact i3
theorem BB.Full.splits : ∀ (n : Nat) {b : BB} {a : Int}, b.Full → (n : Int) < b.ord a → b.tk a = true → (BB.splits n b a).Full
  | 0, _, _, h, _, _ => h
  | n + 1, b, a, h, ha, ht => by
    obtain ⟨s1, s2, s3, s4⟩ := h.inv.split (a := a) (by omega)
    have hrg := h.inv.rng a
    have e2 := p2_next (k := b.ord a - 2) (by omega)
    rw [show b.ord a - 2 + 1 = b.ord a - 1 from by omega] at e2
    have hp := p2_pos (b.ord a - 2)
    have hne : ¬ a = a + p2 (b.ord a - 2) := by omega
    have o1 : ∀ i, (b.split a).ord i = if i = a + p2 (b.ord a - 2) then b.ord a - 1 else if i = a then b.ord a - 1 else b.ord i := fun i => rfl
    have hup : halfB (a + p2 (b.ord a - 2)) (b.ord a - 2) = a := half_up (by omega) (by rw [show b.ord a - 2 + 1 = b.ord a - 1 from by omega]; exact h.inv.al a (by omega))
    refine BB.Full.splits n ⟨s1, BB.split_cov h.inv (by omega) h.cov, fun i hi hti hcj => ?_⟩ (by rw [s4]; omega) ht
    have hti2 : b.tk i = false := hti
    have hna : ¬ i = a := by rintro rfl; rw [ht] at hti2; cases hti2
    obtain ⟨c1, c2, c3⟩ := hcj
    by_cases c : i = a + p2 (b.ord a - 2)
    · have hb : (b.split a).buddy i = a := by
        unfold BB.buddy
        rw [o1, if_pos c, show b.ord a - 1 - 1 = b.ord a - 2 from by omega, c]; exact hup
      rw [hb] at c3
      rw [show (b.split a).tk a = b.tk a from rfl, ht] at c3; cases c3
    · have oi : (b.split a).ord i = b.ord i := by rw [o1, if_neg c, if_neg hna]
      have hb : (b.split a).buddy i = b.buddy i := by unfold BB.buddy; rw [oi]
      rw [hb, oi] at c2
      rw [hb] at c3
      rw [oi] at hi c1
      have hba : ¬ b.buddy i = a := fun e => by
        rw [e] at c3
        rw [show (b.split a).tk a = b.tk a from rfl, ht] at c3; cases c3
      by_cases d : b.buddy i = a + p2 (b.ord a - 2)
      · rw [d, o1, if_pos rfl] at c2
        have e3 : halfB (b.buddy i) (b.ord i - 1) = i := half_half (by omega)
        rw [d, ← c2, show b.ord a - 1 - 1 = b.ord a - 2 from by omega, hup] at e3
        exact hna e3.symm
      · rw [o1, if_neg d, if_neg hba] at c2
        exact h.nb i hi hti2 ⟨c1, c2, c3⟩
theorem BB.Full.hide {b : BB} (h : b.Full) {a : Int} (ha : 0 < b.ord a) : (b.hide a).Full := by
  refine ⟨h.inv.hide ha, h.cov, fun i hi hti hcj => ?_⟩
  have t1 : ∀ j, (b.hide a).tk j = false → b.tk j = false := fun j hj => by
    have : fset b.tk a true j = false := hj
    by_cases c : j = a
    · rw [c, fset_eq] at this; cases this
    · rwa [fset_ne _ _ c] at this
  obtain ⟨c1, c2, c3⟩ := hcj
  exact h.nb i hi (t1 i hti) ⟨c1, c2, t1 _ c3⟩
theorem BB.Full.take {b : BB} (h : b.Full) (o : Int) : (b.take o).2.2.Full := by
  unfold BB.take
  split
  · exact h
  · rename_i ho
    split
    · exact h
    · rename_i k i hp
      obtain ⟨h1, h2, h3, h4, h5⟩ := BB.pick_spec hp
      have hh := h.hide (a := i) (by omega)
      exact BB.Full.splits _ hh (by show _ < b.ord i; omega) (fset_eq _ _ _)
theorem BB.joins_full : ∀ (n : Nat) {b : BB} {a : Int}, b.Inv → (∀ j, 0 ≤ j → j < 64 → ∃ i, i ≤ j ∧ 0 < b.ord i ∧ j < i + p2 (b.ord i - 1)) → 0 < b.ord a → b.tk a = false → 7 ≤ b.ord a + n →
    (∀ i, 0 < b.ord i → b.tk i = false → b.canJoin i → i = a ∨ b.buddy i = a) → (BB.joins n b a).Full := by
  have stop : ∀ {b : BB} {a : Int}, b.Inv → (∀ j, 0 ≤ j → j < 64 → ∃ i, i ≤ j ∧ 0 < b.ord i ∧ j < i + p2 (b.ord i - 1)) → 0 < b.ord a → b.tk a = false → ¬ b.canJoin a → (∀ i, 0 < b.ord i → b.tk i = false → b.canJoin i → i = a ∨ b.buddy i = a) → b.Full := by
    intro b a h hc ha ht hn hv
    refine ⟨h, hc, fun i hi hti hcj => ?_⟩
    rcases hv i hi hti hcj with e | e
    · rw [e] at hcj; exact hn hcj
    · obtain ⟨c1, c2, c3⟩ := hcj
      rw [e] at c2
      have e3 : b.buddy a = i := by
        have : halfB (b.buddy i) (b.ord i - 1) = i := half_half (by omega)
        unfold BB.buddy
        rw [e, ← c2] at this
        exact this
      exact hn ⟨by omega, by rw [e3]; exact c2.symm, by rw [e3]; exact hti⟩
  intro n
  induction n with
  | zero =>
    intro b a h hc ha ht h7 hv
    exact stop (b := b) (a := a) h hc ha ht (fun q => by have := q.1; omega) hv
  | succ n ih =>
    intro b a h hc ha ht h7 hv
    rw [BB.joins]
    by_cases c : b.canJoin a
    · rw [if_pos c]
      obtain ⟨j1, _, _, _, j5, j6⟩ := h.join1 ha ht c
      obtain ⟨l, l1, l2, l3, l4⟩ := half_facts ha c.1 (h.al a ha) (h.in_rng ha)
      rw [show halfB a (b.ord a - 1) = b.buddy a from rfl] at l4
      have hp := p2_pos (b.ord a - 1)
      have hmin : min a (b.buddy a) = l := by omega
      have hmax : max a (b.buddy a) = l + p2 (b.ord a - 1) := by omega
      have o1 : ∀ i, (b.join1 a).ord i = if i = l then b.ord a + 1 else if i = l + p2 (b.ord a - 1) then 0 else b.ord i := fun i => by
        show fset (fset b.ord (max a (b.buddy a)) 0) (min a (b.buddy a)) (b.ord a + 1) i = _
        rw [hmin, hmax]; rfl
      refine ih j1 (BB.join_cov h ha c hc) (by rw [j5]; omega) j6 (by rw [j5]; omega) (fun i hi hti hcj => ?_)
      rw [hmin]
      apply Classical.byContradiction
      intro hno
      obtain ⟨n1, n2⟩ := not_or.1 hno
      obtain ⟨c1, c2, c3⟩ := hcj
      have n3 : ¬ i = l + p2 (b.ord a - 1) := by
        rintro rfl
        rw [o1, if_neg n1, if_pos rfl] at hi; omega
      have oi : (b.join1 a).ord i = b.ord i := by rw [o1, if_neg n1, if_neg n3]
      have hb : (b.join1 a).buddy i = b.buddy i := by unfold BB.buddy; rw [oi]
      rw [hb] at n2 c2 c3
      rw [oi] at hi c1 c2
      have n4 : ¬ b.buddy i = l + p2 (b.ord a - 1) := fun e => by
        rw [e, o1, if_neg (by omega), if_pos rfl] at c2; omega
      rw [o1, if_neg n2, if_neg n4] at c2
      rcases hv i hi hti ⟨c1, c2, c3⟩ with e | e <;> omega
    · rw [if_neg c]; exact stop h hc ha ht c hv
theorem BB.Full.give {b : BB} (h : b.Full) (a : Int) : (b.give a).2.Full := by
  unfold BB.give
  by_cases c : b.is a = 0
  · rw [if_neg (by simp [c])]
    obtain ⟨h1, h2, h3⟩ := BB.is_zero c
    have ho := h.inv.tk a h3
    refine BB.joins_full _ (h.inv.bare a) h.cov ho (fset_eq _ _ _) (by show 7 ≤ b.ord a + _; omega) (fun i hi hti hcj => ?_)
    apply Classical.byContradiction
    intro hno
    obtain ⟨n1, n2⟩ := not_or.1 hno
    obtain ⟨c1, c2, c3⟩ := hcj
    have t1 : fset b.tk a false i = false := hti
    have t2 : fset b.tk a false (b.buddy i) = false := c3
    rw [fset_ne _ _ n1] at t1
    rw [fset_ne _ _ (show ¬ b.buddy i = a from n2)] at t2
    exact h.nb i hi t1 ⟨c1, c2, t2⟩
  · rw [if_pos c]; exact h
theorem al_in {m l w v h : Int} (hv : 0 < v ∧ v < w) (hw : w ≤ 7) (hm : m % p2 (w - 1) = 0) (hl : l % p2 v = 0) (hh : h = l ∨ h = l + p2 (v - 1)) (h1 : m ≤ h) (h2 : h < m + p2 (w - 1)) : m ≤ l ∧ l + p2 v ≤ m + p2 (w - 1) := by
  have : v = 1 ∨ v = 2 ∨ v = 3 ∨ v = 4 ∨ v = 5 ∨ v = 6 := by omega
  have hw2 : w = 2 ∨ w = 3 ∨ w = 4 ∨ w = 5 ∨ w = 6 ∨ w = 7 := by omega
  rcases this with rfl | rfl | rfl | rfl | rfl | rfl <;> rcases hw2 with rfl | rfl | rfl | rfl | rfl | rfl
  all_goals first
    | omega
    | (simp only [Int.reduceSub, p2_0, p2_1, p2_2, p2_3, p2_4, p2_5, p2_6] at hm hl hh h2 ⊢; omega)
theorem al_eq {m h v : Int} (hv : 0 < v) (h7 : v ≤ 7) (hm : m % p2 (v - 1) = 0) (hh : h % p2 (v - 1) = 0) (h1 : m ≤ h) (h2 : h < m + p2 (v - 1)) : m = h := by
  rcases ord_cases hv h7 with rfl | rfl | rfl | rfl | rfl | rfl | rfl
  all_goals (simp only [Int.reduceSub, p2_0, p2_1, p2_2, p2_3, p2_4, p2_5, p2_6] at hm hh h2 ⊢; omega)
theorem al_pair {l v h : Int} (hv : 0 < v) (h7 : v < 7) (hl : l % p2 v = 0) (hh : h = l ∨ h = l + p2 (v - 1)) : h % p2 (v - 1) = 0 := by
  rcases ord_cases hv (by omega) with rfl | rfl | rfl | rfl | rfl | rfl | rfl
  all_goals (simp only [Int.reduceSub, p2_0, p2_1, p2_2, p2_3, p2_4, p2_5, p2_6] at hl hh ⊢; omega)
/-- nothing is taken: all is one block -/
theorem BB.Full.single {b : BB} (h : b.Full) (hf : ∀ i, b.tk i = false) : b = BB.init := by
  have grow : ∀ v : Nat, v ≤ 6 → ∀ i, 0 < b.ord i → (v : Int) < b.ord i := by
    intro v
    induction v with
    | zero => intro _ i hi; simpa using hi
    | succ v ih =>
      intro hv i hi
      have hi1 := ih (by omega) i hi
      apply Classical.byContradiction
      intro hno
      have hiv : b.ord i = (v : Int) + 1 := by omega
      have hr := h.inv.rng i
      obtain ⟨l, l1, l2, l3, l4⟩ := half_facts hi (by omega) (h.inv.al i hi) (h.inv.in_rng hi)
      rw [show halfB i (b.ord i - 1) = b.buddy i from rfl] at l4
      obtain ⟨r1, r2, r3⟩ := h.inv.buddy_rng hi (by omega)
      obtain ⟨m, m1, m2, m3⟩ := h.cov (b.buddy i) r1 r2
      have hm1 := ih (by omega) m m2
      have hmr := h.inv.rng m
      have hbl : b.buddy i = l ∨ b.buddy i = l + p2 (b.ord i - 1) := by omega
      by_cases c : b.ord m = b.ord i
      · have e := al_eq (m := m) (h := b.buddy i) (v := b.ord i) hi (by omega) (by rw [← c]; exact h.inv.al m m2) (al_pair hi (by omega) l3 hbl) m1 (by rw [← c]; exact m3)
        exact h.nb i hi (hf i) ⟨by omega, by rw [← e]; exact c, hf _⟩
      · obtain ⟨a1, a2⟩ := al_in (m := m) (l := l) (w := b.ord m) (v := b.ord i) (h := b.buddy i) ⟨hi, by omega⟩ (by omega) (h.inv.al m m2) l3 hbl m1 m3
        have hp := p2_pos (b.ord i - 1)
        have e2 := p2_next (k := b.ord i - 1) (by omega)
        rw [show b.ord i - 1 + 1 = b.ord i from by omega] at e2
        have hne : ¬ m = i := by rintro rfl; exact c rfl
        exact h.inv.apart m2 hi hne (x := i) ⟨by omega, by omega⟩ ⟨by omega, by omega⟩
  have all7 : ∀ i, 0 < b.ord i → b.ord i = 7 := fun i hi => by
    have h1 := grow 6 (by omega) i hi
    have h2 := (h.inv.rng i).2
    omega
  obtain ⟨i, i1, i2, i3⟩ := h.cov 0 (by omega) (by omega)
  have hi0 : i = 0 := by
    have := h.inv.in_rng i2; omega
  subst hi0
  have h0 := all7 0 i2
  have ho : b.ord = BB.init.ord := by
    funext j
    by_cases c : j = 0
    · rw [c, h0]; rfl
    · rw [show BB.init.ord j = fset (fun _ => (0 : Int)) 0 7 j from rfl, fset_ne _ _ c]
      by_cases d : j < 0 ∨ 64 ≤ j
      · exact h.inv.out j d
      · exact h.inv.dis 0 j i2 (by omega) (by rw [h0]; show j < 0 + p2 6; rw [p2_6]; omega)
  have ht : b.tk = BB.init.tk := by funext j; exact hf j
  cases b
  simp only at ho ht
  subst ho; subst ht; rfl
/-! ### how many blocks lie over a frame -/
def BB.over (b : BB) (i j : Int) : Bool := decide (0 < b.ord i) && decide (i ≤ j) && decide (j < i + p2 (b.ord i - 1))
def cv (b : BB) (P : Int → Bool) (j : Int) : Int := cntN (fun i => P i && b.over i j) 64
theorem cntN_congr {f g : Int → Bool} : ∀ {n : Nat}, (∀ i : Int, 0 ≤ i → i < n → f i = g i) → cntN f n = cntN g n
  | 0, _ => rfl
  | n + 1, h => by simp only [cntN, cntN_congr (n := n) (fun i h0 h1 => h i h0 (by omega)), h n (by omega) (by omega)]
theorem cntN_none {f : Int → Bool} : ∀ {n : Nat}, (∀ i : Int, 0 ≤ i → i < n → f i = false) → cntN f n = 0
  | 0, _ => rfl
  | n + 1, h => by simp [cntN, cntN_none (n := n) (fun i h0 h1 => h i h0 (by omega)), h n (by omega) (by omega)]
theorem cntN_add {f g : Int → Bool} {a : Int} : ∀ {n : Nat}, f a = false → (∀ i : Int, 0 ≤ i → i < n → ¬ i = a → g i = f i) → cntN g n = cntN f n + (if 0 ≤ a ∧ a < n ∧ g a = true then 1 else 0)
  | 0, _, _ => by simp [cntN]; omega
  | n + 1, hf, h => by
    have ih := cntN_add (n := n) hf (fun i h0 h1 => h i h0 (by omega))
    simp only [cntN, ih]
    by_cases c : a = n
    · subst c
      rw [hf]
      have h1 : ¬ ((n : Int) < n) := by omega
      have h2 : (0 : Int) ≤ n := by omega
      have h3 : (n : Int) < ((n + 1 : Nat) : Int) := by omega
      by_cases hg : g (n : Int) = true <;> simp [h1, hg]
      omega
    · rw [h n (by omega) (by omega) (by omega)]
      have h1 : (a < n) ↔ (a < ((n + 1 : Nat) : Int)) := by omega
      simp only [h1]
      omega
theorem cv_le (b : BB) (P : Int → Bool) (j : Int) : 0 ≤ cv b P j ∧ cv b P j ≤ 64 := cntN_le _ 64
theorem cv_congr {b : BB} {P Q : Int → Bool} (h : ∀ i, 0 ≤ i → i < 64 → 0 < b.ord i → P i = Q i) : cv b P = cv b Q := by
  funext j
  refine cntN_congr fun i h0 h1 => ?_
  unfold BB.over
  by_cases c : 0 < b.ord i
  · rw [h i h0 h1 c]
  · simp [c]
theorem cv_none {b : BB} {P : Int → Bool} (h : ∀ i, 0 ≤ i → i < 64 → P i = false) : cv b P = fun _ => 0 := by
  funext j
  exact cntN_none fun i h0 h1 => by rw [h i h0 h1]; rfl
theorem cv_add {b : BB} (hI : b.Inv) {P Q : Int → Bool} {a : Int} (ha : 0 < b.ord a) (hP : P a = false) (hQ : Q a = true) (h : ∀ i, 0 ≤ i → i < 64 → 0 < b.ord i → ¬ i = a → Q i = P i) {r : Int} (hr : r = p2 (b.ord a - 1)) :
    cv b Q = fun j => cv b P j + (if a ≤ j ∧ j < a + r then 1 else 0) := by
  funext j
  have hin := hI.in_rng ha
  show cntN _ 64 = cntN _ 64 + _
  rw [cntN_add (f := fun i => P i && b.over i j) (g := fun i => Q i && b.over i j) (a := a) (n := 64) (by rw [hP]; rfl) (fun i h0 h1 hi => by
    unfold BB.over
    by_cases c : 0 < b.ord i
    · rw [h i h0 h1 c hi]
    · simp [c])]
  congr 1
  have : (0 ≤ a ∧ a < (64 : Nat) ∧ (Q a && b.over a j) = true) ↔ (a ≤ j ∧ j < a + r) := by
    unfold BB.over
    rw [hQ, hr]
    simp [ha]
    omega
  by_cases c : a ≤ j ∧ j < a + r
  · rw [if_pos c, if_pos (this.2 c)]
  · rw [if_neg c, if_neg (fun q => c (this.1 q))]
theorem part_zero (c : Int → Int) (a : Int) : (fun j => c j + (if a ≤ j ∧ j < a + 0 then 1 else 0)) = c := by
  funext j; rw [if_neg (by omega)]; omega
theorem part_next (c : Int → Int) (a r : Int) (hr : 0 ≤ r) : (fun j => c j + (if a ≤ j ∧ j < a + (r + 1) then 1 else 0)) = fset (fun j => c j + (if a ≤ j ∧ j < a + r then 1 else 0)) (a + r) (c (a + r) + (if a ≤ a + r ∧ a + r < a + r then 1 else 0) + 1) := by
  funext j
  unfold fset
  by_cases h : j = a + r
  · subst h
    rw [if_pos rfl, if_pos (by omega), if_neg (by omega)]; omega
  · rw [if_neg h]
    show _ = c j + (if a ≤ j ∧ j < a + r then 1 else 0)
    by_cases h2 : a ≤ j ∧ j < a + r
    · rw [if_pos h2, if_pos (by omega)]
    · rw [if_neg h2, if_neg (by omega)]
theorem BB.Full.once {b : BB} (h : b.Full) {P : Int → Bool} (hP : ∀ i, 0 < b.ord i → P i = true) {j : Int} (hj : 0 ≤ j ∧ j < 64) : cv b P j = 1 := by
  obtain ⟨i, i1, i2, i3⟩ := h.cov j hj.1 hj.2
  have hin := h.inv.in_rng i2
  unfold cv
  rw [cntN_add (f := fun _ => false) (a := i) (n := 64) rfl (fun m m0 m1 hm => by
    unfold BB.over
    by_cases c : 0 < b.ord m
    · by_cases d : m ≤ j ∧ j < m + p2 (b.ord m - 1)
      · exact (h.inv.apart c i2 hm d ⟨i1, i3⟩).elim
      · by_cases d1 : m ≤ j
        · have d2 : ¬ j < m + p2 (b.ord m - 1) := fun q => d ⟨d1, q⟩
          simp [d2]
        · simp [d1]
    · simp [c]), cntN_none (fun _ _ _ => rfl), if_pos]
  · rfl
  · unfold BB.over
    rw [hP i i2]
    simp [i2, i1, i3]
    omega
theorem allL_mem {f : Int → Bool} : ∀ {k : Nat} {a : Int}, a ∈ allL f k ↔ 0 ≤ a ∧ a < k ∧ f a = true
  | 0, a => by simp [allL]; omega
  | k + 1, a => by
    simp only [allL, List.mem_append, allL_mem (k := k)]
    constructor
    · rintro (h | h)
      · exact ⟨h.1, by omega, h.2.2⟩
      · by_cases c : f k = true
        · rw [if_pos c] at h
          have : a = k := by simpa using h
          subst this
          exact ⟨by omega, by omega, c⟩
        · rw [if_neg c] at h; cases h
    · rintro ⟨h1, h2, h3⟩
      by_cases c : a = k
      · subst c; right; rw [if_pos h3]; simp
      · left; exact ⟨h1, by omega, h3⟩
theorem allL_nodup {f : Int → Bool} : ∀ k : Nat, (allL f k).Nodup
  | 0 => List.nodup_nil
  | k + 1 => by
    rw [allL, List.nodup_append]
    refine ⟨allL_nodup k, ?_, ?_⟩
    · split <;> simp
    · intro a ha c hc
      by_cases q : f k = true
      · rw [if_pos q] at hc
        have : c = k := by simpa using hc
        have := (allL_mem.1 ha).2.1
        omega
      · rw [if_neg q] at hc; cases hc
theorem take_at {zs : List Int} {z : Int} (h : 0 ≤ z ∧ z < zs.length) : zs.take (z + 1).toNat = zs.take z.toNat ++ [at0 zs z] := by
  have h2 : z.toNat < zs.length := by omega
  rw [show (z + 1).toNat = z.toNat + 1 from by omega, List.take_add_one]
  simp [at0, List.getD, h2]
theorem at_mem {zs : List Int} {z : Int} (h : 0 ≤ z ∧ z < zs.length) : at0 zs z ∈ zs := by
  have h2 : z.toNat < zs.length := by omega
  simp [at0, List.getD, h2]
theorem nodup_at {zs : List Int} (hn : zs.Nodup) {z : Int} (h : 0 ≤ z ∧ z < zs.length) : ¬ at0 zs z ∈ zs.take z.toNat := by
  have h1 : (zs.take (z + 1).toNat).Nodup := (List.take_sublist _ _).nodup hn
  rw [take_at h, List.nodup_append] at h1
  intro hm
  exact h1.2.2 _ hm _ (by simp) rfl
theorem encI_congr {f g : Int → Int} {m : Nat} (h : ∀ i : Int, 0 ≤ i → i < m → f i = g i) : encI f m = encI g m := by
  funext i
  unfold encI
  by_cases c : i < m
  · rw [if_pos c, if_pos c, h i (by omega) (by omega)]
  · rw [if_neg c, if_neg c]
theorem BB.take_fail {b : BB} {o : Int} (h : ¬ (b.take o).2.1 = 0) : (b.take o).2.2 = b := by
  unfold BB.take at h ⊢
  split
  · rfl
  · rename_i ho
    rw [if_neg ho] at h
    split
    · rfl
    · rename_i k i hp
      rw [hp] at h; exact absurd rfl h
theorem BB.Inv.take_win {b : BB} (h : b.Inv) {o : Int} (he : (b.take o).2.1 = 0) : (0 ≤ o ∧ o ≤ 6) ∧ (0 ≤ (b.take o).1 ∧ (b.take o).1 < 64) ∧ b.usedOf (b.take o).1 = 0 ∧ (b.take o).1 % p2 o = 0 ∧ (b.take o).2.2.usedOf = fset b.usedOf (b.take o).1 (o + 1) := by
  by_cases ho : o < 0 ∨ 6 < o
  · rw [BB.take_bound ho] at he; simp at he
  · cases hp : b.pick o with
    | none => rw [BB.take_full ho hp] at he; simp at he
    | some x =>
      obtain ⟨k, i⟩ := x
      obtain ⟨h1, h2, h3, h4, h5⟩ := BB.pick_spec hp
      have hu := congrArg PB.u (h.take_pool ho hp)
      have hi := h.take o
      have hh := h.hide (a := i) (by omega)
      obtain ⟨s1, _⟩ := hh.splits_ord ((k : Int) - o).toNat (a := i) (by show _ < b.ord i; omega)
      have e1 : (b.take o).1 = i := by rw [BB.take_ok ho hp]
      have e2 : (b.take o).2.2.ord i = o + 1 := by
        rw [BB.take_ok ho hp]
        show (BB.splits _ _ _).ord i = _
        rw [s1]
        show b.ord i - _ = _
        omega
      have ha := hi.al i (by rw [e2]; omega)
      rw [e2, show o + 1 - 1 = o from by omega] at ha
      rw [e1]
      exact ⟨by omega, by omega, by unfold BB.usedOf; rw [if_neg (by simp [h5])], ha, hu.symm⟩
theorem BB.give_is (b : BB) (a : Int) : (b.give a).1 = b.is a := by
  by_cases h : b.is a = 0
  · rw [BB.give_ok h, h]
  · rw [BB.give_err h]
theorem BB.Inv.give_win {b : BB} (h : b.Inv) {a : Int} (he : (b.give a).1 = 0) : (0 ≤ a ∧ a < 64) ∧ ¬ b.usedOf a = 0 ∧ (b.give a).2.usedOf = fset b.usedOf a 0 ∧ (b.give a).2.tk = fset b.tk a false := by
  rw [BB.give_is] at he
  obtain ⟨h1, h2, h3⟩ := BB.is_zero he
  have hu := congrArg PB.u (h.give_pool he)
  refine ⟨⟨h1, h2⟩, ?_, hu.symm, ?_⟩
  · have := h.tk a h3
    unfold BB.usedOf; rw [if_pos h3]; omega
  · rw [BB.give_ok he]
    exact BB.joins_tk _ _ _
theorem BB.give_fail {b : BB} {a : Int} (h : ¬ (b.give a).1 = 0) : (b.give a).2 = b := by
  rw [BB.give_is] at h
  rw [BB.give_err h]
theorem inc_wrap {c : Int} (hc : 0 ≤ c ∧ c ≤ 64) (p : Prop) [Decidable p] : IntKind.i64.wrap (c + (if p then 1 else 0) + 1) = c + (if p then 1 else 0) + 1 := by
  split <;> exact IntWalk.i64_in _ (by omega)
theorem BB.Inv.used_nn {b : BB} (h : b.Inv) (i : Int) : 0 ≤ b.usedOf i ∧ b.usedOf i ≤ 7 := by
  have := h.rng i
  unfold BB.usedOf; split <;> omega
theorem free_next {b : BB} {o : Int} (ho : 0 ≤ o) {i : Int} (h0 : 0 ≤ i) (h1 : i < 64) : (b.tk i || decide (b.ord i ≤ o + 1)) = (b.tk i || decide (b.ord i ≤ o) || decide (i ∈ allL (b.at_ o) 64)) := by
  have hm : i ∈ allL (b.at_ o) 64 ↔ b.ord i = o + 1 ∧ b.tk i = false := by
    rw [allL_mem, BB.at_iff ho]
    exact ⟨fun q => q.2.2, fun q => ⟨h0, by omega, q⟩⟩
  rw [Bool.eq_iff_iff]
  simp only [Bool.or_eq_true, decide_eq_true_eq, hm]
  constructor
  · rintro (q | q)
    · exact .inl (.inl q)
    · by_cases c : b.ord i = o + 1
      · cases ht : b.tk i with
        | true => exact .inl (.inl rfl)
        | false => exact .inr ⟨c, rfl⟩
      · exact .inl (.inr (by omega))
  · rintro ((q | q) | q)
    · exact .inl q
    · exact .inr (by omega)
    · exact .inr (by omega)
theorem cv_taken {y : BB} (h : y.Inv) {k r : Int} (hk : 0 < y.ord k) (ht : y.tk k = true) (hr : r = p2 (y.ord k - 1)) :
    cv y (fun i => decide (i < k + 1) && y.tk i) = fun j => cv y (fun i => decide (i < k) && y.tk i) j + (if k ≤ j ∧ j < k + r then 1 else 0) := by
  refine cv_add h hk ?_ ?_ (fun i _ _ _ hi => ?_) hr
  · simp
  · have e : k < k + 1 := by omega
    simp [ht]; omega
  · have e : (i < k + 1) ↔ (i < k) := by omega
    simp [e]
theorem cv_untaken {y : BB} {k r : Int} (ht : y.tk k = false) (hr : r = 0) :
    cv y (fun i => decide (i < k + 1) && y.tk i) = fun j => cv y (fun i => decide (i < k) && y.tk i) j + (if k ≤ j ∧ j < k + r then 1 else 0) := by
  subst hr
  rw [part_zero]
  refine cv_congr fun i _ _ _ => ?_
  by_cases c : i = k
  · rw [c, ht]; simp
  · have e : (i < k + 1) ↔ (i < k) := by omega
    simp [e]
theorem cv_listed {y : BB} (h : y.Inv) {o z r : Int} {l : List Int} (hz : 0 ≤ z ∧ z < l.length) (hn : l.Nodup) (h0 : 0 ≤ o) (ho : y.ord (at0 l z) = o + 1) (ht : y.tk (at0 l z) = false) (hr : r = p2 o) :
    cv y (fun i => y.tk i || decide (y.ord i ≤ o) || decide (i ∈ List.take (z + 1).toNat l)) = fun j => cv y (fun i => y.tk i || decide (y.ord i ≤ o) || decide (i ∈ List.take z.toNat l)) j + (if at0 l z ≤ j ∧ j < at0 l z + r then 1 else 0) := by
  refine cv_add h (by omega) ?_ ?_ (fun i _ _ _ hi => ?_) (by rw [ho, show o + 1 - 1 = o from by omega]; exact hr)
  · have e : ¬ o + 1 ≤ o := by omega
    simp [ht, ho, nodup_at hn hz, e]
  · rw [take_at hz]; simp
  · rw [take_at hz]; simp [hi]
theorem cv_zero (y : BB) : cv y (fun i => decide (i < 0) && y.tk i) = fun _ => 0 := cv_none (fun i h0 _ => by
  have : ¬ i < 0 := by omega
  simp [this])
theorem cv_first {y : BB} {k : Int} (hk : 64 ≤ k) : cv y (fun i => y.tk i || decide (y.ord i ≤ 0)) = cv y (fun i => decide (i < k) && y.tk i) := cv_congr (fun i h0 h1 h2 => by
  have e1 : i < k := by omega
  have e2 : ¬ y.ord i ≤ 0 := by omega
  simp [e1, e2])
theorem cv_none_yet (y : BB) (o : Int) (l : List Int) : cv y (fun i => y.tk i || decide (y.ord i ≤ o) || decide (i ∈ List.take (0 : Int).toNat l)) = cv y (fun i => y.tk i || decide (y.ord i ≤ o)) := cv_congr (fun i _ _ _ => by simp)
theorem cv_order {y : BB} {o z : Int} {l : List Int} (h0 : 0 ≤ o) (hl : l = allL (y.at_ o) 64) (hz : l.length ≤ z.toNat) : cv y (fun i => y.tk i || decide (y.ord i ≤ o + 1)) = cv y (fun i => y.tk i || decide (y.ord i ≤ o) || decide (i ∈ List.take z.toNat l)) := cv_congr (fun i i0 i1 _ => by
  rw [List.take_of_length_le hz, hl]
  exact free_next h0 i0 i1)
theorem cv_all {y : BB} (h : y.Full) {o k : Int} (ho : 7 ≤ o) (hk : 0 ≤ k ∧ k < 64) : cv y (fun i => y.tk i || decide (y.ord i ≤ o)) k = 1 := h.once (fun i hi => by
  have := h.inv.rng i
  have e : y.ord i ≤ o := by omega
  simp [e]) hk

end Go.X
