import Derived.Test.YthdinakloheinaaGreatDoorkVBM
import Derived.Test.YthdinakloheinaaGreatDoorkVM
import Derived.Test.YthdinakloheinaaGreatDoorkFO
namespace Go.X.Vm
open Go Go.X
/-! ### what TopBuddy looks at -/
theorem half_half {i k : Int} (hk : 0 ≤ k ∧ k ≤ 6) : halfB (halfB i k) k = i := by
  have hc : k = 0 ∨ k = 1 ∨ k = 2 ∨ k = 3 ∨ k = 4 ∨ k = 5 ∨ k = 6 := by omega
  unfold halfB
  by_cases c : (i / p2 k) % 2 = 1
  · have d : ¬ ((i - p2 k) / p2 k) % 2 = 1 := by
      rcases hc with rfl | rfl | rfl | rfl | rfl | rfl | rfl
      all_goals (simp only [p2_0, p2_1, p2_2, p2_3, p2_4, p2_5, p2_6] at c ⊢; omega)
    rw [if_pos c, if_neg d]; omega
  · have d : ((i + p2 k) / p2 k) % 2 = 1 := by
      rcases hc with rfl | rfl | rfl | rfl | rfl | rfl | rfl
      all_goals (simp only [p2_0, p2_1, p2_2, p2_3, p2_4, p2_5, p2_6] at c ⊢; omega)
    rw [if_neg c, if_pos d]; omega
theorem half_up {a k : Int} (hk : 0 ≤ k ∧ k ≤ 5) (h : a % p2 (k + 1) = 0) : halfB (a + p2 k) k = a := by
  have hc : k = 0 ∨ k = 1 ∨ k = 2 ∨ k = 3 ∨ k = 4 ∨ k = 5 := by omega
  have d : ((a + p2 k) / p2 k) % 2 = 1 := by
    rcases hc with rfl | rfl | rfl | rfl | rfl | rfl
    all_goals (simp only [Int.reduceAdd, p2_0, p2_1, p2_2, p2_3, p2_4, p2_5, p2_6] at h ⊢; omega)
  unfold halfB
  rw [if_pos d]; omega
/-- all frames lie in blocks, and no two free ones could be joined -/
structure BB.Full (b : BB) : Prop where
  inv : b.Inv
  cov : ∀ j, 0 ≤ j → j < 64 → ∃ i, i ≤ j ∧ 0 < b.ord i ∧ j < i + p2 (b.ord i - 1)
  nb : ∀ i, 0 < b.ord i → b.tk i = false → ¬ b.canJoin i
theorem BB.Full.init : BB.init.Full where
  inv := BB.Inv.init
  cov := fun j h0 h1 => ⟨0, h0, by decide, by show j < 0 + p2 6; rw [p2_6]; omega⟩
  nb := fun i hi _ hc => by
    have h1 := hc.1
    have : i = 0 := by
      apply Classical.byContradiction; intro c
      rw [show BB.init.ord i = fset (fun _ => (0 : Int)) 0 7 i from rfl, fset_ne _ _ c] at hi; omega
    subst this
    have : BB.init.ord 0 = 7 := rfl
    omega
theorem BB.split_cov {b : BB} (h : b.Inv) {a : Int} (ha : 1 < b.ord a) (hc : ∀ j, 0 ≤ j → j < 64 → ∃ i, i ≤ j ∧ 0 < b.ord i ∧ j < i + p2 (b.ord i - 1)) :
    ∀ j, 0 ≤ j → j < 64 → ∃ i, i ≤ j ∧ 0 < (b.split a).ord i ∧ j < i + p2 ((b.split a).ord i - 1) := fun j h0 h1 => by
  obtain ⟨s1, s2, s3, s4⟩ := h.split ha
  have e2 := p2_next (k := b.ord a - 2) (by omega)
  rw [show b.ord a - 2 + 1 = b.ord a - 1 from by omega] at e2
  have hp := p2_pos (b.ord a - 2)
  have hne : ¬ a = a + p2 (b.ord a - 2) := by omega
  have o1 : ∀ i, (b.split a).ord i = if i = a + p2 (b.ord a - 2) then b.ord a - 1 else if i = a then b.ord a - 1 else b.ord i := fun i => rfl
  obtain ⟨i, i1, i2, i3⟩ := hc j h0 h1
  by_cases c : i = a
  · subst c
    by_cases c2 : j < i + p2 (b.ord i - 2)
    · refine ⟨i, i1, by omega, ?_⟩
      rw [s4, show b.ord i - 1 - 1 = b.ord i - 2 from by omega]; exact c2
    · refine ⟨i + p2 (b.ord i - 2), by omega, ?_, ?_⟩
      · rw [o1, if_pos rfl]; omega
      · rw [o1, if_pos rfl, show b.ord i - 1 - 1 = b.ord i - 2 from by omega]; omega
  · have c3 : ¬ i = a + p2 (b.ord a - 2) := by rintro rfl; omega
    refine ⟨i, i1, ?_, ?_⟩
    · rw [o1, if_neg c3, if_neg c]; exact i2
    · rw [o1, if_neg c3, if_neg c]; exact i3
theorem BB.join_cov {b : BB} (h : b.Inv) {a : Int} (ha : 0 < b.ord a) (hj : b.canJoin a) (hc : ∀ j, 0 ≤ j → j < 64 → ∃ i, i ≤ j ∧ 0 < b.ord i ∧ j < i + p2 (b.ord i - 1)) :
    ∀ j, 0 ≤ j → j < 64 → ∃ i, i ≤ j ∧ 0 < (b.join1 a).ord i ∧ j < i + p2 ((b.join1 a).ord i - 1) := fun j h0 h1 => by
  obtain ⟨l, l1, l2, l3, l4⟩ := half_facts ha hj.1 (h.al a ha) (h.in_rng ha)
  rw [show halfB a (b.ord a - 1) = b.buddy a from rfl] at l4
  have e2 := p2_next (k := b.ord a - 1) (by omega)
  rw [show b.ord a - 1 + 1 = b.ord a from by omega] at e2
  have hp := p2_pos (b.ord a - 1)
  have hmin : min a (b.buddy a) = l := by omega
  have hmax : max a (b.buddy a) = l + p2 (b.ord a - 1) := by omega
  have o1 : ∀ i, (b.join1 a).ord i = if i = l then b.ord a + 1 else if i = l + p2 (b.ord a - 1) then 0 else b.ord i := fun i => by
    show fset (fset b.ord (max a (b.buddy a)) 0) (min a (b.buddy a)) (b.ord a + 1) i = _
    rw [hmin, hmax]; rfl
  have ob := hj.2.1
  obtain ⟨i, i1, i2, i3⟩ := hc j h0 h1
  by_cases c : i = l ∨ i = l + p2 (b.ord a - 1)
  · have oi : b.ord i = b.ord a := by
      rcases l4 with ⟨q1, q2⟩ | ⟨q1, q2⟩ <;> rcases c with c | c
      · rw [c, ← q1]
      · rw [c, ← q2]; exact ob
      · rw [c, ← q2]; exact ob
      · rw [c, ← q1]
    rw [oi] at i3
    refine ⟨l, by omega, ?_, ?_⟩
    · rw [o1, if_pos rfl]; omega
    · rw [o1, if_pos rfl, show b.ord a + 1 - 1 = b.ord a from by omega]; omega
  · refine ⟨i, i1, ?_, ?_⟩
    · rw [o1, if_neg (by omega), if_neg (by omega)]; exact i2
    · rw [o1, if_neg (by omega), if_neg (by omega)]; exact i3
theorem BB.Full.splits : ∀ (n : Nat) {b : BB} {a : Int}, b.Full → (n : Int) < b.ord a → b.tk a = true → (BB.splits n b a).Full
  | 0, _, _, h, _, _ => h
  | n + 1, b, a, h, ha, ht => by
    obtain ⟨s1, s2, s3, s4⟩ := h.inv.split (a := a) (by omega)
    have hrg := h.inv.rng a
    have e2 := p2_next (k := b.ord a - 2) (by omega)
    rw [show b.ord a - 2 + 1 = b.ord a - 1 from by omega] at e2
    have hp := p2_pos (b.ord a - 2)
    have hne : ¬ a = a + p2 (b.ord a - 2) := by omega
    have o1 : ∀ i, (b.split a).ord i = if i = a + p2 (b.ord a - 2) then b.ord a - 1 else if i = a then b.ord a - 1 else b.ord i := fun i => rfl
    have hup : halfB (a + p2 (b.ord a - 2)) (b.ord a - 2) = a := half_up (by omega) (by rw [show b.ord a - 2 + 1 = b.ord a - 1 from by omega]; exact h.inv.al a (by omega))
    refine BB.Full.splits n ⟨s1, BB.split_cov h.inv (by omega) h.cov, fun i hi hti hcj => ?_⟩ (by rw [s4]; omega) ht
    have hti2 : b.tk i = false := hti
    have hna : ¬ i = a := by rintro rfl; rw [ht] at hti2; cases hti2
    obtain ⟨c1, c2, c3⟩ := hcj
    by_cases c : i = a + p2 (b.ord a - 2)
    · have hb : (b.split a).buddy i = a := by
        unfold BB.buddy
        rw [o1, if_pos c, show b.ord a - 1 - 1 = b.ord a - 2 from by omega, c]; exact hup
      rw [hb] at c3
      rw [show (b.split a).tk a = b.tk a from rfl, ht] at c3; cases c3
    · have oi : (b.split a).ord i = b.ord i := by rw [o1, if_neg c, if_neg hna]
      have hb : (b.split a).buddy i = b.buddy i := by unfold BB.buddy; rw [oi]
      rw [hb, oi] at c2
      rw [hb] at c3
      rw [oi] at hi c1
      have hba : ¬ b.buddy i = a := fun e => by
        rw [e] at c3
        rw [show (b.split a).tk a = b.tk a from rfl, ht] at c3; cases c3
      by_cases d : b.buddy i = a + p2 (b.ord a - 2)
      · rw [d, o1, if_pos rfl] at c2
        have e3 : halfB (b.buddy i) (b.ord i - 1) = i := half_half (by omega)
        rw [d, ← c2, show b.ord a - 1 - 1 = b.ord a - 2 from by omega, hup] at e3
        exact hna e3.symm
      · rw [o1, if_neg d, if_neg hba] at c2
        exact h.nb i hi hti2 ⟨c1, c2, c3⟩
theorem BB.Full.hide {b : BB} (h : b.Full) {a : Int} (ha : 0 < b.ord a) : (b.hide a).Full := by
  refine ⟨h.inv.hide ha, h.cov, fun i hi hti hcj => ?_⟩
  have t1 : ∀ j, (b.hide a).tk j = false → b.tk j = false := fun j hj => by
    have : fset b.tk a true j = false := hj
    by_cases c : j = a
    · rw [c, fset_eq] at this; cases this
    · rwa [fset_ne _ _ c] at this
  obtain ⟨c1, c2, c3⟩ := hcj
  exact h.nb i hi (t1 i hti) ⟨c1, c2, t1 _ c3⟩
theorem BB.Full.take {b : BB} (h : b.Full) (o : Int) : (b.take o).2.2.Full := by
  unfold BB.take
  split
  · exact h
  · rename_i ho
    split
    · exact h
    · rename_i k i hp
      obtain ⟨h1, h2, h3, h4, h5⟩ := BB.pick_spec hp
      have hh := h.hide (a := i) (by omega)
      exact BB.Full.splits _ hh (by show _ < b.ord i; omega) (fset_eq _ _ _)
theorem BB.joins_full : ∀ (n : Nat) {b : BB} {a : Int}, b.Inv → (∀ j, 0 ≤ j → j < 64 → ∃ i, i ≤ j ∧ 0 < b.ord i ∧ j < i + p2 (b.ord i - 1)) → 0 < b.ord a → b.tk a = false → 7 ≤ b.ord a + n →
    (∀ i, 0 < b.ord i → b.tk i = false → b.canJoin i → i = a ∨ b.buddy i = a) → (BB.joins n b a).Full := by
  have stop : ∀ {b : BB} {a : Int}, b.Inv → (∀ j, 0 ≤ j → j < 64 → ∃ i, i ≤ j ∧ 0 < b.ord i ∧ j < i + p2 (b.ord i - 1)) → 0 < b.ord a → b.tk a = false → ¬ b.canJoin a → (∀ i, 0 < b.ord i → b.tk i = false → b.canJoin i → i = a ∨ b.buddy i = a) → b.Full := by
    intro b a h hc ha ht hn hv
    refine ⟨h, hc, fun i hi hti hcj => ?_⟩
    rcases hv i hi hti hcj with e | e
    · rw [e] at hcj; exact hn hcj
    · obtain ⟨c1, c2, c3⟩ := hcj
      rw [e] at c2
      have e3 : b.buddy a = i := by
        have : halfB (b.buddy i) (b.ord i - 1) = i := half_half (by omega)
        unfold BB.buddy
        rw [e, ← c2] at this
        exact this
      exact hn ⟨by omega, by rw [e3]; exact c2.symm, by rw [e3]; exact hti⟩
  intro n
  induction n with
  | zero =>
    intro b a h hc ha ht h7 hv
    exact stop (b := b) (a := a) h hc ha ht (fun q => by have := q.1; omega) hv
  | succ n ih =>
    intro b a h hc ha ht h7 hv
    rw [BB.joins]
    by_cases c : b.canJoin a
    · rw [if_pos c]
      obtain ⟨j1, _, _, _, j5, j6⟩ := h.join1 ha ht c
      obtain ⟨l, l1, l2, l3, l4⟩ := half_facts ha c.1 (h.al a ha) (h.in_rng ha)
      rw [show halfB a (b.ord a - 1) = b.buddy a from rfl] at l4
      have hp := p2_pos (b.ord a - 1)
      have hmin : min a (b.buddy a) = l := by omega
      have hmax : max a (b.buddy a) = l + p2 (b.ord a - 1) := by omega
      have o1 : ∀ i, (b.join1 a).ord i = if i = l then b.ord a + 1 else if i = l + p2 (b.ord a - 1) then 0 else b.ord i := fun i => by
        show fset (fset b.ord (max a (b.buddy a)) 0) (min a (b.buddy a)) (b.ord a + 1) i = _
        rw [hmin, hmax]; rfl
      refine ih j1 (BB.join_cov h ha c hc) (by rw [j5]; omega) j6 (by rw [j5]; omega) (fun i hi hti hcj => ?_)
      rw [hmin]
      apply Classical.byContradiction
      intro hno
      obtain ⟨n1, n2⟩ := not_or.1 hno
      obtain ⟨c1, c2, c3⟩ := hcj
      have n3 : ¬ i = l + p2 (b.ord a - 1) := by
        rintro rfl
        rw [o1, if_neg n1, if_pos rfl] at hi; omega
      have oi : (b.join1 a).ord i = b.ord i := by rw [o1, if_neg n1, if_neg n3]
      have hb : (b.join1 a).buddy i = b.buddy i := by unfold BB.buddy; rw [oi]
      rw [hb] at n2 c2 c3
      rw [oi] at hi c1 c2
      have n4 : ¬ b.buddy i = l + p2 (b.ord a - 1) := fun e => by
        rw [e, o1, if_neg (by omega), if_pos rfl] at c2; omega
      rw [o1, if_neg n2, if_neg n4] at c2
      rcases hv i hi hti ⟨c1, c2, c3⟩ with e | e <;> omega
    · rw [if_neg c]; exact stop h hc ha ht c hv
theorem BB.Full.give {b : BB} (h : b.Full) (a : Int) : (b.give a).2.Full := by
  unfold BB.give
  by_cases c : b.is a = 0
  · rw [if_neg (by simp [c])]
    obtain ⟨h1, h2, h3⟩ := BB.is_zero c
    have ho := h.inv.tk a h3
    refine BB.joins_full _ (h.inv.bare a) h.cov ho (fset_eq _ _ _) (by show 7 ≤ b.ord a + _; omega) (fun i hi hti hcj => ?_)
    apply Classical.byContradiction
    intro hno
    obtain ⟨n1, n2⟩ := not_or.1 hno
    obtain ⟨c1, c2, c3⟩ := hcj
    have t1 : fset b.tk a false i = false := hti
    have t2 : fset b.tk a false (b.buddy i) = false := c3
    rw [fset_ne _ _ n1] at t1
    rw [fset_ne _ _ (show ¬ b.buddy i = a from n2)] at t2
    exact h.nb i hi t1 ⟨c1, c2, t2⟩
  · rw [if_pos c]; exact h
theorem al_in {m l w v h : Int} (hv : 0 < v ∧ v < w) (hw : w ≤ 7) (hm : m % p2 (w - 1) = 0) (hl : l % p2 v = 0) (hh : h = l ∨ h = l + p2 (v - 1)) (h1 : m ≤ h) (h2 : h < m + p2 (w - 1)) : m ≤ l ∧ l + p2 v ≤ m + p2 (w - 1) := by
  have : v = 1 ∨ v = 2 ∨ v = 3 ∨ v = 4 ∨ v = 5 ∨ v = 6 := by omega
  have hw2 : w = 2 ∨ w = 3 ∨ w = 4 ∨ w = 5 ∨ w = 6 ∨ w = 7 := by omega
  rcases this with rfl | rfl | rfl | rfl | rfl | rfl <;> rcases hw2 with rfl | rfl | rfl | rfl | rfl | rfl
  all_goals first
    | omega
    | (simp only [Int.reduceSub, p2_0, p2_1, p2_2, p2_3, p2_4, p2_5, p2_6] at hm hl hh h2 ⊢; omega)
theorem al_eq {m h v : Int} (hv : 0 < v) (h7 : v ≤ 7) (hm : m % p2 (v - 1) = 0) (hh : h % p2 (v - 1) = 0) (h1 : m ≤ h) (h2 : h < m + p2 (v - 1)) : m = h := by
  rcases ord_cases hv h7 with rfl | rfl | rfl | rfl | rfl | rfl | rfl
  all_goals (simp only [Int.reduceSub, p2_0, p2_1, p2_2, p2_3, p2_4, p2_5, p2_6] at hm hh h2 ⊢; omega)
theorem al_pair {l v h : Int} (hv : 0 < v) (h7 : v < 7) (hl : l % p2 v = 0) (hh : h = l ∨ h = l + p2 (v - 1)) : h % p2 (v - 1) = 0 := by
  rcases ord_cases hv (by omega) with rfl | rfl | rfl | rfl | rfl | rfl | rfl
  all_goals (simp only [Int.reduceSub, p2_0, p2_1, p2_2, p2_3, p2_4, p2_5, p2_6] at hl hh ⊢; omega)
/-- nothing is taken: all is one block -/
theorem BB.Full.single {b : BB} (h : b.Full) (hf : ∀ i, b.tk i = false) : b = BB.init := by
  have grow : ∀ v : Nat, v ≤ 6 → ∀ i, 0 < b.ord i → (v : Int) < b.ord i := by
    intro v
    induction v with
    | zero => intro _ i hi; simpa using hi
    | succ v ih =>
      intro hv i hi
      have hi1 := ih (by omega) i hi
      apply Classical.byContradiction
      intro hno
      have hiv : b.ord i = (v : Int) + 1 := by omega
      have hr := h.inv.rng i
      obtain ⟨l, l1, l2, l3, l4⟩ := half_facts hi (by omega) (h.inv.al i hi) (h.inv.in_rng hi)
      rw [show halfB i (b.ord i - 1) = b.buddy i from rfl] at l4
      obtain ⟨r1, r2, r3⟩ := h.inv.buddy_rng hi (by omega)
      obtain ⟨m, m1, m2, m3⟩ := h.cov (b.buddy i) r1 r2
      have hm1 := ih (by omega) m m2
      have hmr := h.inv.rng m
      have hbl : b.buddy i = l ∨ b.buddy i = l + p2 (b.ord i - 1) := by omega
      by_cases c : b.ord m = b.ord i
      · have e := al_eq (m := m) (h := b.buddy i) (v := b.ord i) hi (by omega) (by rw [← c]; exact h.inv.al m m2) (al_pair hi (by omega) l3 hbl) m1 (by rw [← c]; exact m3)
        exact h.nb i hi (hf i) ⟨by omega, by rw [← e]; exact c, hf _⟩
      · obtain ⟨a1, a2⟩ := al_in (m := m) (l := l) (w := b.ord m) (v := b.ord i) (h := b.buddy i) ⟨hi, by omega⟩ (by omega) (h.inv.al m m2) l3 hbl m1 m3
        have hp := p2_pos (b.ord i - 1)
        have e2 := p2_next (k := b.ord i - 1) (by omega)
        rw [show b.ord i - 1 + 1 = b.ord i from by omega] at e2
        have hne : ¬ m = i := by rintro rfl; exact c rfl
        exact h.inv.apart m2 hi hne (x := i) ⟨by omega, by omega⟩ ⟨by omega, by omega⟩
  have all7 : ∀ i, 0 < b.ord i → b.ord i = 7 := fun i hi => by
    have h1 := grow 6 (by omega) i hi
    have h2 := (h.inv.rng i).2
    omega
  obtain ⟨i, i1, i2, i3⟩ := h.cov 0 (by omega) (by omega)
  have hi0 : i = 0 := by
    have := h.inv.in_rng i2; omega
  subst hi0
  have h0 := all7 0 i2
  have ho : b.ord = BB.init.ord := by
    funext j
    by_cases c : j = 0
    · rw [c, h0]; rfl
    · rw [show BB.init.ord j = fset (fun _ => (0 : Int)) 0 7 j from rfl, fset_ne _ _ c]
      by_cases d : j < 0 ∨ 64 ≤ j
      · exact h.inv.out j d
      · exact h.inv.dis 0 j i2 (by omega) (by rw [h0]; show j < 0 + p2 6; rw [p2_6]; omega)
  have ht : b.tk = BB.init.tk := by funext j; exact hf j
  cases b
  simp only at ho ht
  subst ho; subst ht; rfl
/-! ### how many blocks lie over a frame -/
def BB.over (b : BB) (i j : Int) : Bool := decide (0 < b.ord i) && decide (i ≤ j) && decide (j < i + p2 (b.ord i - 1))
def cv (b : BB) (P : Int → Bool) (j : Int) : Int := cntN (fun i => P i && b.over i j) 64
theorem cntN_none {f : Int → Bool} : ∀ {n : Nat}, (∀ i : Int, 0 ≤ i → i < n → f i = false) → cntN f n = 0
  | 0, _ => rfl
  | n + 1, h => by simp [cntN, cntN_none (n := n) (fun i h0 h1 => h i h0 (by omega)), h n (by omega) (by omega)]
theorem cntN_add {f g : Int → Bool} {a : Int} : ∀ {n : Nat}, f a = false → (∀ i : Int, 0 ≤ i → i < n → ¬ i = a → g i = f i) → cntN g n = cntN f n + (if 0 ≤ a ∧ a < n ∧ g a = true then 1 else 0)
  | 0, _, _ => by simp [cntN]; omega
  | n + 1, hf, h => by
    have ih := cntN_add (n := n) hf (fun i h0 h1 => h i h0 (by omega))
    simp only [cntN, ih]
    by_cases c : a = n
    · subst c
      rw [hf]
      have h1 : ¬ ((n : Int) < n) := by omega
      have h2 : (0 : Int) ≤ n := by omega
      have h3 : (n : Int) < ((n + 1 : Nat) : Int) := by omega
      by_cases hg : g (n : Int) = true <;> simp [h1, hg]
      omega
    · rw [h n (by omega) (by omega) (by omega)]
      have h1 : (a < n) ↔ (a < ((n + 1 : Nat) : Int)) := by omega
      simp only [h1]
      omega
theorem BB.Full.once {b : BB} (h : b.Full) {P : Int → Bool} (hP : ∀ i, 0 < b.ord i → P i = true) {j : Int} (hj : 0 ≤ j ∧ j < 64) : cv b P j = 1 := by
  obtain ⟨i, i1, i2, i3⟩ := h.cov j hj.1 hj.2
  have hin := h.inv.in_rng i2
  unfold cv
  rw [cntN_add (f := fun _ => false) (a := i) (n := 64) rfl (fun m m0 m1 hm => by
    unfold BB.over
    by_cases c : 0 < b.ord m
    · by_cases d : m ≤ j ∧ j < m + p2 (b.ord m - 1)
      · exact (h.inv.apart c i2 hm d ⟨i1, i3⟩).elim
      · by_cases d1 : m ≤ j
        · have d2 : ¬ j < m + p2 (b.ord m - 1) := fun q => d ⟨d1, q⟩
          simp [d2]
        · simp [d1]
    · simp [c]), cntN_none (fun _ _ _ => rfl), if_pos]
  · rfl
  · unfold BB.over
    rw [hP i i2]
    simp [i2, i1, i3]
    omega
theorem allL_mem {f : Int → Bool} : ∀ {k : Nat} {a : Int}, a ∈ allL f k ↔ 0 ≤ a ∧ a < k ∧ f a = true
  | 0, a => by simp [allL]; omega
  | k + 1, a => by
    simp only [allL, List.mem_append, allL_mem (k := k)]
    constructor
    · rintro (h | h)
      · exact ⟨h.1, by omega, h.2.2⟩
      · by_cases c : f k = true
        · rw [if_pos c] at h
          have : a = k := by simpa using h
          subst this
          exact ⟨by omega, by omega, c⟩
        · rw [if_neg c] at h; cases h
    · rintro ⟨h1, h2, h3⟩
      by_cases c : a = k
      · subst c; right; rw [if_pos h3]; simp
      · left; exact ⟨h1, by omega, h3⟩
theorem BB.Inv.take_win {b : BB} (h : b.Inv) {o : Int} (he : (b.take o).2.1 = 0) : (0 ≤ o ∧ o ≤ 6) ∧ (0 ≤ (b.take o).1 ∧ (b.take o).1 < 64) ∧ b.usedOf (b.take o).1 = 0 ∧ (b.take o).1 % p2 o = 0 ∧ (b.take o).2.2.usedOf = fset b.usedOf (b.take o).1 (o + 1) := by
  by_cases ho : o < 0 ∨ 6 < o
  · rw [BB.take_bound ho] at he; simp at he
  · cases hp : b.pick o with
    | none => rw [BB.take_full ho hp] at he; simp at he
    | some x =>
      obtain ⟨k, i⟩ := x
      obtain ⟨h1, h2, h3, h4, h5⟩ := BB.pick_spec hp
      have hu := congrArg PB.u (h.take_pool ho hp)
      have hi := h.take o
      have hh := h.hide (a := i) (by omega)
      obtain ⟨s1, _⟩ := hh.splits_ord ((k : Int) - o).toNat (a := i) (by show _ < b.ord i; omega)
      have e1 : (b.take o).1 = i := by rw [BB.take_ok ho hp]
      have e2 : (b.take o).2.2.ord i = o + 1 := by
        rw [BB.take_ok ho hp]
        show (BB.splits _ _ _).ord i = _
        rw [s1]
        show b.ord i - _ = _
        omega
      have ha := hi.al i (by rw [e2]; omega)
      rw [e2, show o + 1 - 1 = o from by omega] at ha
      rw [e1]
      exact ⟨by omega, by omega, by unfold BB.usedOf; rw [if_neg (by simp [h5])], ha, hu.symm⟩
theorem BB.give_is (b : BB) (a : Int) : (b.give a).1 = b.is a := by
  by_cases h : b.is a = 0
  · rw [BB.give_ok h, h]
  · rw [BB.give_err h]
theorem BB.Inv.give_win {b : BB} (h : b.Inv) {a : Int} (he : (b.give a).1 = 0) : (0 ≤ a ∧ a < 64) ∧ ¬ b.usedOf a = 0 ∧ (b.give a).2.usedOf = fset b.usedOf a 0 ∧ (b.give a).2.tk = fset b.tk a false := by
  rw [BB.give_is] at he
  obtain ⟨h1, h2, h3⟩ := BB.is_zero he
  have hu := congrArg PB.u (h.give_pool he)
  refine ⟨⟨h1, h2⟩, ?_, hu.symm, ?_⟩
  · have := h.tk a h3
    unfold BB.usedOf; rw [if_pos h3]; omega
  · rw [BB.give_ok he]
    exact BB.joins_tk _ _ _
end Go.X.Vm

namespace Go.X.Vm
open Go Go.X

def zKl (b : Nat) : List Value := ptr b 0 0 :: (List.replicate 512 (Value.int .u8 0) ++ List.replicate 64 (Value.int .i64 0))
def VB.init : VB := ⟨BB.init, fun _ _ => 0, fun _ => 0⟩
theorem VB.Ok.init : VB.init.Ok := ⟨BB.Inv.init, fun _ => by simp [VB.init], fun _ _ => by simp [VB.init]⟩
theorem zK_box (b : Nat) : ∀ i, i < 577 → cellsOf (zKl b).toArray i = encK b VB.init.by_ VB.init.rf i := fun i hi => by
  unfold cellsOf zKl encK
  rw [Array.getD_eq_getD_getElem?, List.getElem?_toArray]
  by_cases h0 : i = 0
  · subst h0; rfl
  · rw [if_neg h0, show i = (i - 1) + 1 from by omega, List.getElem?_cons_succ]
    by_cases h1 : i - 1 < 512
    · rw [List.getElem?_append_left (by rw [List.length_replicate]; exact h1), List.getElem?_replicate, if_pos h1]
      rw [if_pos (by omega)]; rfl
    · rw [List.getElem?_append_right (by rw [List.length_replicate]; omega), List.length_replicate, List.getElem?_replicate, if_pos (by omega)]
      rw [if_neg (by omega), if_pos (by omega)]; rfl
def zNl (b : Nat) : List Value := ptr b 0 0 :: .slice none 0 0 :: (List.replicate 16 [Value.int .i64 0, Value.bool false]).flatten
theorem zN_box (b : Nat) : ∀ i, i < 34 → cellsOf (zNl b).toArray i = encN b none 0 0 (fun _ => 1) (fun _ => false) i := fun i hi => by
  unfold cellsOf zNl encN
  rw [Array.getD_eq_getD_getElem?, List.getElem?_toArray]
  by_cases h0 : i = 0
  · subst h0; rfl
  · rw [if_neg h0]
    by_cases h1 : i = 1
    · subst h1; rfl
    · rw [if_neg h1]
      have h : ∀ k, k < 32 → ((List.replicate 16 [Value.int .i64 0, Value.bool false]).flatten)[k]? = some (if k % 2 = 0 then Value.int .i64 0 else .bool false) := fun k hk => match k, hk with
        | 0, _ => rfl
        | 1, _ => rfl
        | 2, _ => rfl
        | 3, _ => rfl
        | 4, _ => rfl
        | 5, _ => rfl
        | 6, _ => rfl
        | 7, _ => rfl
        | 8, _ => rfl
        | 9, _ => rfl
        | 10, _ => rfl
        | 11, _ => rfl
        | 12, _ => rfl
        | 13, _ => rfl
        | 14, _ => rfl
        | 15, _ => rfl
        | 16, _ => rfl
        | 17, _ => rfl
        | 18, _ => rfl
        | 19, _ => rfl
        | 20, _ => rfl
        | 21, _ => rfl
        | 22, _ => rfl
        | 23, _ => rfl
        | 24, _ => rfl
        | 25, _ => rfl
        | 26, _ => rfl
        | 27, _ => rfl
        | 28, _ => rfl
        | 29, _ => rfl
        | 30, _ => rfl
        | 31, _ => rfl
        | k + 32, h => absurd h (by omega)
      rw [show i = (i - 2) + 1 + 1 from by omega, List.getElem?_cons_succ, List.getElem?_cons_succ, h _ (by omega)]
      by_cases h2 : (i - 2) % 2 = 0
      · rw [if_pos h2, if_pos (by omega)]; rfl
      · rw [if_neg h2, if_neg (by omega), if_pos (by omega)]; rfl
theorem encN_congr {kb : Nat} {p : Option Addr} {n c : Nat} {f f' : Int → Int} {o o' : Int → Bool} (h : ∀ i : Int, 0 ≤ i → i < 16 → f i = f' i ∧ o i = o' i) : encN kb p n c f o = encN kb p n c f' o' := by
  funext j
  unfold encN
  refine ite_both (fun _ => rfl) (fun _ => ite_both (fun _ => rfl) (fun _ => ite_both (fun d => ?_) (fun _ => ite_both (fun d => ?_) (fun _ => rfl))))
  · have := (h (((j - 2) / 2 : Nat) : Int) (by omega) (by omega)).1
    simp only [this]
  · have := (h (((j - 3) / 2 : Nat) : Int) (by omega) (by omega)).2
    simp only [this]
def frI (i : Int) : Int → Int := fun j => if 0 ≤ j ∧ j < i then 0 else 1
theorem frI_next {i : Int} (h : 0 ≤ i) : fset (frI i) i (-1 + 1) = frI (i + 1) := by
  funext j
  unfold fset frI
  by_cases c : j = i
  · rw [if_pos c, if_pos (by omega)]; rfl
  · rw [if_neg c]
    by_cases d : 0 ≤ j ∧ j < i
    · rw [if_pos d, if_pos (by omega)]
    · rw [if_neg d, if_neg (by omega)]
theorem runs_nil : runs MS.nil.is_ = [] := by decide +kernel
theorem VB.take_ok {v : VB} (h : (v.bb.take 0).2.1 = 0) : v.take = ((v.bb.take 0).1, 0, ⟨(v.bb.take 0).2.2, brow v.by_ (v.bb.take 0).1 (fun _ => 0), fset v.rf (v.bb.take 0).1 1⟩) := by unfold VB.take; rw [if_neg (by simp [h])]
theorem VB.take_no {v : VB} (h : ¬ (v.bb.take 0).2.1 = 0) : v.take = (0, (v.bb.take 0).2.1, v) := by unfold VB.take; rw [if_pos h]
theorem VB.Ok.take {v : VB} (hv : v.Ok) : v.take.2.2.Ok := by
  by_cases c : (v.bb.take 0).2.1 = 0
  · rw [VB.take_ok c]
    refine ⟨hv.bb.take 0, fun f => ?_, fun f j => ?_⟩
    · show 0 ≤ fset v.rf _ 1 f ∧ fset v.rf _ 1 f ≤ 100000
      unfold fset; split
      · omega
      · exact hv.rf f
    · show 0 ≤ brow v.by_ (v.bb.take 0).1 (fun _ => 0) f j ∧ brow v.by_ (v.bb.take 0).1 (fun _ => 0) f j < 256
      unfold brow; split
      · simp
      · exact hv.by_ f j
  · rw [VB.take_no c]; exact hv
theorem VB.take_nn (v : VB) : 0 ≤ v.take.2.1 := by
  unfold VB.take; split
  · exact BB.take_nn _ _
  · exact Int.le_refl _
theorem VB.Ok.drop {v : VB} (hv : v.Ok) {f : Int} (h : 1 ≤ v.rf f) : (v.drop f).Ok := by
  have hr : ∀ g, 0 ≤ fset v.rf f (v.rf f - 1) g ∧ fset v.rf f (v.rf f - 1) g ≤ 100000 := fun g => by
    unfold fset; split
    · have := hv.rf f; omega
    · exact hv.rf g
  unfold VB.drop; split
  · exact ⟨hv.bb.give f, hr, hv.by_⟩
  · exact ⟨hv.bb, hr, hv.by_⟩
theorem VB.drop_rf (v : VB) (f : Int) : (v.drop f).rf = fset v.rf f (v.rf f - 1) ∧ (v.drop f).by_ = v.by_ := by unfold VB.drop; split <;> exact ⟨rfl, rfl⟩
theorem VB.drop_p {v : VB} {f : Int} (h : v.rf f - 1 = 0) : v.drop f = ⟨(v.bb.give f).2, v.by_, fset v.rf f (v.rf f - 1)⟩ := by unfold VB.drop; rw [if_pos h]
theorem VB.drop_n {v : VB} {f : Int} (h : ¬ v.rf f - 1 = 0) : v.drop f = ⟨v.bb, v.by_, fset v.rf f (v.rf f - 1)⟩ := by unfold VB.drop; rw [if_neg h]
def RG.hasB (r : RG) (i : Int) : Bool := decide (r.fr ≤ i) && decide (i < r.fr + r.n)
def pgA (fr : Int → Int) (own : Int → Bool) : Array Value := ((List.range 32).map fun (j : Nat) => if j % 2 = 0 then Value.int .i64 (fr ((j / 2 : Nat) : Int) - 1) else .bool (own ((j / 2 : Nat) : Int))).toArray
theorem encN_pages (kb : Nat) (p : Option Addr) (n c : Nat) (fr : Int → Int) (own : Int → Bool) : 0 + 2 + 32 ≤ 34 ∧ aggOf (encN kb p n c fr own) (0 + 2) 32 = .agg (pgA fr own) := by
  refine ⟨by omega, ?_⟩
  unfold aggOf pgA
  congr 2
theorem pgA_at {fr : Int → Int} {own : Int → Bool} {z : Int} (h : 0 ≤ z ∧ z < 16) : (pgA fr own).extract (z.toNat * 2) (z.toNat * 2 + 2) = #[.int .i64 (fr z - 1), .bool (own z)] := by
  have hs : (pgA fr own).size = 32 := by simp [pgA]
  apply Array.ext
  · simp [hs]; omega
  · intro i h1 h2
    have h3 : i = 0 ∨ i = 1 := by simp at h2; omega
    rw [Array.getElem_extract]
    rcases h3 with rfl | rfl
    · simp only [pgA, List.getElem_toArray, List.getElem_map, List.getElem_range, Nat.add_zero]
      rw [if_pos (by omega), show ((z.toNat * 2 / 2 : Nat) : Int) = z from by omega]; try rfl
    · simp only [pgA, List.getElem_toArray, List.getElem_map, List.getElem_range]
      rw [if_neg (by omega), show (((z.toNat * 2 + 1) / 2 : Nat) : Int) = z from by omega]; try rfl
theorem newsC_one {l : List RG} : (newsOf (rgC l) (l.length * 3)).all one = true := by
  rw [List.all_eq_true]
  intro v hv
  simp only [newsOf, List.mem_map, List.mem_range] at hv
  obtain ⟨j, hj, rfl⟩ := hv
  unfold rgC RG.cell
  have : j % 3 = 0 ∨ j % 3 = 1 ∨ j % 3 = 2 := by omega
  rcases this with q | q | q <;> rw [q] <;> rfl
def pgB (f : Int) (w : Bool) (i : Nat) : Value := if i = 0 then .int .i64 f else if i = 1 then .bool w else undef
theorem pgB.f (f : Int) (w : Bool) : 0 + 0 < 2 ∧ pgB f w (0 + 0) = .int .i64 f := ⟨by omega, rfl⟩
theorem pgB.w (f : Int) (w : Bool) : 0 + 1 < 2 ∧ pgB f w (0 + 1) = .bool w := ⟨by omega, rfl⟩
theorem pgB.box (f : Int) (w : Bool) : ∀ i, i < 2 → cellsOf #[.int .i64 f, .bool w] i = pgB f w i := fun i h => by
  match i, h with
  | 0, _ => rfl
  | 1, _ => rfl
  | k + 2, h => omega
theorem pgB.st (f g : Int) (w u : Bool) : 0 + 2 ≤ 2 ∧ updL (pgB g u) 0 [.int .i64 f, .bool w] = pgB f w := ⟨by omega, by
  funext i
  match i with
  | 0 => rfl
  | 1 => rfl
  | k + 2 => simp [updL, upd, pgB]⟩
theorem sorted_rb {l : List RG} (h : GL l) : ∀ r ∈ l, 0 ≤ r.fr ∧ r.fr ≤ 16 := fun r hr => by have := h.b r hr; omega

section
variable {P : Program} {n : Fr} {Q : Exit → Act → World → Prop} {L : PF} {ops : Md} {rest : List Oper} {ty : TypeId} {pos : String} {af : Array Edge} {d : Nat} {W : World} {S : Nat → Nat → Prop} {H H' : List Ent}
theorem XO.appendRG {t e : TypeId} {x y : Operand} {p : Option Addr} {cap c b : Nat} {acc : List RG} {r : RG} (hx : ev L x = some (.slice p acc.length cap)) (hy : ev L y = some (.slice (some ⟨b, 0, none⟩) 1 c))
    (ht : P.underlying t = some (.slice e)) (hr : rowT P e 3 = true) (hH : Del H (frow p cap e 3 acc.length (rgC acc)) H') (hN : Has H (.cells b 0 3 (cellsOf r.arr))) (hk : acc.length + 1 ≤ 100000000000) (hd : Nat.blt d n.sz = true)
    (h : ∀ p' cap', XO P n ops Q rest ((d, .slice p' (acc ++ [r]).length cap') :: L) (XM W S (frow p' cap' e 3 (acc ++ [r]).length (rgC (acc ++ [r])) :: H'))) :
    XO P n ops Q (⟨some d, .call ⟨.builtin .append, #[x, y], #[t, t]⟩, ty, pos, af, none⟩ :: rest) L (XM W S H) :=
  XO.appendF (C2 := rgC (acc ++ [r])) hx hy ht hr hH hN rfl rfl (by omega) hk (rgC.app acc r _ (fun i hi => by
    match i, hi with
    | 0, _ => rfl
    | 1, _ => rfl
    | 2, _ => rfl
    | k + 3, hi => omega)) hd (fun p' cap' => by
    have e1 : acc.length + 1 = (acc ++ [r]).length := by simp
    rw [e1]
    exact h p' cap')
end
theorem rgC.agg2 {l : List RG} {m : Nat} (hm : m = l.length) {z : Int} (h : 0 ≤ z ∧ z < m) : 0 + z.toNat * 3 + 3 ≤ m * 3 ∧ aggOf (rgC l) (0 + z.toNat * 3) 3 = .agg (rat l z).arr := by
  subst hm; exact rgC.agg h
theorem cvR_len (a n : Int) (r : RG) : (cvR a n r).length ≤ 2 := by
  unfold cvR
  split
  · simp
  · rw [List.length_append]; split <;> split <;> simp
theorem mg_snoc (l : List RG) (r : RG) : mg (l ++ [r]) = mgS (mg l) r := by unfold mg; rw [List.foldl_append]; rfl
theorem mg_len : ∀ (k : Nat) (l : List RG), l.length = k → (mg l).length ≤ k
  | 0, l, h => by rw [List.length_eq_zero_iff] at h; subst h; simp [mg]
  | k + 1, l, h => by
    obtain ⟨l', x, rfl⟩ := snoc_of (l := l) (by omega)
    rw [mg_snoc]
    have h1 := mgS_len (mg l') x
    have h2 := mg_len k l' (by simp at h; exact h)
    omega
theorem mg_b : ∀ (k : Nat) (l : List RG), l.length = k → (∀ r ∈ l, 0 ≤ r.fr ∧ 0 < r.n ∧ r.fr + r.n ≤ 16) → ∀ r ∈ mg l, 0 ≤ r.fr ∧ 0 < r.n ∧ r.fr + r.n ≤ 16
  | 0, l, h, _ => by rw [List.length_eq_zero_iff] at h; subst h; intro r hr; simp [mg] at hr
  | k + 1, l, h, hb => by
    obtain ⟨l', x, rfl⟩ := snoc_of (l := l) (by omega)
    have ih := mg_b k l' (by simp at h; exact h) (fun r hr => hb r (by simp [hr]))
    have hx := hb x (by simp)
    rw [mg_snoc]
    intro r hr
    rcases Nat.eq_zero_or_pos (mg l').length with q | q
    · rw [List.length_eq_zero_iff] at q; rw [q, mgS_nil] at hr
      simp only [List.mem_singleton] at hr; subst hr; exact hx
    · obtain ⟨m', y, hy⟩ := snoc_of q
      rw [hy, mgS_snoc] at hr
      rw [hy] at ih
      have hyb := ih y (by simp)
      split at hr
      · rename_i c
        rcases List.mem_append.1 hr with hr | hr
        · exact ih r (by simp [hr])
        · simp only [List.mem_singleton] at hr; subst hr; simp; omega
      · simp only [List.mem_append, List.mem_cons, List.not_mem_nil, or_false] at hr
        rcases hr with hr | rfl | rfl
        · exact ih r (by simp [hr])
        · exact hyb
        · exact hx
theorem take_snoc {l : List RG} {i : Int} (h : 0 ≤ i ∧ i < l.length) : l.take (i + 1).toNat = l.take i.toNat ++ [rat l i] := by
  rw [show (i + 1).toNat = i.toNat + 1 from by omega, List.take_add_one, rat_get h]; rfl
theorem flat_take {β : Type} (f : RG → List β) {l : List RG} {i : Int} (h : 0 ≤ i ∧ i < l.length) : (l.take (i + 1).toNat).flatMap f = (l.take i.toNat).flatMap f ++ f (rat l i) := by
  rw [take_snoc h]; simp
theorem cvR_in {a n : Int} {r : RG} (h : ¬ min (r.fr + r.n) (a + n) ≤ max r.fr a) : cvR a n r = (if r.fr < max r.fr a then [⟨r.fr, max r.fr a - r.fr, r.w⟩] else []) ++ (if min (r.fr + r.n) (a + n) < r.fr + r.n then [⟨min (r.fr + r.n) (a + n), r.fr + r.n - min (r.fr + r.n) (a + n), r.w⟩] else []) := by unfold cvR; rw [if_neg h]
theorem cvR_out {a n : Int} {r : RG} (h : min (r.fr + r.n) (a + n) ≤ max r.fr a) : cvR a n r = [r] ∧ cvH a n r = [] := by
  unfold cvR cvH; rw [if_pos h, show (min (r.fr + r.n) (a + n) - max r.fr a).toNat = 0 from by omega]; exact ⟨rfl, rfl⟩
theorem intsF_snoc (a : Int) {k : Int} (h : 0 ≤ k) : intsF a (k + 1).toNat = intsF a k.toNat ++ [a + k] := by
  rw [show (k + 1).toNat = k.toNat + 1 from by omega, intsF, show ((k.toNat : Nat) : Int) = k from by omega]

/-! pages given back, one behind the other -/
theorem unL_snoc (v : VB) (fr : Int → Int) (l : List Int) (i : Int) : unL v fr (l ++ [i]) = unS fr (unL v fr l) i := by unfold unL; rw [List.foldl_append]; rfl
theorem ints_snoc {l : List Int} (h : 0 < l.length) : ∃ l' i, l = l' ++ [i] := ⟨l.dropLast, l.getLast (by intro e; rw [e] at h; simp at h), (List.dropLast_concat_getLast _).symm⟩
theorem unL_ok {v : VB} {m : MS} (hv : v.Ok) (hm : m.Ok) (hi : m.In v) : ∀ (k : Nat) (l : List Int), l.length = k → l.Nodup → (unL v m.fr l).2.Ok ∧ (0 ≤ (unL v m.fr l).1 ∧ (unL v m.fr l).1 ≤ k) ∧ ∀ g, (∀ i ∈ l, m.fr i ≠ g + 1) → (unL v m.fr l).2.rf g = v.rf g
  | 0, l, h, _ => by rw [List.length_eq_zero_iff] at h; subst h; exact ⟨hv, by simp [unL], fun _ _ => rfl⟩
  | k + 1, l, h, hn => by
    obtain ⟨l', i, rfl⟩ := ints_snoc (l := l) (by omega)
    rw [List.nodup_append] at hn
    obtain ⟨i1, i2, i3⟩ := unL_ok hv hm hi k l' (by simp at h; exact h) hn.1
    rw [unL_snoc]
    unfold unS
    split
    · rename_i c
      have e : (unL v m.fr l').2.rf (m.fr i - 1) = v.rf (m.fr i - 1) := i3 _ (fun j hj q => by
        have := hm.inj i j c (by omega)
        subst this
        exact hn.2.2 i hj i (by simp) rfl)
      refine ⟨i1.drop (by rw [e]; exact hi i c), ⟨by show 0 ≤ (unL v m.fr l').1 + 1; omega, by show (unL v m.fr l').1 + 1 ≤ _; omega⟩, fun g hg => ?_⟩
      show ((unL v m.fr l').2.drop (m.fr i - 1)).rf g = _
      rw [(VB.drop_rf _ _).1, fset_ne _ _ (by have := hg i (by simp); omega)]
      exact i3 g (fun j hj => hg j (by simp [hj]))
    · exact ⟨i1, ⟨i2.1, by omega⟩, fun g hg => i3 g (fun j hj => hg j (by simp [hj]))⟩
def cut0 (f : Int → Int) (l : List Int) : Int → Int := fun i => if i ∈ l then 0 else f i
def cutF (f : Int → Bool) (l : List Int) : Int → Bool := fun i => if i ∈ l then false else f i
theorem cut0_snoc (f : Int → Int) (l : List Int) (i : Int) : cut0 f (l ++ [i]) = fset (cut0 f l) i (-1 + 1) := by
  funext j; unfold cut0 fset
  by_cases h : j = i
  · subst h; simp
  · simp [h]
theorem cutF_snoc (f : Int → Bool) (l : List Int) (i : Int) : cutF f (l ++ [i]) = fset (cutF f l) i false := by
  funext j; unfold cutF fset
  by_cases h : j = i
  · subst h; simp
  · simp [h]
theorem cut0_same {f : Int → Int} {l : List Int} {i : Int} (h : f i = 0) : cut0 f (l ++ [i]) = cut0 f l := by
  funext j; unfold cut0
  by_cases c : j = i
  · subst c; simp [h]
  · simp [c]
theorem cutF_same {f : Int → Bool} {l : List Int} {i : Int} (h : f i = false) : cutF f (l ++ [i]) = cutF f l := by
  funext j; unfold cutF
  by_cases c : j = i
  · subst c; simp [h]
  · simp [c]
theorem itake {l : List Int} {i : Int} (h : 0 ≤ i ∧ i < l.length) : l.take (i + 1).toNat = l.take i.toNat ++ [at0 l i] := by
  rw [show (i + 1).toNat = i.toNat + 1 from by omega, List.take_add_one]
  unfold at0
  rw [List.getD_eq_getElem?_getD, List.getElem?_eq_getElem (by omega)]; rfl
theorem at0_mem {l : List Int} {i : Int} (h : 0 ≤ i ∧ i < l.length) : at0 l i ∈ l := by
  unfold at0
  rw [List.getD_eq_getElem?_getD, List.getElem?_eq_getElem (by omega)]; simp
theorem at0_new {l : List Int} (hs : l.Pairwise (fun x y => x < y)) {i : Int} (h : 0 ≤ i ∧ i < l.length) : at0 l i ∉ l.take i.toNat := by
  intro hm
  obtain ⟨k, hk, e⟩ := List.mem_iff_getElem.1 hm
  simp only [List.length_take] at hk
  rw [List.getElem_take] at e
  have := List.pairwise_iff_getElem.1 hs k i.toNat (by omega) (by omega) (by omega)
  unfold at0 at e
  rw [List.getD_eq_getElem?_getD, List.getElem?_eq_getElem (by omega)] at e
  simp at e
  omega
theorem nodup_lt {l : List Int} (hs : l.Pairwise (fun x y => x < y)) : l.Nodup := hs.imp (fun h e => by omega)
theorem nodup_take {l : List Int} (hs : l.Pairwise (fun x y => x < y)) (k : Nat) : (l.take k).Nodup := (nodup_lt hs).sublist (List.take_sublist _ _)
theorem MS.Ok.unmap {v : VB} {m : MS} (h : m.Ok) (a n : Int) : (m.unmap v a n).2.2.2.Ok := by
  unfold MS.unmap
  split
  · exact h
  · rename_i hb
    refine ⟨h.f.setI hb (.inl rfl), fun i => ?_, fun i hi => ?_, fun i hi => ?_, fun i j hi hij => ?_⟩
    · show 0 ≤ setI m.fr a n 0 i ∧ setI m.fr a n 0 i ≤ 64
      unfold setI; split
      · omega
      · exact h.lo i
    · show setI m.fr a n 0 i = 0
      have hi : setI m.is_ a n 0 i = 0 := hi
      unfold setI at hi ⊢; split
      · rfl
      · rename_i c; rw [if_neg c] at hi; exact h.un i hi
    · show setI m.own a n false i = false
      have hi : setI m.fr a n 0 i = 0 := hi
      unfold setI at hi ⊢; split
      · rfl
      · rename_i c; rw [if_neg c] at hi; exact h.ow i hi
    · have hi : 0 < setI m.fr a n 0 i := hi
      have hij : setI m.fr a n 0 i = setI m.fr a n 0 j := hij
      unfold setI at hi hij
      split at hi
      · omega
      · rename_i c
        rw [if_neg c] at hij
        split at hij
        · omega
        · exact h.inj i j hi hij

end Go.X.Vm

namespace Go.X.Fa
open Go Go.X
namespace SF
def newU (s : SF) (n p w : Int) (h : Bool) : SF := ⟨fset s.here n h, fset s.par n p, fset s.wt n w, fset s.v n 0, fset s.ran n 0, fset s.awake n false, fset s.floor n 0, fset s.frz n false, fset s.quota n 0, fset s.period n 0, fset s.used n 0, s.now, fset s.was n false⟩
def addGE (s : SF) (n p w : Int) : Int := if n < 0 ∨ 10 ≤ n ∨ w < 1 ∨ 1000 < w then 1 else if s.here n = true then 3 else s.grE p
def addTE (s : SF) (n p w : Int) : Int := if n < 0 ∨ 20 ≤ n ∨ w < 1 ∨ 1000 < w then 1 else if s.here (10 + n) = true then 3 else s.grE p
def addG (s : SF) (n p w : Int) : SF := if s.addGE n p w = 0 then s.newU n p w true else s
def addT (s : SF) (n p w : Int) : SF := if s.addTE n p w = 0 then s.newU (10 + n) p w true else s
def anyU (s : SF) (n : Int) : Bool := (List.range 30).any (fun i => s.here (i : Int) && decide (s.par (i : Int) = n))
def dropGE (s : SF) (n : Int) : Int := if s.grE n ≠ 0 then s.grE n else if n = 0 ∨ s.anyU n = true then 5 else 0
def dropG (s : SF) (n : Int) : SF := if s.dropGE n = 0 then s.newU n 0 0 false else s
def wake (d : Int → Nat) (s : SF) (n : Int) (on : Bool) : SF := if s.tkE n = 0 then look d { s with awake := fset s.awake (10 + n) on } (10 + n) else s
def frzE (s : SF) (n : Int) : Int := if s.grE n ≠ 0 then s.grE n else if n = 0 then 8 else 0
def freeze (d : Int → Nat) (s : SF) (n : Int) (on : Bool) : SF := if s.frzE n = 0 then look d { s with frz := fset s.frz n on } n else s
def quoE (s : SF) (n q p : Int) : Int := if s.grE n ≠ 0 then s.grE n else if n = 0 then 8 else if q < 0 ∨ p < 1 ∨ 100 < p ∨ p < q then 1 else 0
def quo1 (s : SF) (n q p : Int) : SF := { s with quota := fset s.quota n q, period := fset s.period n p, used := fset s.used n 0 }
def setQ (d : Int → Nat) (s : SF) (n q p : Int) : SF := if s.quoE n q p = 0 then look d (s.quo1 n q p) n else s
def dropT (d : Int → Nat) (s : SF) (n : Int) : SF := if s.tkE n = 0 then (s.wake d n false).newU (10 + n) 0 0 false else s
def moveE (s : SF) (n g : Int) : Int := if s.tkE n ≠ 0 then s.tkE n else s.grE g
def mv1 (d : Int → Nat) (s : SF) (n g : Int) : SF := { s.wake d n false with par := fset (s.wake d n false).par (10 + n) g, v := fset (s.wake d n false).v (10 + n) 0, awake := fset (s.wake d n false).awake (10 + n) (s.awake (10 + n)) }
def move (d : Int → Nat) (s : SF) (n g : Int) : SF := if s.moveE n g = 0 then look (fset d (10 + n) (d g + 1)) (mv1 d s n g) (10 + n) else s
theorem anyU_true (s : SF) (n : Int) : s.anyU n = true ↔ ∃ i : Int, 0 ≤ i ∧ i < 30 ∧ s.here i = true ∧ s.par i = n := by
  unfold anyU
  simp only [List.any_eq_true, List.mem_range, Bool.and_eq_true, decide_eq_true_eq]
  constructor
  · rintro ⟨k, h1, h2, h3⟩; exact ⟨(k : Int), by omega, by omega, h2, h3⟩
  · rintro ⟨k, h1, h2, h3, h4⟩
    refine ⟨k.toNat, by omega, ?_⟩
    rw [show ((k.toNat : Nat) : Int) = k from by omega]; exact ⟨h3, h4⟩
theorem anyU_of {s : SF} {n k : Int} (h0 : 0 ≤ k) (h1 : k < 30) (h2 : s.here k = true) (h3 : s.par k = n) : s.anyU n = true := (s.anyU_true n).2 ⟨k, h0, h1, h2, h3⟩
theorem grE_0 {s : SF} {n : Int} (h : s.grE n = 0) : 0 ≤ n ∧ n < 10 ∧ s.here n = true := by
  unfold grE at h
  split at h
  · omega
  · split at h
    · exact ⟨by omega, by omega, by assumption⟩
    · omega
theorem tkE_0 {s : SF} {n : Int} (h : s.tkE n = 0) : 0 ≤ n ∧ n < 20 ∧ s.here (10 + n) = true := by
  unfold tkE at h
  split at h
  · omega
  · split at h
    · exact ⟨by omega, by omega, by assumption⟩
    · omega
theorem tkE_of {s : SF} {n : Int} (h0 : 0 ≤ n) (h1 : n < 20) (h2 : s.here (10 + n) = true) : s.tkE n = 0 := by unfold tkE; rw [if_neg (by omega), if_pos h2]
theorem lookF_keeps : ∀ (k : Nat) (s : SF) (n : Int), (lookF k s n).here = s.here ∧ (lookF k s n).par = s.par ∧ (lookF k s n).wt = s.wt ∧ (lookF k s n).ran = s.ran ∧ (lookF k s n).awake = s.awake ∧ (lookF k s n).floor = s.floor ∧ (lookF k s n).frz = s.frz ∧ (lookF k s n).quota = s.quota ∧ (lookF k s n).period = s.period ∧ (lookF k s n).used = s.used ∧ (lookF k s n).now = s.now
  | 0, s, n => ⟨rfl, rfl, rfl, rfl, rfl, rfl, rfl, rfl, rfl, rfl, rfl⟩
  | k + 1, s, n => by
    by_cases h : n ≤ 0
    · rw [lookF_stop _ _ h]; exact ⟨rfl, rfl, rfl, rfl, rfl, rfl, rfl, rfl, rfl, rfl, rfl⟩
    · rw [lookF_go _ _ (by omega)]
      exact lookF_keeps k (s.stp n) (s.par n)
theorem lookF_inv {d : Int → Nat} : ∀ (k : Nat) (s : SF) (n : Int), s.Inv d → (n = 0 ∨ (0 < n ∧ n < 30 ∧ s.here n = true)) → (lookF k s n).Inv d
  | 0, s, n, h, _ => h
  | k + 1, s, n, h, hn => by
    rcases hn with rfl | ⟨n0, n1, n2⟩
    · rw [lookF_stop _ _ (by omega)]; exact h
    · rw [lookF_go _ _ n0]
      obtain ⟨p0, p1, p2, _⟩ := h.up n n0 n1 n2
      refine lookF_inv k (s.stp n) (s.par n) (h.stp n0 n1 n2) ?_
      by_cases c : s.par n = 0
      · exact .inl c
      · exact .inr ⟨by omega, by omega, p2⟩
/-- all units but those above some one stand as they should -/ def Settled (s : SF) : Prop := ∀ n, 0 < n → n < 30 → s.here n = true → s.was n = s.ready n
end SF
def unitArr (u : encS.U) : Array Value := ((List.range 76).map (encS.cell u)).toArray
abbrev freshU (h : Bool) (p w : Int) : encS.U := ⟨h, p, w, 0, 0, false, 0, false, 0, 0, 0, QS.void, none, 0⟩
theorem one_ite {c : Prop} [Decidable c] {a b : Value} (h1 : c → one a = true) (h2 : ¬ c → one b = true) : one (if c then a else b) = true := by
  by_cases h : c
  · rw [if_pos h]; exact h1 h
  · rw [if_neg h]; exact h2 h
theorem encQ_one (s : QS) (p : Option Addr) (c i : Nat) (hi : i < 65) : one (encQ s p c i) = true := one_ite (fun _ => rfl) (fun _ => one_ite (fun _ => rfl) (fun h => absurd hi h))
theorem cell_one (u : encS.U) (j : Nat) (hj : j < 76) : one (encS.cell u j) = true :=
  one_ite (fun _ => rfl) (fun _ => one_ite (fun _ => rfl) (fun _ => one_ite (fun _ => rfl) (fun _ => one_ite (fun _ => rfl) (fun _ => one_ite (fun _ => rfl) (fun _ => one_ite (fun _ => rfl) (fun _ => one_ite (fun c => encQ_one _ _ _ _ (by omega)) (fun _ => one_ite (fun _ => rfl) (fun _ => one_ite (fun _ => rfl) (fun _ => one_ite (fun _ => rfl) (fun _ => one_ite (fun _ => rfl) (fun _ => one_ite (fun _ => rfl) (fun _ => by exact absurd hj (by omega)))))))))))))
theorem unitArr_ok (u : encS.U) : (unitArr u).toList.all one = true ∧ (unitArr u).size = 76 := by
  refine ⟨List.all_eq_true.2 fun x hx => ?_, by simp [unitArr]⟩
  simp only [unitArr, List.mem_map, List.mem_range] at hx
  obtain ⟨j, hj, rfl⟩ := hx
  exact cell_one u j hj
theorem encS_new (s : SC) (z p w : Int) (h : Bool) (hz : 0 ≤ z ∧ z < 30) : 0 + 0 + z.toNat * 76 + 76 ≤ 2281 ∧ updL (encS s) (0 + 0 + z.toNat * 76) (unitArr (freshU h p w)).toList = encS ⟨s.toSF.newU z p w h, fset s.Q z QS.void, fset s.P z none, fset s.C z 0⟩ :=
  encS.setL s ⟨s.toSF.newU z p w h, fset s.Q z QS.void, fset s.P z none, fset s.C z 0⟩ z hz _ (by simp [unitArr]) (fun j hj => by
    have e : encS.un ⟨s.toSF.newU z p w h, fset s.Q z QS.void, fset s.P z none, fset s.C z 0⟩ z = freshU h p w := by
      unfold encS.un SF.newU
      simp only [fset_eq]
    rw [e]
    simp [unitArr, hj]) (fun y hy => by
    unfold encS.un SF.newU
    simp only [fset_ne _ _ hy]) rfl
theorem SC.Rep.new {s : SC} (h : s.Rep) {z : Int} (hw : s.was z = false) (hk : ∀ i, s.was i = true → s.par i ≠ z) (p w : Int) (hh : Bool) : SC.Rep ⟨s.toSF.newU z p w hh, fset s.Q z QS.void, fset s.P z none, fset s.C z 0⟩ := fun g g0 g1 => by
  show QRel (fset s.Q z QS.void g) ((s.toSF.newU z p w hh).mq g)
  by_cases c : g = z
  · subst c
    rw [fset_eq]
    refine QRel.void.ext (fun i _ _ => ?_) (fun i _ _ hi => by cases hi)
    show (fset s.was g false i && decide (fset s.par g p i = g)) = false
    by_cases ci : i = g
    · subst ci; rw [fset_eq]; rfl
    · rw [fset_ne _ _ ci, fset_ne _ _ ci]
      cases q : s.was i with
      | false => rfl
      | true => simp [hk i q]
  · rw [fset_ne _ _ c]
    refine (h g g0 g1).ext (fun i _ _ => ?_) (fun i _ _ hi => ?_)
    · show (fset s.was z false i && decide (fset s.par z p i = g)) = (s.was i && decide (s.par i = g))
      by_cases ci : i = z
      · subst ci; rw [fset_eq, hw]; rfl
      · rw [fset_ne _ _ ci, fset_ne _ _ ci]
    · show fset s.v z 0 i = s.v i
      have ci : ¬ i = z := fun e => by
        subst e
        have := ((SF.mq_inn _ _ _).1 hi).1
        rw [hw] at this; cases this
      rw [fset_ne _ _ ci]
def SF.void : SF := ⟨fun _ => false, fun _ => 0, fun _ => 0, fun _ => 0, fun _ => 0, fun _ => false, fun _ => 0, fun _ => false, fun _ => 0, fun _ => 0, fun _ => 0, 0, fun _ => false⟩
def SC.void : SC := ⟨SF.void, fun _ => QS.void, fun _ => none, fun _ => 0⟩
def arrS : Array Value := ((List.range 2281).map (encS SC.void)).toArray
theorem arrS_size : arrS.size = 2281 := by simp [arrS]
theorem arrS_box : ∀ i, i < 2281 → cellsOf arrS i = encS SC.void i := fun i hi => by simp [cellsOf, arrS, hi]
def SF.init : SF := SF.void.newU 0 (-1) 1 true
theorem SC.Rep.void : SC.void.Rep := fun g _ _ => QRel.void.ext (fun i _ _ => rfl) (fun i _ _ hi => by cases hi)

end Go.X.Fa
