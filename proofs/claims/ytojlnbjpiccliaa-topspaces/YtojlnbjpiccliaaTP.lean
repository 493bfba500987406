import Derived.Test.YtojlnbjpiccliaaTM
namespace Go.X
open Go
/-! ### spaces: what always holds -/
structure SS.Inv (s : SS) (dep : Int → Nat) : Prop where
  D : s.Deep dep
  A : ∀ k, s.here k = false → ∀ j, s.who k j = -1
  z : ∀ n, s.who n 0 = -1
  lo : ∀ n q, -1 ≤ s.who n q
  loc : ∀ p, -1 ≤ s.loc p ∧ s.loc p < 6
  at_ : ∀ p, 0 ≤ p → p < 20 → 0 ≤ s.loc p → s.here (s.loc p) = true
  mem : ∀ n q p, 0 ≤ p → s.who n q = p → p < 20 ∧ 0 < q ∧ q < 21 ∧ 0 ≤ s.loc p ∧ n ∈ s.way dep (s.loc p)
  inj : ∀ n q q', 0 ≤ s.who n q → s.who n q' = s.who n q → q' = q
  has : ∀ p, 0 ≤ p → p < 20 → 0 ≤ s.loc p → ∀ n ∈ s.way dep (s.loc p), ∃ q, s.who n q = p
theorem SS.Inv.init : SS.init.Inv (fun _ => 1) where
  D := ⟨fun n h0 h6 hh => by
    have hn : n = 0 := by
      by_cases q : n = 0
      · exact q
      · simp [SS.init, SS.root, SS.zero, fset, q] at hh
    subst hn
    exact ⟨by omega, by omega, .inl ⟨by simp [SS.init, SS.root, fset], rfl⟩⟩⟩
  A := fun _ _ _ => rfl
  z := fun _ => rfl
  lo := fun _ _ => by show (-1 : Int) ≤ -1; omega
  loc := fun p => by
    show -1 ≤ frf 20 p ∧ frf 20 p < 6
    unfold frf; split <;> omega
  at_ := fun p h0 h1 h2 => by
    have : SS.init.loc p = -1 := by show frf 20 p = -1; unfold frf; rw [if_pos ⟨h0, h1⟩]
    omega
  mem := fun n q p h0 h1 => by
    have : SS.init.who n q = -1 := rfl
    omega
  inj := fun n q q' h0 _ => by
    have : SS.init.who n q = -1 := rfl
    omega
  has := fun p h0 h1 h2 => by
    have : SS.init.loc p = -1 := by show frf 20 p = -1; unfold frf; rw [if_pos ⟨h0, h1⟩]
    omega
theorem SS.way_dep {s : SS} {dep : Int → Nat} (hD : s.Deep dep) : ∀ (k : Nat) (n : Int), dep n = k → 0 ≤ n → n < 6 → s.here n = true → ∀ a ∈ s.wayF k n, dep a ≤ k
  | 0, n, hk, h0, h6, hh, a, ha => by have := (hD.d n h0 h6 hh).1; omega
  | k + 1, n, hk, h0, h6, hh, a, ha => by
    obtain ⟨_, _, h3⟩ := hD.d n h0 h6 hh
    simp only [SS.wayF, List.mem_cons] at ha
    rcases ha with rfl | ha
    · omega
    · rcases h3 with ⟨_, h4⟩ | ⟨h4, h5, h6', h7⟩
      · obtain rfl : k = 0 := by omega
        simp [SS.wayF] at ha
      · have := SS.way_dep hD k _ (by omega) h4 h5 h6' a ha
        omega
theorem SS.way_nodup {s : SS} {dep : Int → Nat} (hD : s.Deep dep) : ∀ (k : Nat) (n : Int), dep n = k → 0 ≤ n → n < 6 → s.here n = true → (s.wayF k n).Nodup
  | 0, n, _, _, _, _ => List.nodup_nil
  | k + 1, n, hk, h0, h6, hh => by
    obtain ⟨_, _, h3⟩ := hD.d n h0 h6 hh
    rw [SS.wayF, List.nodup_cons]
    rcases h3 with ⟨_, h4⟩ | ⟨h4, h5, h6', h7⟩
    · obtain rfl : k = 0 := by omega
      simp [SS.wayF]
    · refine ⟨fun hm => ?_, SS.way_nodup hD k _ (by omega) h4 h5 h6'⟩
      have := SS.way_dep hD k _ (by omega) h4 h5 h6' n hm
      omega
theorem put1_is {w : Int → Int → Int} {a p : Int} (h : ∃ q, 1 ≤ q ∧ q ≤ 20 ∧ w a q < 0) : ∃ k, 1 ≤ k ∧ k ≤ 20 ∧ w a k < 0 ∧ put1 w a p = fset2 w a k p := by
  unfold put1
  cases hf : firstN (fun q => decide (w a (q + 1) < 0)) 20 with
  | none =>
    exfalso
    obtain ⟨q, h1, h2, h3⟩ := h
    unfold firstN at hf
    have := List.find?_eq_none.1 hf (q - 1).toNat (List.mem_range.2 (by omega))
    simp only [show (((q - 1).toNat : Nat) : Int) + 1 = q from by omega] at this
    simp [h3] at this
  | some k =>
    unfold firstN at hf
    have h1 := List.find?_some hf
    have h2 := List.mem_range.1 (List.mem_of_find?_eq_some hf)
    exact ⟨(k : Int) + 1, by omega, by omega, by simpa using h1, rfl⟩
theorem enterL_is (p : Int) : ∀ (l : List Int) (w : Int → Int → Int), l.Nodup → (∀ a ∈ l, ∃ q, 1 ≤ q ∧ q ≤ 20 ∧ w a q < 0) →
    (∀ a, ¬ a ∈ l → ∀ q, enterL w p l a q = w a q) ∧ (∀ a ∈ l, ∃ k, 1 ≤ k ∧ k ≤ 20 ∧ w a k < 0 ∧ ∀ q, enterL w p l a q = if q = k then p else w a q)
  | [], w, _, _ => ⟨fun _ _ _ => rfl, fun a ha => by cases ha⟩
  | b :: r, w, hn, hf => by
    obtain ⟨hb, hr⟩ := List.nodup_cons.1 hn
    obtain ⟨k, k1, k2, k3, k4⟩ := put1_is (p := p) (hf b (by simp))
    have hne : ∀ a, ¬ a = b → ∀ q, put1 w b p a q = w a q := fun a ha q => by rw [k4]; simp [fset2, ha]
    obtain ⟨i1, i2⟩ := enterL_is p r (put1 w b p) hr (fun a ha => by
      have hab : ¬ a = b := by rintro rfl; exact hb ha
      obtain ⟨q, q1, q2, q3⟩ := hf a (by simp [ha])
      exact ⟨q, q1, q2, by rw [hne a hab]; exact q3⟩)
    refine ⟨fun a ha q => ?_, fun a ha => ?_⟩
    · simp only [List.mem_cons, not_or] at ha
      rw [enterL, i1 a ha.2, hne a ha.1]
    · by_cases hab : a = b
      · subst hab
        refine ⟨k, k1, k2, k3, fun q => ?_⟩
        rw [enterL, i1 a hb, k4]
        simp [fset2]
      · have har : a ∈ r := by simpa [hab] using ha
        obtain ⟨j, j1, j2, j3, j4⟩ := i2 a har
        refine ⟨j, j1, j2, by rw [← hne a hab]; exact j3, fun q => ?_⟩
        rw [enterL, j4, hne a hab]
theorem pigeon : ∀ (n m : Nat) (f : Nat → Nat), n < m → (∀ i, i < m → f i < n) → ∃ i j, i < j ∧ j < m ∧ f i = f j
  | 0, m, f, h, hf => absurd (hf 0 h) (by omega)
  | n + 1, m, f, h, hf => by
    by_cases he : ∃ i, i < m - 1 ∧ f i = f (m - 1)
    · obtain ⟨i, h1, h2⟩ := he
      exact ⟨i, m - 1, h1, by omega, h2⟩
    · have hne : ∀ i, i < m - 1 → ¬ f i = f (m - 1) := fun i hi e => he ⟨i, hi, e⟩
      have hv := hf (m - 1) (by omega)
      obtain ⟨i, j, h1, h2, h3⟩ := pigeon n (m - 1) (fun i => if f i = n then f (m - 1) else f i) (by omega) (fun i hi => by
        have a1 := hf i (by omega)
        have a2 := hne i hi
        show (if f i = n then f (m - 1) else f i) < n
        split <;> omega)
      refine ⟨i, j, h1, by omega, ?_⟩
      have a1 := hne i (by omega)
      have a2 := hne j (by omega)
      split at h3 <;> split at h3 <;> omega
theorem SS.Inv.absent {s : SS} {dep : Int → Nat} (h : s.Inv dep) {p : Int} (hp : 0 ≤ p) (hl : ¬ 0 ≤ s.loc p) (n q : Int) : ¬ s.who n q = p := fun e => hl (h.mem n q p hp e).2.2.2.1
theorem SS.Inv.free {s : SS} {dep : Int → Nat} (h : s.Inv dep) {p : Int} (hp : 0 ≤ p ∧ p < 20) (hl : ¬ 0 ≤ s.loc p) (a : Int) : ∃ q, 1 ≤ q ∧ q ≤ 20 ∧ s.who a q < 0 := by
  apply Classical.byContradiction
  intro hc
  have hg : ∀ q : Int, 1 ≤ q → q ≤ 20 → 0 ≤ s.who a q := fun q h1 h2 => by
    apply Classical.byContradiction
    intro h3
    exact hc ⟨q, h1, h2, by omega⟩
  have hx : ∀ i : Nat, i < 20 → 0 ≤ s.who a (i + 1) ∧ s.who a (i + 1) < 20 ∧ ¬ s.who a (i + 1) = p := fun i hi => by
    have h0 := hg (i + 1) (by omega) (by omega)
    exact ⟨h0, (h.mem a _ _ h0 rfl).1, h.absent hp.1 hl _ _⟩
  obtain ⟨i, j, h1, h2, h3⟩ := pigeon 19 20 (fun i => if s.who a (i + 1) > p then (s.who a (i + 1) - 1).toNat else (s.who a (i + 1)).toNat) (by omega) (fun i hi => by
    obtain ⟨a1, a2, a3⟩ := hx i hi
    show (if s.who a (i + 1) > p then (s.who a (i + 1) - 1).toNat else (s.who a (i + 1)).toNat) < 19
    split <;> omega)
  obtain ⟨a1, a2, a3⟩ := hx i (by omega)
  obtain ⟨b1, b2, b3⟩ := hx j h2
  have he : s.who a (i + 1) = s.who a (j + 1) := by split at h3 <;> split at h3 <;> omega
  have := h.inj a (j + 1) (i + 1) b1 he
  omega
theorem SS.Inv.entered {s : SS} {dep : Int → Nat} (h : s.Inv dep) {n p : Int} (hn : 0 ≤ n ∧ n < 6 ∧ s.here n = true) (hp : 0 ≤ p ∧ p < 20) (hl : ¬ 0 ≤ s.loc p) : (s.entered dep n p).Inv dep := by
  have hway : ∀ m, (s.entered dep n p).way dep m = s.way dep m := fun m => SS.wayF_congr (s := s) (s' := s.entered dep n p) rfl _ _
  obtain ⟨e1, e2⟩ := enterL_is p (s.way dep n) s.who (SS.way_nodup h.D _ n rfl hn.1 hn.2.1 hn.2.2) (fun a _ => h.free hp hl a)
  have hin : ∀ a ∈ s.way dep n, 0 ≤ a ∧ a < 6 ∧ s.here a = true := SS.way_mem h.D _ n rfl hn.1 hn.2.1 hn.2.2
  have hw : (s.entered dep n p).who = enterL s.who p (s.way dep n) := rfl
  have hlo : (s.entered dep n p).loc = fset s.loc p n := rfl
  have hq : ∀ m q, (s.entered dep n p).who m q = s.who m q ∨ ((s.entered dep n p).who m q = p ∧ m ∈ s.way dep n ∧ 1 ≤ q ∧ q ≤ 20) := fun m q => by
    rw [hw]
    by_cases hm : m ∈ s.way dep n
    · obtain ⟨k, k1, k2, _, k4⟩ := e2 m hm
      rw [k4]
      by_cases hk : q = k
      · rw [if_pos hk]; exact .inr ⟨rfl, hm, by omega, by omega⟩
      · rw [if_neg hk]; exact .inl rfl
    · exact .inl (e1 m hm q)
  refine ⟨⟨h.D.d⟩, fun k hk j => ?_, fun m => ?_, fun m q => ?_, fun x => ?_, fun x x0 x1 x2 => ?_, fun m q x x0 hx => ?_, fun m q q' h0 he => ?_, fun x x0 x1 x2 m hm => ?_⟩
  · rcases hq k j with q1 | ⟨_, q2, _⟩
    · rw [q1]; exact h.A k hk j
    · have := (hin k q2).2.2
      rw [show s.here k = false from hk] at this
      cases this
  · rcases hq m 0 with q1 | ⟨_, _, q2, _⟩
    · rw [q1]; exact h.z m
    · omega
  · rcases hq m q with q1 | ⟨q1, _⟩
    · rw [q1]; exact h.lo m q
    · rw [q1]; omega
  · rw [hlo]; unfold fset; split
    · omega
    · exact h.loc x
  · rw [hlo] at x2 ⊢
    show s.here _ = true
    unfold fset at x2 ⊢
    split
    · exact hn.2.2
    · rename_i hne
      rw [if_neg hne] at x2
      exact h.at_ x x0 x1 x2
  · rw [hlo, hway]
    rcases hq m q with q1 | ⟨q1, q2, q3, q4⟩
    · rw [q1] at hx
      obtain ⟨a1, a2, a3, a4, a5⟩ := h.mem m q x x0 hx
      have hne : ¬ x = p := by rintro rfl; exact hl a4
      rw [fset_ne _ _ hne]
      exact ⟨a1, a2, a3, a4, a5⟩
    · have hxp : x = p := by omega
      subst hxp
      rw [fset_eq]
      exact ⟨hp.2, by omega, by omega, hn.1, q2⟩
  · rw [hw] at h0 he
    by_cases hm : m ∈ s.way dep n
    · obtain ⟨k, k1, k2, k3, k4⟩ := e2 m hm
      rw [k4] at h0
      rw [k4, k4] at he
      have hno := h.absent hp.1 hl m
      by_cases c1 : q = k <;> by_cases c2 : q' = k
      · omega
      · rw [if_pos c1, if_neg c2] at he; exact absurd he (hno q')
      · rw [if_pos c2, if_neg c1] at he; exact absurd he.symm (hno q)
      · rw [if_neg c1] at h0 he; rw [if_neg c2] at he; exact h.inj m q q' h0 he
    · rw [e1 m hm] at h0
      rw [e1 m hm, e1 m hm] at he
      exact h.inj m q q' h0 he
  · rw [hw]
    rw [hlo] at x2 hm
    rw [hway] at hm
    by_cases hxp : x = p
    · subst hxp
      rw [fset_eq] at hm
      obtain ⟨k, _, _, _, k4⟩ := e2 m hm
      exact ⟨k, by rw [k4, if_pos rfl]⟩
    · rw [fset_ne _ _ hxp] at x2 hm
      obtain ⟨q, hq⟩ := h.has x x0 x1 x2 m hm
      by_cases hm2 : m ∈ s.way dep n
      · obtain ⟨k, _, _, k3, k4⟩ := e2 m hm2
        refine ⟨q, ?_⟩
        rw [k4, if_neg (by rintro rfl; omega)]
        exact hq
      · exact ⟨q, by rw [e1 m hm2]; exact hq⟩
theorem SS.Inv.enter {s : SS} {dep : Int → Nat} (h : s.Inv dep) (n p : Int) : (s.enter dep n p).2.2.Inv dep := by
  by_cases h1 : s.is n = 0
  · by_cases h2 : p < 0 ∨ 20 ≤ p
    · rw [SS.enter_bound h1 h2]; exact h
    · by_cases h3 : 0 ≤ s.loc p
      · rw [SS.enter_exist h1 h2 h3]; exact h
      · rw [SS.enter_ok h1 h2 h3]
        rcases s.is_cases n with ⟨_, q1, q2, q3⟩ | ⟨q, _⟩ | ⟨q, _⟩
        · exact h.entered ⟨q1, q2, q3⟩ (by omega) h3
        · omega
        · omega
  · rw [SS.enter_err h1]; exact h
theorem SS.Inv.left {s : SS} {dep : Int → Nat} (h : s.Inv dep) {p : Int} (hp : 0 ≤ p) : (s.left p).Inv dep := by
  have hway : ∀ m, (s.left p).way dep m = s.way dep m := fun m => SS.wayF_congr (s := s) (s' := s.left p) rfl _ _
  have hw : ∀ n q, (s.left p).who n q = if s.who n q = p then -1 else s.who n q := fun _ _ => rfl
  have hlo : (s.left p).loc = fset s.loc p (-1) := rfl
  refine ⟨⟨h.D.d⟩, fun k hk j => ?_, fun m => ?_, fun m q => ?_, fun x => ?_, fun x x0 x1 x2 => ?_, fun m q x x0 hx => ?_, fun m q q' h0 he => ?_, fun x x0 x1 x2 m hm => ?_⟩
  · rw [hw]; split
    · rfl
    · exact h.A k hk j
  · rw [hw]; split
    · rfl
    · exact h.z m
  · rw [hw]; split
    · omega
    · exact h.lo m q
  · rw [hlo]; unfold fset; split
    · omega
    · exact h.loc x
  · rw [hlo] at x2 ⊢
    show s.here _ = true
    by_cases hxp : x = p
    · rw [hxp, fset_eq] at x2; omega
    · rw [fset_ne _ _ hxp] at x2 ⊢
      exact h.at_ x x0 x1 x2
  · rw [hw] at hx
    rw [hlo, hway]
    split at hx
    · omega
    · rename_i hne
      rw [fset_ne _ _ (by omega : ¬ x = p)]
      exact h.mem m q x x0 hx
  · rw [hw] at h0 he
    rw [hw m q] at he
    by_cases c1 : s.who m q = p
    · rw [if_pos c1] at h0; omega
    · rw [if_neg c1] at h0 he
      by_cases c2 : s.who m q' = p
      · rw [if_pos c2] at he; omega
      · rw [if_neg c2] at he; exact h.inj m q q' h0 he
  · rw [hlo] at x2 hm
    rw [hway] at hm
    by_cases hxp : x = p
    · rw [hxp, fset_eq] at x2; omega
    · rw [fset_ne _ _ hxp] at x2 hm
      obtain ⟨q, hq⟩ := h.has x x0 x1 x2 m hm
      exact ⟨q, by rw [hw, hq, if_neg hxp]⟩
theorem SS.Inv.in_nn {s : SS} (p : Int) : 0 ≤ (s.in_ p).2 := by
  unfold SS.in_
  split
  · simp
  · split <;> simp
theorem SS.Inv.leave {s : SS} {dep : Int → Nat} (h : s.Inv dep) (p : Int) : (s.leave p).2.Inv dep := by
  unfold SS.leave
  by_cases h1 : (s.in_ p).2 = 0
  · rw [if_neg (by simp [h1])]
    refine h.left ?_
    by_cases hp : p < 0 ∨ 20 ≤ p
    · rw [SS.in_bound hp] at h1; simp at h1
    · omega
  · rw [if_pos h1]; exact h
/-- a way does not change where nothing on it does -/
theorem SS.way_eq {s s' : SS} {dep dep' : Int → Nat} (hD : s.Deep dep) (hs : ∀ n, 0 ≤ n → n < 6 → s.here n = true → s'.par n = s.par n) : ∀ (k : Nat) (n : Int), dep n = k → 0 ≤ n → n < 6 → s.here n = true → s'.wayF k n = s.wayF k n
  | 0, _, _, _, _, _ => rfl
  | k + 1, n, hk, h0, h6, hh => by
    obtain ⟨_, _, h3⟩ := hD.d n h0 h6 hh
    rw [SS.wayF, SS.wayF, hs n h0 h6 hh]
    rcases h3 with ⟨_, h4⟩ | ⟨h4, h5, h6', h7⟩
    · obtain rfl : k = 0 := by omega
      rfl
    · rw [SS.way_eq (dep' := dep') hD hs k _ (by omega) h4 h5 h6']
def SS.depA (s : SS) (dep : Int → Nat) (p : Int) : Int → Nat := if (s.add dep p).2.1 = 0 then fset dep (s.add dep p).1 (dep p + 1) else dep
theorem SS.Inv.added {s : SS} {dep : Int → Nat} (h : s.Inv dep) {p k : Int} (hp : 0 ≤ p ∧ p < 6 ∧ s.here p = true) (hd : ¬ dep p = 4) (hk : 0 ≤ k ∧ k < 6) (hh : s.here k = false) :
    ({ s with here := fset s.here k true, par := fset s.par k p } : SS).Inv (fset dep k (dep p + 1)) := by
  have hne : ∀ n, s.here n = true → ¬ n = k := by rintro n hn rfl; rw [hh] at hn; cases hn
  have hway : ∀ n, 0 ≤ n → n < 6 → s.here n = true → ({ s with here := fset s.here k true, par := fset s.par k p } : SS).way (fset dep k (dep p + 1)) n = s.way dep n := fun n h0 h6 hn => by
    unfold SS.way
    rw [fset_ne _ _ (hne n hn)]
    exact SS.way_eq (dep' := dep) h.D (fun m _ _ hm => fset_ne _ _ (hne m hm)) _ n rfl h0 h6 hn
  have hloc : ∀ x, 0 ≤ x → x < 20 → 0 ≤ s.loc x → s.loc x < 6 ∧ s.here (s.loc x) = true := fun x x0 x1 x2 => ⟨(h.loc x).2, h.at_ x x0 x1 x2⟩
  refine ⟨⟨fun n h0 h6 hn => ?_⟩, fun m hm j => ?_, h.z, h.lo, h.loc, fun x x0 x1 x2 => ?_, fun m q x x0 hx => ?_, h.inj, fun x x0 x1 x2 m hm => ?_⟩
  · by_cases hnk : n = k
    · subst hnk
      show 1 ≤ fset dep n (dep p + 1) n ∧ fset dep n (dep p + 1) n ≤ 4 ∧ ((fset s.par n p n = -1 ∧ _) ∨ (0 ≤ fset s.par n p n ∧ fset s.par n p n < 6 ∧ fset s.here n true (fset s.par n p n) = true ∧ fset dep n (dep p + 1) n = fset dep n (dep p + 1) (fset s.par n p n) + 1))
      rw [fset_eq, fset_eq, fset_ne _ _ (hne p hp.2.2), fset_ne _ _ (hne p hp.2.2)]
      have := (h.D.d p hp.1 hp.2.1 hp.2.2).2.1
      exact ⟨by omega, by omega, .inr ⟨hp.1, hp.2.1, hp.2.2, rfl⟩⟩
    · have hn' : s.here n = true := by
        have : fset s.here k true n = true := hn
        rwa [fset_ne _ _ hnk] at this
      show 1 ≤ fset dep k (dep p + 1) n ∧ fset dep k (dep p + 1) n ≤ 4 ∧ ((fset s.par k p n = -1 ∧ fset dep k (dep p + 1) n = 1) ∨ (0 ≤ fset s.par k p n ∧ fset s.par k p n < 6 ∧ fset s.here k true (fset s.par k p n) = true ∧ fset dep k (dep p + 1) n = fset dep k (dep p + 1) (fset s.par k p n) + 1))
      rw [fset_ne _ _ hnk, fset_ne _ _ hnk]
      obtain ⟨a1, a2, a3⟩ := h.D.d n h0 h6 hn'
      refine ⟨a1, a2, ?_⟩
      rcases a3 with a3 | ⟨b1, b2, b3, b4⟩
      · exact .inl a3
      · rw [fset_ne _ _ (hne _ b3), fset_ne _ _ (hne _ b3)]
        exact .inr ⟨b1, b2, b3, b4⟩
  · have : fset s.here k true m = false := hm
    by_cases hmk : m = k
    · rw [hmk, fset_eq] at this; cases this
    · rw [fset_ne _ _ hmk] at this; exact h.A m this j
  · obtain ⟨_, a2⟩ := hloc x x0 x1 x2
    show fset s.here k true (s.loc x) = true
    rw [fset_ne _ _ (hne _ a2)]; exact a2
  · obtain ⟨a1, a2, a3, a4, a5⟩ := h.mem m q x x0 hx
    obtain ⟨b1, b2⟩ := hloc x x0 a1 a4
    exact ⟨a1, a2, a3, a4, by rw [hway _ a4 b1 b2]; exact a5⟩
  · obtain ⟨b1, b2⟩ := hloc x x0 x1 x2
    rw [hway _ x2 b1 b2] at hm
    exact h.has x x0 x1 x2 m hm
theorem SS.add_cases (s : SS) (dep : Int → Nat) (p : Int) : ((s.add dep p).2.1 ≠ 0 ∧ (s.add dep p).1 = 0 ∧ (s.add dep p).2.2 = s) ∨ (∃ k, s.is p = 0 ∧ ¬ dep p = 4 ∧ (0 ≤ k ∧ k < 6) ∧ s.here k = false ∧ s.add dep p = (k, 0, { s with here := fset s.here k true, par := fset s.par k p })) := by
  unfold SS.add
  by_cases h1 : s.is p ≠ 0
  · rw [if_pos h1]; exact .inl ⟨h1, rfl, rfl⟩
  · rw [if_neg h1]
    by_cases h2 : dep p = 4
    · rw [if_pos h2]; exact .inl ⟨by simp, rfl, rfl⟩
    · rw [if_neg h2]
      cases hf : firstN (fun k => !s.here k) 6 with
      | none => exact .inl ⟨by simp, rfl, rfl⟩
      | some k =>
        unfold firstN at hf
        have h3 := List.find?_some hf
        have h4 := List.mem_range.1 (List.mem_of_find?_eq_some hf)
        exact .inr ⟨k, by omega, h2, by omega, by simpa using h3, rfl⟩
theorem SS.Inv.add {s : SS} {dep : Int → Nat} (h : s.Inv dep) (p : Int) : (s.add dep p).2.2.Inv (s.depA dep p) := by
  unfold SS.depA
  rcases s.add_cases dep p with ⟨h1, _, h2⟩ | ⟨k, h1, h2, h3, h4, h5⟩
  · rw [if_neg h1, h2]; exact h
  · rw [h5, if_pos rfl]
    rcases s.is_cases p with ⟨_, q1, q2, q3⟩ | ⟨q, _⟩ | ⟨q, _⟩
    · exact h.added ⟨q1, q2, q3⟩ h2 h3 h4
    · omega
    · omega
theorem membersL_none {f : Int → Int} : ∀ {k : Nat}, ¬ (membersL f k).length > 0 → ∀ j : Nat, j < k → f j < 0
  | 0, _, j, hj => by omega
  | k + 1, h, j, hj => by
    simp only [membersL, List.length_append] at h
    by_cases hk : j = k
    · subst hk
      by_cases hf : f j ≥ 0
      · rw [if_pos hf] at h; simp at h
      · omega
    · exact membersL_none (k := k) (by omega) j (by omega)
theorem SS.Inv.none_in {s : SS} {dep : Int → Nat} (h : s.Inv dep) {n : Int} (hm : ¬ (s.members n).length > 0) (j : Int) : s.who n j = -1 := by
  have h0 := h.lo n j
  by_cases hj : 0 ≤ s.who n j
  · obtain ⟨_, a2, a3, _⟩ := h.mem n j _ hj rfl
    have := membersL_none hm j.toNat (by omega)
    rw [show ((j.toNat : Nat) : Int) = j from by omega] at this
    omega
  · omega
theorem SS.Inv.dropped {s : SS} {dep : Int → Nat} (h : s.Inv dep) {n : Int} (hm : ¬ (s.members n).length > 0) (hk : ∀ j : Int, 0 ≤ j → j < 6 → ¬ (s.here j = true ∧ s.par j = n)) :
    ({ s with here := fset s.here n false, par := fset s.par n 0 } : SS).Inv dep := by
  have hh : ∀ m, fset s.here n false m = true → ¬ m = n ∧ s.here m = true := fun m hm => by
    by_cases q : m = n
    · rw [q, fset_eq] at hm; cases hm
    · rw [fset_ne _ _ q] at hm; exact ⟨q, hm⟩
  have hD : ({ s with here := fset s.here n false, par := fset s.par n 0 } : SS).Deep dep := ⟨fun m h0 h6 hm2 => by
    obtain ⟨q1, q2⟩ := hh m hm2
    obtain ⟨a1, a2, a3⟩ := h.D.d m h0 h6 q2
    refine ⟨a1, a2, ?_⟩
    show (fset s.par n 0 m = -1 ∧ _) ∨ (0 ≤ fset s.par n 0 m ∧ fset s.par n 0 m < 6 ∧ fset s.here n false (fset s.par n 0 m) = true ∧ dep m = dep (fset s.par n 0 m) + 1)
    rw [fset_ne _ _ q1]
    rcases a3 with a3 | ⟨b1, b2, b3, b4⟩
    · exact .inl a3
    · refine .inr ⟨b1, b2, ?_, b4⟩
      rw [fset_ne _ _ (fun e => hk m h0 h6 ⟨q2, e⟩)]
      exact b3⟩
  have hno := h.none_in hm
  have hln : ∀ x, 0 ≤ x → x < 20 → 0 ≤ s.loc x → ¬ s.loc x = n := by
    intro x x0 x1 x2 e
    have b1 := (h.D.d _ x2 (h.loc x).2 (h.at_ x x0 x1 x2)).1
    have hin : n ∈ s.way dep (s.loc x) := by
      unfold SS.way
      obtain ⟨d, hd⟩ : ∃ d, dep (s.loc x) = d + 1 := ⟨dep (s.loc x) - 1, by omega⟩
      rw [hd, SS.wayF, e]; simp
    obtain ⟨q, hq⟩ := h.has x x0 x1 x2 n hin
    have := hno q
    omega
  have hway : ∀ m, 0 ≤ m → m < 6 → fset s.here n false m = true → ({ s with here := fset s.here n false, par := fset s.par n 0 } : SS).way dep m = s.way dep m := fun m h0 h6 hm2 => by
    unfold SS.way
    exact (SS.way_eq (s := ({ s with here := fset s.here n false, par := fset s.par n 0 } : SS)) (s' := s) (dep' := dep) hD (fun m' _ _ hm' => (fset_ne s.par 0 (hh m' hm').1).symm) _ m rfl h0 h6 hm2).symm
  have hloc : ∀ x, 0 ≤ x → x < 20 → 0 ≤ s.loc x → s.loc x < 6 ∧ fset s.here n false (s.loc x) = true := fun x x0 x1 x2 => ⟨(h.loc x).2, by rw [fset_ne _ _ (hln x x0 x1 x2)]; exact h.at_ x x0 x1 x2⟩
  refine ⟨hD, fun m hm2 j => ?_, h.z, h.lo, h.loc, fun x x0 x1 x2 => (hloc x x0 x1 x2).2, fun m q x x0 hx => ?_, h.inj, fun x x0 x1 x2 m hm2 => ?_⟩
  · by_cases q : m = n
    · subst q; exact hno j
    · have : fset s.here n false m = false := hm2
      rw [fset_ne _ _ q] at this; exact h.A m this j
  · obtain ⟨a1, a2, a3, a4, a5⟩ := h.mem m q x x0 hx
    obtain ⟨b1, b2⟩ := hloc x x0 a1 a4
    exact ⟨a1, a2, a3, a4, by rw [hway _ a4 b1 b2]; exact a5⟩
  · obtain ⟨b1, b2⟩ := hloc x x0 x1 x2
    rw [hway _ x2 b1 b2] at hm2
    exact h.has x x0 x1 x2 m hm2
theorem SS.Inv.drop {s : SS} {dep : Int → Nat} (h : s.Inv dep) (n : Int) : (s.drop n).2.Inv dep := by
  unfold SS.drop
  by_cases h1 : s.is n ≠ 0
  · rw [if_pos h1]; exact h
  · rw [if_neg h1]
    by_cases h2 : n = 0 ∨ (s.members n).length > 0
    · rw [if_pos h2]; exact h
    · rw [if_neg h2]
      cases hf : s.kids n with
      | some k => exact h
      | none =>
        refine h.dropped (by omega) (fun j h3 h4 => ?_)
        unfold SS.kids firstN at hf
        have := List.find?_eq_none.1 hf j.toNat (List.mem_range.2 (by omega))
        rw [show ((j.toNat : Nat) : Int) = j from by omega] at this
        simp at this
        rintro ⟨e1, e2⟩
        exact this e1 e2
theorem SS.add_nn (s : SS) (dep : Int → Nat) (p : Int) : 0 ≤ (s.add dep p).2.1 := by
  by_cases h1 : s.is p ≠ 0
  · rw [SS.add_err h1]
    rcases s.is_cases p with ⟨q, _⟩ | ⟨q, _⟩ | ⟨q, _⟩ <;> simp only [q] <;> omega
  · rcases s.add_cases dep p with ⟨h2, h3, h4⟩ | ⟨k, _, _, _, _, h5⟩
    · unfold SS.add
      rw [if_neg h1]
      split
      · simp
      · split <;> simp
    · rw [h5]; simp
theorem SS.is_nn (s : SS) (p : Int) : 0 ≤ s.is p := by
  rcases s.is_cases p with ⟨q, _⟩ | ⟨q, _⟩ | ⟨q, _⟩ <;> omega
theorem SS.drop_nn (s : SS) (n : Int) : 0 ≤ (s.drop n).1 := by
  unfold SS.drop
  split
  · exact s.is_nn n
  · split
    · simp
    · split <;> simp
theorem SS.pid_nn (s : SS) (p n : Int) : 0 ≤ (s.pid p n).2 := by
  unfold SS.pid
  split
  · exact s.is_nn n
  · split
    · simp
    · split <;> simp
theorem SS.find_nn (s : SS) (n q : Int) : 0 ≤ (s.find n q).2 := by
  unfold SS.find
  split
  · exact s.is_nn n
  · split
    · simp
    · split <;> simp
theorem SS.mem_nn (s : SS) (n : Int) : 0 ≤ (s.mem n).2 := by
  unfold SS.mem
  split
  · exact s.is_nn n
  · simp
theorem SS.enter_nn (s : SS) (dep : Int → Nat) (n p : Int) : 0 ≤ (s.enter dep n p).2.1 := by
  unfold SS.enter
  split
  · exact s.is_nn n
  · split
    · simp
    · split
      · simp
      · exact SS.pid_nn _ _ _
theorem SS.leave_nn (s : SS) (p : Int) : 0 ≤ (s.leave p).1 := by
  unfold SS.leave
  split
  · exact SS.Inv.in_nn p
  · simp
theorem SS.Inv.bnd {s : SS} {dep : Int → Nat} (h : s.Inv dep) (n q : Int) : -1 ≤ s.who n q ∧ s.who n q < 20 := by
  refine ⟨h.lo n q, ?_⟩
  by_cases h0 : 0 ≤ s.who n q
  · exact (h.mem n q _ h0 rfl).1
  · omega
theorem SS.drop_any {s : SS} {n : Int} (h : s.is n = 0) (he : ∃ j : Int, 0 ≤ j ∧ j < 6 ∧ s.here j = true ∧ s.par j = n) : s.drop n = (5, s) := by
  unfold SS.drop
  rw [if_neg (by simp [h])]
  split
  · rfl
  · cases hk : s.kids n with
    | some k => rfl
    | none =>
      exfalso
      obtain ⟨j, h1, h2, h3, h4⟩ := he
      unfold SS.kids firstN at hk
      have := List.find?_eq_none.1 hk j.toNat (List.mem_range.2 (by omega))
      rw [show ((j.toNat : Nat) : Int) = j from by omega] at this
      simp [h3, h4] at this
theorem SS.mem_ok {s : SS} {n : Int} (h : s.is n = 0) : s.mem n = (s.members n, 0) := by unfold SS.mem; rw [if_neg (by simp [h])]
theorem SS.mem_err {s : SS} {n : Int} (h : s.is n ≠ 0) : s.mem n = ([], s.is n) := by unfold SS.mem; rw [if_pos h]
theorem SS.Inv.entered_free {s : SS} {dep : Int → Nat} (h : s.Inv dep) {n p z : Int} {w : Int → Int → Int} (hn : 0 ≤ n ∧ n < 6 ∧ s.here n = true) (hz : 0 ≤ z ∧ z < (s.way dep n).length) (hw : ∀ a ∈ (s.way dep n).drop z.toNat, w a = s.who a) (k : Int) (v : Int) :
    w (at0 (s.way dep n) z) = s.who (at0 (s.way dep n) z) ∧ (∀ a ∈ (s.way dep n).drop (z + 1).toNat, fset2 w (at0 (s.way dep n) z) k v a = s.who a) := by
  have hd := drop_at0 hz
  have hnd : ((s.way dep n).drop z.toNat).Nodup := (List.drop_sublist _ _).nodup (SS.way_nodup h.D _ n rfl hn.1 hn.2.1 hn.2.2)
  rw [hd] at hnd hw
  have hno := (List.nodup_cons.1 hnd).1
  refine ⟨hw _ (by simp), fun a ha => ?_⟩
  have hne : ¬ a = at0 (s.way dep n) z := by rintro rfl; exact hno ha
  rw [← hw a (by simp [ha])]
  funext q
  rw [fset2_ne _ _ (.inl hne)]
theorem SS.mem_len (s : SS) (n : Int) : (s.mem n).1.length ≤ 21 := by
  unfold SS.mem
  split
  · simp
  · exact membersL_length _ _
/-! ### what TopSpaces looks at -/
def SS.whereL (s : SS) (dep : Int → Nat) (p : Int) : List Int := if 0 ≤ s.loc p then s.way dep (s.loc p) else []
theorem SS.Inv.pid_iff {s : SS} {dep : Int → Nat} (h : s.Inv dep) {p n : Int} (hp : 0 ≤ p ∧ p < 20) (hn : 0 ≤ n ∧ n < 6 ∧ s.here n = true) :
    ((s.pid p n).2 = 0 ↔ n ∈ s.whereL dep p) ∧ ((s.pid p n).2 = 0 → 1 ≤ (s.pid p n).1 ∧ (s.pid p n).1 ≤ 20 ∧ s.find n (s.pid p n).1 = (p, 0)) := by
  have hi : s.is n = 0 := by
    rcases s.is_cases n with ⟨q, _⟩ | ⟨_, q⟩ | ⟨_, _, _, q⟩
    · exact q
    · omega
    · rw [hn.2.2] at q; cases q
  have key : (s.pid p n).2 = 0 → ∃ q, s.pid p n = (q, 0) ∧ s.who n q = p := by
    unfold SS.pid
    rw [if_neg (by simp [hi]), if_neg (by omega)]
    cases hf : firstN (fun q => s.who n q == p) 21 with
    | none => simp
    | some q =>
      intro _
      unfold firstN at hf
      have := List.find?_some hf
      exact ⟨q, rfl, by simpa using this⟩
  have back : ∀ q, s.who n q = p → (s.pid p n).2 = 0 := fun q hq => by
    obtain ⟨_, a2, a3, _⟩ := h.mem n q p hp.1 hq
    unfold SS.pid
    rw [if_neg (by simp [hi]), if_neg (by omega)]
    cases hf : firstN (fun q => s.who n q == p) 21 with
    | some q => rfl
    | none =>
      exfalso
      unfold firstN at hf
      have := List.find?_eq_none.1 hf q.toNat (List.mem_range.2 (by omega))
      rw [show ((q.toNat : Nat) : Int) = q from by omega] at this
      simp [hq] at this
  refine ⟨⟨fun h1 => ?_, fun h1 => ?_⟩, fun h1 => ?_⟩
  · obtain ⟨q, _, h3⟩ := key h1
    obtain ⟨_, _, _, a4, a5⟩ := h.mem n q p hp.1 h3
    unfold SS.whereL
    rw [if_pos a4]; exact a5
  · unfold SS.whereL at h1
    by_cases c : 0 ≤ s.loc p
    · rw [if_pos c] at h1
      obtain ⟨q, hq⟩ := h.has p hp.1 hp.2 c n h1
      exact back q hq
    · rw [if_neg c] at h1; cases h1
  · obtain ⟨q, h2, h3⟩ := key h1
    obtain ⟨_, a2, a3, _⟩ := h.mem n q p hp.1 h3
    rw [h2]
    refine ⟨by show 1 ≤ q; omega, by show q ≤ 20; omega, ?_⟩
    show s.find n q = (p, 0)
    rw [SS.find_ok hi (by omega) (by omega), h3]
structure TS (s : SS) (dep : Int → Nat) (f : Int → Int) : Prop where
  inv : s.Inv dep
  root : s.here 0 = true
  par : ∀ n, s.here n = true → f n = s.par n
theorem TS.init : TS SS.init (fun _ => 1) (fset (fun _ => 0) 0 (-1)) where
  inv := SS.Inv.init
  root := rfl
  par := fun _ _ => rfl
theorem TS.add {s : SS} {dep : Int → Nat} {f : Int → Int} (h : TS s dep f) {p : Int} (he : (s.add dep p).2.1 = 0) : 1 ≤ (s.add dep p).1 ∧ (s.add dep p).1 ≤ 5 ∧ TS (s.add dep p).2.2 (s.depA dep p) (fset f (s.add dep p).1 p) := by
  have hi := h.inv.add p
  rcases s.add_cases dep p with ⟨h1, _, h2⟩ | ⟨k, h1, h2, h3, h4, h5⟩
  · exact absurd he h1
  · rw [h5] at hi ⊢
    have hk : ¬ k = 0 := by rintro rfl; rw [h.root] at h4; cases h4
    refine ⟨by simp only []; omega, by simp only []; omega, hi, ?_, fun n hn => ?_⟩
    · show fset s.here k true 0 = true
      rw [fset_ne _ _ (by omega)]; exact h.root
    · have hn' : fset s.here k true n = true := hn
      show fset f k p n = fset s.par k p n
      by_cases q : n = k
      · rw [q, fset_eq, fset_eq]
      · rw [fset_ne _ _ q, fset_ne _ _ q]
        rw [fset_ne _ _ q] at hn'
        exact h.par n hn'
theorem TS.add_err {s : SS} {dep : Int → Nat} {f : Int → Int} (h : TS s dep f) {p : Int} (he : ¬ (s.add dep p).2.1 = 0) : TS (s.add dep p).2.2 (s.depA dep p) f := by
  have hi := h.inv.add p
  rcases s.add_cases dep p with ⟨h1, _, h2⟩ | ⟨k, h1, h2, h3, h4, h5⟩
  · rw [h2] at hi ⊢; exact ⟨hi, h.root, h.par⟩
  · rw [h5] at he; exact absurd rfl he
theorem TS.drop {s : SS} {dep : Int → Nat} {f : Int → Int} (h : TS s dep f) (n : Int) : TS (s.drop n).2 dep f := by
  refine ⟨h.inv.drop n, ?_, fun m hm => ?_⟩
  · unfold SS.drop
    split
    · exact h.root
    · split
      · exact h.root
      · rename_i q
        split
        · exact h.root
        · show fset s.here n false 0 = true
          rw [fset_ne _ _ (by omega)]; exact h.root
  · unfold SS.drop at hm ⊢
    split
    · rename_i q; rw [if_pos q] at hm; exact h.par m hm
    · rename_i q; rw [if_neg q] at hm
      split
      · rename_i q2; rw [if_pos q2] at hm; exact h.par m hm
      · rename_i q2; rw [if_neg q2] at hm
        cases hk : s.kids n with
        | some k => rw [hk] at hm; exact h.par m hm
        | none =>
          rw [hk] at hm
          have hm' : fset s.here n false m = true := hm
          show f m = fset s.par n 0 m
          by_cases c : m = n
          · rw [c, fset_eq] at hm'; cases hm'
          · rw [fset_ne _ _ c] at hm' ⊢; exact h.par m hm'
theorem TS.enter {s : SS} {dep : Int → Nat} {f : Int → Int} (h : TS s dep f) (n p : Int) : TS (s.enter dep n p).2.2 dep f := by
  have hh : (s.enter dep n p).2.2.here = s.here ∧ (s.enter dep n p).2.2.par = s.par := by
    unfold SS.enter
    split
    · exact ⟨rfl, rfl⟩
    · split
      · exact ⟨rfl, rfl⟩
      · split <;> exact ⟨rfl, rfl⟩
  exact ⟨h.inv.enter n p, by rw [hh.1]; exact h.root, by rw [hh.1, hh.2]; exact h.par⟩
theorem TS.leave {s : SS} {dep : Int → Nat} {f : Int → Int} (h : TS s dep f) (p : Int) : TS (s.leave p).2 dep f := by
  have hh : (s.leave p).2.here = s.here ∧ (s.leave p).2.par = s.par := by
    unfold SS.leave
    split <;> exact ⟨rfl, rfl⟩
  exact ⟨h.inv.leave p, by rw [hh.1]; exact h.root, by rw [hh.1, hh.2]; exact h.par⟩
theorem allL_mem {f : Int → Bool} : ∀ {k : Nat} {a : Int}, a ∈ allL f k → 0 ≤ a ∧ a < k ∧ f a = true
  | 0, a, h => by simp [allL] at h
  | k + 1, a, h => by
    simp only [allL, List.mem_append] at h
    rcases h with h | h
    · have := allL_mem h; exact ⟨this.1, by omega, this.2.2⟩
    · by_cases c : f k = true
      · rw [if_pos c] at h
        have : a = k := by simpa using h
        subst this
        exact ⟨by omega, by omega, c⟩
      · rw [if_neg c] at h; cases h
theorem mem_snoc (l : List Int) (z : Int) : (fun a => decide (a ∈ l ++ [z])) = fset (fun a => decide (a ∈ l)) z true := by
  funext a
  unfold fset
  by_cases q : a = z
  · rw [if_pos q, q]; simp
  · rw [if_neg q]; simp [q]
theorem mem_nil : (fun a : Int => decide (a ∈ ([] : List Int))) = fun _ => false := by funext a; simp

end Go.X
