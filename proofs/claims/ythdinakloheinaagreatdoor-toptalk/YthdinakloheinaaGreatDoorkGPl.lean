import Derived.Test.YthdinakloheinaaGreatDoorkGM
namespace Go.X.Gr
open Go Go.X
/-! ### sums -/
theorem sumN_congr {f g : Int → Int} : ∀ (k : Nat), (∀ j : Int, 0 ≤ j → j < k → f j = g j) → sumN f k = sumN g k
  | 0, _ => rfl
  | k + 1, h => by
    simp only [sumN]
    rw [sumN_congr k (fun j h0 h1 => h j h0 (by omega)), h (k : Int) (by omega) (by omega)]
theorem sumN_add (f g : Int → Int) : ∀ (k : Nat), sumN (fun j => f j + g j) k = sumN f k + sumN g k
  | 0 => rfl
  | k + 1 => by simp only [sumN]; rw [sumN_add f g k]; omega
theorem sumN_mul (p : Int) (f : Int → Int) : ∀ (k : Nat), sumN (fun j => p * f j) k = p * sumN f k
  | 0 => by simp [sumN]
  | k + 1 => by simp only [sumN]; rw [sumN_mul p f k, Int.mul_add]
theorem sumN_zero {f : Int → Int} : ∀ (k : Nat), (∀ j : Int, 0 ≤ j → j < k → f j = 0) → sumN f k = 0
  | 0, _ => rfl
  | k + 1, h => by
    simp only [sumN]
    rw [sumN_zero k (fun j h0 h1 => h j h0 (by omega)), h (k : Int) (by omega) (by omega)]; rfl
theorem sumN_nn {f : Int → Int} : ∀ (k : Nat), (∀ j : Int, 0 ≤ j → j < k → 0 ≤ f j) → 0 ≤ sumN f k
  | 0, _ => Int.le_refl 0
  | k + 1, h => by
    have h1 := sumN_nn k (fun j h0 h1 => h j h0 (by omega))
    have h2 := h (k : Int) (by omega) (by omega)
    simp only [sumN]; omega
theorem sumN_single (v n : Int) (h0 : 0 ≤ n) : ∀ (k : Nat), sumN (fun j => if j = n then v else 0) k = if n < k then v else 0
  | 0 => by simp only [sumN]; rw [if_neg (by omega)]
  | k + 1 => by
    simp only [sumN]
    rw [sumN_single v n h0 k]
    by_cases h : (k : Int) = n
    · rw [if_neg (by omega), if_pos h, if_pos (by omega)]; omega
    · rw [if_neg h]
      by_cases h2 : n < k
      · rw [if_pos h2, if_pos (by omega)]; omega
      · rw [if_neg h2, if_neg (by omega)]; omega
namespace TG
theorem Ok.kid_here {s : TG} (h : s.Ok) {n : Int} (h0 : 0 ≤ n) (h1 : n < 10) (h2 : s.here n = true) (h3 : n ≠ 0) : 0 ≤ s.par n ∧ s.par n < 10 ∧ s.here (s.par n) = true := by
  obtain ⟨d, _, hd⟩ := h.rank
  obtain ⟨_, _, h4⟩ := hd n h0 h1 h2
  exact ⟨(h4 h3).1, (h4 h3).2.1, (h4 h3).2.2.1⟩
/-- what is charged to a group itself is no less than nothing -/ structure Inv (s : TG) : Prop where
  ok : s.Ok
  own : ∀ n, 0 ≤ n → n < 10 → s.here n = true → 0 ≤ s.left s.pr n ∧ 0 ≤ s.left s.pg n
theorem nn_of {s : TG} (h : s.Ok) {f : Int → Int} (ho : ∀ n, 0 ≤ n → n < 10 → s.here n = true → 0 ≤ s.left f n) {n : Int} (h0 : 0 ≤ n) (h1 : n < 10) (h2 : s.here n = true) : 0 ≤ f n := by
  obtain ⟨d, d0, hd⟩ := h.rank
  have key : ∀ (k : Nat) (n : Int), 0 ≤ n → n < 10 → s.here n = true → 4 - d n ≤ k → 0 ≤ f n := by
    intro k
    induction k with
    | zero =>
      intro n h0 h1 h2 hk
      have h3 := ho n h0 h1 h2
      unfold left at h3
      rw [sumN_zero 10 (fun j j0 j1 => by
        unfold kid
        refine if_neg (fun q => ?_)
        have h4 := hd j j0 (by omega) q.1
        have h5 := hd n h0 h1 h2
        by_cases hj : j = 0
        · subst hj
          have := h.root.2
          rw [q.2] at this; omega
        · have := (h4.2.2 hj).2.2.2
          rw [q.2] at this; omega)] at h3
      omega
    | succ k ih =>
      intro n h0 h1 h2 hk
      have h3 := ho n h0 h1 h2
      unfold left at h3
      have h6 := sumN_nn (f := s.kid f n) 10 (fun j j0 j1 => by
        unfold kid
        split
        · rename_i q
          have h4 := hd j j0 (by omega) q.1
          refine ih j j0 (by omega) q.1 ?_
          by_cases hj : j = 0
          · subst hj
            have := h.root.2
            rw [q.2] at this; omega
          · have := (h4.2.2 hj).2.2.2
            rw [q.2] at this; omega
        · omega)
      omega
  exact key 4 n h0 h1 h2 (by omega)
theorem Inv.nn {s : TG} (h : s.Inv) {n : Int} (h0 : 0 ≤ n) (h1 : n < 10) (h2 : s.here n = true) : 0 ≤ s.pr n ∧ 0 ≤ s.pg n :=
  ⟨nn_of h.ok (fun n a b c => (h.own n a b c).1) h0 h1 h2, nn_of h.ok (fun n a b c => (h.own n a b c).2) h0 h1 h2⟩
/-- how often x and its children come in a way -/ theorem count_way {s : TG} : ∀ (l : List Int) (n x : Int), IsWay s.par n l → (∀ y ∈ l, s.here y = true) → 0 ≤ x →
    (l.count x : Int) - sumN (fun k => if s.here k = true ∧ s.par k = x then (l.count k : Int) else 0) 10 = if x = n then 1 else 0
  | [], n, x, hw, _, hx => by
    have hn : n < 0 := hw
    rw [sumN_zero 10 (fun j _ _ => by simp)]
    simp; omega
  | y :: r, n, x, hw, hh, hx => by
    obtain ⟨e1, h0, h1, h2⟩ := hw
    subst e1
    have ih := count_way r (s.par y) x h2 (fun z hz => hh z (List.mem_cons_of_mem _ hz)) hx
    have hy := hh y (by simp)
    have e2 : sumN (fun k => if s.here k = true ∧ s.par k = x then ((y :: r).count k : Int) else 0) 10 = sumN (fun k => if s.here k = true ∧ s.par k = x then (r.count k : Int) else 0) 10 + sumN (fun k => if k = y then (if s.par y = x then 1 else 0) else 0) 10 := by
      rw [← sumN_add]
      refine sumN_congr 10 (fun j j0 j1 => ?_)
      by_cases hj : j = y
      · subst hj
        rw [List.count_cons_self]
        by_cases hp : s.par j = x
        · simp only [hy, hp, and_self, if_true]; push_cast; omega
        · simp [hp]
      · rw [List.count_cons_of_ne (fun e => hj e.symm), if_neg hj]; omega
    rw [e2, sumN_single _ _ h0, if_pos (by omega)]
    by_cases hx2 : x = y
    · subst hx2
      rw [List.count_cons_self, if_pos rfl]
      push_cast
      by_cases h3 : x = s.par x
      · rw [if_pos h3] at ih; rw [if_pos h3.symm]; omega
      · rw [if_neg h3] at ih; rw [if_neg (fun e => h3 e.symm)]; omega
    · rw [List.count_cons_of_ne (fun e => hx2 e.symm), if_neg hx2]
      by_cases h3 : x = s.par y
      · rw [if_pos h3] at ih; rw [if_pos h3.symm]; omega
      · rw [if_neg h3] at ih; rw [if_neg (fun e => h3 e.symm)]; omega
theorem left_lay {s : TG} (h : s.Ok) {n : Int} (h0 : 0 ≤ n) (h1 : n < 10) (h2 : s.here n = true) (f : Int → Int) (p : Int) {x : Int} (hx : 0 ≤ x) :
    s.left (fun y => f y + p * ((s.way n).count y : Int)) x = s.left f x + if x = n then p else 0 := by
  obtain ⟨w1, _, w3⟩ := h.way h0 h1 h2
  have hc := count_way (s := s) (s.way n) n x w1 w3 hx
  unfold left
  have e : sumN (s.kid (fun y => f y + p * ((s.way n).count y : Int)) x) 10 = sumN (s.kid f x) 10 + p * sumN (fun k => if s.here k = true ∧ s.par k = x then ((s.way n).count k : Int) else 0) 10 := by
    rw [← sumN_mul, ← sumN_add]
    refine sumN_congr 10 (fun j _ _ => ?_)
    unfold kid
    split
    · rfl
    · simp
  rw [e]
  have e3 : p * ((s.way n).count x : Int) = p * sumN (fun k => if s.here k = true ∧ s.par k = x then ((s.way n).count k : Int) else 0) 10 + (if x = n then p else 0) := by
    have : ((s.way n).count x : Int) = sumN (fun k => if s.here k = true ∧ s.par k = x then ((s.way n).count k : Int) else 0) 10 + (if x = n then 1 else 0) := by omega
    rw [this, Int.mul_add]
    split <;> simp
  show f x + p * ((s.way n).count x : Int) - _ = _
  omega
theorem Inv.lay {s : TG} (h : s.Inv) {n : Int} (h0 : 0 ≤ n) (h1 : n < 10) (h2 : s.here n = true) {p m : Int} (hp : 0 ≤ s.left s.pr n + p) (hm : 0 ≤ s.left s.pg n + m) : (s.lay (s.way n) p m).Inv := by
  refine ⟨h.ok.lay _ _ _, fun x x0 x1 x2 => ?_⟩
  have a := left_lay h.ok h0 h1 h2 s.pr p x0
  have b := left_lay h.ok h0 h1 h2 s.pg m x0
  have c := h.own x x0 x1 x2
  have a2 : (s.lay (s.way n) p m).left (s.lay (s.way n) p m).pr x = s.left s.pr x + if x = n then p else 0 := a
  have b2 : (s.lay (s.way n) p m).left (s.lay (s.way n) p m).pg x = s.left s.pg x + if x = n then m else 0 := b
  rw [a2, b2]
  by_cases hx : x = n
  · subst hx; rw [if_pos rfl, if_pos rfl]; exact ⟨hp, hm⟩
  · rw [if_neg hx, if_neg hx]; omega
theorem Inv.charge {s : TG} (h : s.Inv) (n p m : Int) : (s.charge n p m).Inv := by
  unfold TG.charge; split
  · rename_i h0
    obtain ⟨⟨n0, n1, n2⟩, p0, p1, m0, m1⟩ := chargeE_0 h0
    have := h.own n n0 n1 n2
    exact h.lay n0 n1 n2 (by omega) (by omega)
  · exact h
theorem unchE_left {s : TG} {n p m : Int} (h : s.unchE n p m = 0) : p ≤ s.left s.pr n ∧ m ≤ s.left s.pg n := by
  unfold unchE at h
  split at h
  · omega
  · split at h
    · assumption
    · omega
theorem Inv.unch {s : TG} (h : s.Inv) (n p m : Int) : (s.unch n p m).Inv := by
  unfold TG.unch; split
  · rename_i h0
    obtain ⟨⟨n0, n1, n2⟩, p0, p1, m0, m1⟩ := unchE_0 h0
    have := unchE_left h0
    exact h.lay n0 n1 n2 (by omega) (by omega)
  · exact h
theorem Inv.move {s : TG} (h : s.Inv) (a b p m : Int) : (s.move a b p m).Inv := by
  unfold TG.move; split
  · exact h
  · split
    · exact (h.unch _ _ _).charge _ _ _
    · exact h
theorem Inv.limit {s : TG} (h : s.Inv) (n p m : Int) : (s.limit n p m).Inv := by
  unfold TG.limit; split
  · exact ⟨⟨h.ok.root, h.ok.rank⟩, h.own⟩
  · exact h
theorem addE_0 {s : TG} {a : Int} (h : s.addE a = 0) : s.isE a = 0 ∧ ¬ (s.way a).length = 4 ∧ 0 ≤ s.addN a ∧ s.addN a < 10 ∧ s.here (s.addN a) = false ∧ s.free = some (s.addN a).toNat := by
  have h' := h
  unfold addE at h
  split at h
  · omega
  · split at h
    · omega
    · split at h
      · omega
      · rename_i h1 h2 h3
        cases hf : s.free with
        | none => exact absurd hf h3
        | some k =>
          have e : s.addN a = (k : Int) := by unfold addN; rw [if_pos h', hf]; rfl
          have hf2 := hf
          unfold free firstN at hf2
          rw [List.find?_range_eq_some] at hf2
          have hk : k < 10 := by simpa using hf2.2.1
          have hh : s.here (k : Int) = false := by simpa using hf2.1
          rw [e]
          exact ⟨by omega, h2, by omega, by omega, hh, by simp⟩
theorem Ok.len {s : TG} (h : s.Ok) {d : Int → Nat} (d0 : d 0 = 1) (hd : ∀ n, 0 ≤ n → n < 10 → s.here n = true → 1 ≤ d n ∧ d n ≤ 4 ∧ (n ≠ 0 → 0 ≤ s.par n ∧ s.par n < 10 ∧ s.here (s.par n) = true ∧ d n = d (s.par n) + 1)) {n : Int} (h0 : 0 ≤ n) (h1 : n < 10) (h2 : s.here n = true) : (s.way n).length = d n :=
  (h.isWay 5 (d n) (by have := (hd n h0 h1 h2).2.1; omega) d d0 hd n h0 h1 h2 rfl).2.1
theorem Ok.put {s : TG} (h : s.Ok) {a k : Int} (ha : s.isE a = 0) (hl : ¬ (s.way a).length = 4) (k0 : 0 ≤ k) (k1 : k < 10) (hk : s.here k = false) : (s.put k a).Ok := by
  obtain ⟨a0, a1, a2⟩ := isE_ok ha
  obtain ⟨d, d0, hd⟩ := h.rank
  have hlen := h.len d0 hd a0 a1 a2
  have hda := hd a a0 a1 a2
  have hk0 : k ≠ 0 := fun e => by subst e; rw [h.root.1] at hk; cases hk
  have hka : a ≠ k := fun e => by subst e; rw [a2] at hk; cases hk
  refine ⟨⟨?_, ?_⟩, fun x => if x = k then d a + 1 else d x, ?_, fun n n0 n1 n2 => ?_⟩
  · show fset s.here k true 0 = true
    rw [fset_ne _ _ (Ne.symm hk0)]; exact h.root.1
  · show fset s.par k a 0 = -1
    rw [fset_ne _ _ (Ne.symm hk0)]; exact h.root.2
  · show (if (0 : Int) = k then d a + 1 else d 0) = 1
    rw [if_neg (Ne.symm hk0)]; exact d0
  · have e1 : (s.put k a).par n = fset s.par k a n := rfl
    have e2 : ∀ x, (s.put k a).here x = fset s.here k true x := fun _ => rfl
    show 1 ≤ (if n = k then d a + 1 else d n) ∧ (if n = k then d a + 1 else d n) ≤ 4 ∧ (n ≠ 0 → 0 ≤ (s.put k a).par n ∧ (s.put k a).par n < 10 ∧ (s.put k a).here ((s.put k a).par n) = true ∧ (if n = k then d a + 1 else d n) = (if (s.put k a).par n = k then d a + 1 else d ((s.put k a).par n)) + 1)
    by_cases hn : n = k
    · subst hn
      rw [if_pos rfl, e1, fset_eq, e2, fset_ne _ _ hka, if_neg hka]
      exact ⟨by omega, by omega, fun _ => ⟨a0, a1, a2, rfl⟩⟩
    · rw [e2, fset_ne _ _ hn] at n2
      have h4 := hd n n0 n1 n2
      rw [if_neg hn, e1, fset_ne _ _ hn]
      refine ⟨h4.1, h4.2.1, fun q => ?_⟩
      obtain ⟨p0, p1, p2, p3⟩ := h4.2.2 q
      have hpk : s.par n ≠ k := fun e => by rw [e, hk] at p2; cases p2
      rw [e2, fset_ne _ _ hpk, if_neg hpk]
      exact ⟨p0, p1, p2, p3⟩
theorem left_put {s : TG} (h : s.Ok) {a k : Int} (hk : s.here k = false) (f : Int → Int) {x : Int} (hx : s.here x = true) : (s.put k a).left (fset f k 0) x = s.left f x := by
  have hxk : x ≠ k := fun e => by subst e; rw [hx] at hk; cases hk
  unfold left
  rw [fset_ne _ _ hxk]
  congr 1
  refine sumN_congr 10 (fun j j0 j1 => ?_)
  unfold kid
  show (if fset s.here k true j = true ∧ fset s.par k a j = x then fset f k 0 j else 0) = _
  by_cases hj : j = k
  · subst hj; rw [fset_eq, fset_eq, fset_eq, hk]; simp
  · rw [fset_ne _ _ hj, fset_ne _ _ hj, fset_ne _ _ hj]
theorem left_new {s : TG} (h : s.Ok) {a k : Int} (hk : s.here k = false) (hk0 : 0 ≤ k) (hka : a ≠ k) (f : Int → Int) : (s.put k a).left (fset f k 0) k = 0 := by
  unfold left
  rw [fset_eq, sumN_zero]
  · rfl
  · intro j j0 j1
    unfold kid
    show (if fset s.here k true j = true ∧ fset s.par k a j = k then fset f k 0 j else 0) = 0
    by_cases hj : j = k
    · subst hj; rw [fset_eq, fset_eq, fset_eq]; simp
    · rw [fset_ne _ _ hj, fset_ne _ _ hj, fset_ne _ _ hj]
      refine if_neg (fun q => ?_)
      by_cases hj0 : j = 0
      · subst hj0; rw [h.root.2] at q; omega
      · have := (h.kid_here j0 (by omega) q.1 hj0).2.2
        rw [q.2, hk] at this; cases this
theorem Inv.add {s : TG} (h : s.Inv) (a : Int) : (s.add a).Inv := by
  unfold TG.add; split
  · rename_i h0
    obtain ⟨e1, e2, e3, e4, e5, _⟩ := addE_0 h0
    have hok := h.ok.put e1 e2 e3 e4 e5
    refine ⟨hok, fun x x0 x1 x2 => ?_⟩
    show 0 ≤ (s.put (s.addN a) a).left (fset s.pr (s.addN a) 0) x ∧ 0 ≤ (s.put (s.addN a) a).left (fset s.pg (s.addN a) 0) x
    by_cases hx : x = s.addN a
    · have ha : a ≠ s.addN a := fun e => by
        have := (isE_ok e1).2.2
        rw [e, e5] at this; cases this
      rw [hx, left_new h.ok e5 e3 ha, left_new h.ok e5 e3 ha]; omega
    · have hx2 : s.here x = true := by
        have : (s.put (s.addN a) a).here x = fset s.here (s.addN a) true x := rfl
        rw [this, fset_ne _ _ hx] at x2; exact x2
      rw [left_put h.ok e5 _ hx2, left_put h.ok e5 _ hx2]
      exact h.own x x0 x1 hx2
  · exact h
theorem removeE_0 {s : TG} {n : Int} (h : s.removeE n = 0) : s.isE n = 0 ∧ n ≠ 0 ∧ ¬ 0 < s.pr n ∧ ¬ 0 < s.pg n ∧ s.kidN n = false := by
  unfold removeE at h
  split at h
  · omega
  · split at h
    · omega
    · rename_i h1 h2
      refine ⟨by omega, fun e => h2 (.inl e), fun e => h2 (.inr (.inl e)), fun e => h2 (.inr (.inr (.inl e))), ?_⟩
      cases hk : s.kidN n with
      | false => rfl
      | true => exact absurd (.inr (.inr (.inr hk))) h2
theorem no_kid {s : TG} {n : Int} (h : s.kidN n = false) {j : Int} (j0 : 0 ≤ j) (j1 : j < 10) (j2 : s.here j = true) : s.par j ≠ n := fun e => by
  rw [kidN_of j0 j1 j2 e] at h; cases h
/-- a group that is taken away: whatever of it is left in the tables -/ theorem Ok.drop {s t : TG} (h : s.Ok) {n : Int} (hn : n ≠ 0) (hk : s.kidN n = false) (hh : t.here = fset s.here n false) (hp : ∀ x, x ≠ n → t.par x = s.par x) : t.Ok := by
  obtain ⟨d, d0, hd⟩ := h.rank
  refine ⟨⟨by rw [hh, fset_ne _ _ (Ne.symm hn)]; exact h.root.1, by rw [hp 0 (Ne.symm hn)]; exact h.root.2⟩, d, d0, fun x x0 x1 x2 => ?_⟩
  have hx : x ≠ n := fun e => by subst e; rw [hh, fset_eq] at x2; cases x2
  rw [hh, fset_ne _ _ hx] at x2
  have h4 := hd x x0 x1 x2
  rw [hp x hx]
  refine ⟨h4.1, h4.2.1, fun q => ?_⟩
  obtain ⟨p0, p1, p2, p3⟩ := h4.2.2 q
  refine ⟨p0, p1, ?_, p3⟩
  rw [hh, fset_ne _ _ (no_kid hk x0 x1 x2)]; exact p2
theorem Inv.remove {s : TG} (h : s.Inv) (n : Int) : (s.remove n).Inv := by
  unfold TG.remove; split
  · rename_i h0
    obtain ⟨e1, e2, e3, e4, e5⟩ := removeE_0 h0
    obtain ⟨n0, n1, n2⟩ := isE_ok e1
    have hnn := h.nn n0 n1 n2
    refine ⟨h.ok.drop (t := s.clr n) e2 e5 rfl (fun x hx => fset_ne _ _ hx), fun x x0 x1 x2 => ?_⟩
    have hx : x ≠ n := fun e => by
      subst e
      have : (s.clr x).here x = fset s.here x false x := rfl
      rw [this, fset_eq] at x2; cases x2
    have x3 : s.here x = true := by
      have : (s.clr n).here x = fset s.here n false x := rfl
      rw [this, fset_ne _ _ hx] at x2; exact x2
    have key : ∀ f : Int → Int, f n = 0 → (s.clr n).left (fset f n 0) x = s.left f x := fun f hf => by
      unfold left
      rw [fset_ne _ _ hx]
      congr 1
      refine sumN_congr 10 (fun j j0 j1 => ?_)
      unfold kid
      show (if fset s.here n false j = true ∧ fset s.par n 0 j = x then fset f n 0 j else 0) = _
      by_cases hj : j = n
      · subst hj; rw [fset_eq]; simp [hf]
      · rw [fset_ne _ _ hj, fset_ne _ _ hj, fset_ne _ _ hj]
    have h9 := h.own x x0 x1 x3
    show 0 ≤ (s.clr n).left (fset s.pr n 0) x ∧ 0 ≤ (s.clr n).left (fset s.pg n 0) x
    rw [key _ (by omega), key _ (by omega)]
    exact h9
  · exact h
theorem init_here (n : Int) : TG.init.here n = decide (n = 0) := by
  show fset (fun _ => false) 0 true n = _
  unfold fset; by_cases h : n = 0 <;> simp [h]
theorem Inv.init : TG.init.Inv := by
  have hh : ∀ n : Int, TG.init.here n = true → n = 0 := fun n h => by rw [init_here] at h; simpa using h
  refine ⟨⟨⟨by rw [init_here]; rfl, rfl⟩, fun _ => 1, rfl, fun n n0 n1 n2 => ?_⟩, fun n n0 n1 n2 => ?_⟩
  · have := hh n n2; subst this
    exact ⟨Nat.le_refl 1, by show 1 ≤ 4; omega, fun q => absurd rfl q⟩
  · have := hh n n2; subst this
    decide +kernel
theorem Small.init : TG.init.Small 0 := fun n h0 h1 => by
  have : n = 0 ∨ n = 1 ∨ n = 2 ∨ n = 3 ∨ n = 4 ∨ n = 5 ∨ n = 6 ∨ n = 7 ∨ n = 8 ∨ n = 9 := by omega
  rcases this with rfl | rfl | rfl | rfl | rfl | rfl | rfl | rfl | rfl | rfl <;> decide +kernel
theorem Small.add {s : TG} {B : Int} (h : s.Small B) (hB : 0 ≤ B) (a : Int) : (s.add a).Small B := by
  unfold TG.add; split
  · intro n h0 h1
    show -B ≤ fset s.pr _ 0 n ∧ fset s.pr _ 0 n ≤ B ∧ -B ≤ fset s.pg _ 0 n ∧ fset s.pg _ 0 n ≤ B
    have := h n h0 h1
    unfold fset; split <;> omega
  · exact h
theorem Small.remove {s : TG} {B : Int} (h : s.Small B) (hB : 0 ≤ B) (a : Int) : (s.remove a).Small B := by
  unfold TG.remove; split
  · intro n h0 h1
    show -B ≤ fset s.pr _ 0 n ∧ fset s.pr _ 0 n ≤ B ∧ -B ≤ fset s.pg _ 0 n ∧ fset s.pg _ 0 n ≤ B
    have := h n h0 h1
    unfold fset; split <;> omega
  · exact h
theorem Small.remove' {s : TG} {B : Int} (h : s.Small B) (a : Int) : (s.remove' a).Small B := by
  unfold TG.remove'; split <;> exact h
theorem Small.limit {s : TG} {B : Int} (h : s.Small B) (n p m : Int) : (s.limit n p m).Small B := by
  unfold TG.limit; split <;> exact h
theorem Small.move {s : TG} {B : Int} (h : s.Small B) (hO : s.Ok) (a b p m : Int) : (s.move a b p m).Small (B + 640) := by
  unfold TG.move; split
  · exact h.mono (by omega)
  · split
    · exact ((h.unch hO a p m).charge hO.unch b p m).mono (by omega)
    · exact h.mono (by omega)
/-! ### the code's tree and the document's -/
structure Rel (s t : TG) : Prop where
  here : s.here = t.here
  gv : ∀ n, 0 ≤ n → n < 10 → s.here n = true → s.gv n = t.gv n
theorem Rel.par {s t : TG} (h : Rel s t) {n : Int} (h0 : 0 ≤ n) (h1 : n < 10) (h2 : s.here n = true) : t.par n = s.par n := (congrArg GV.par (h.gv n h0 h1 h2)).symm
theorem Rel.pr {s t : TG} (h : Rel s t) {n : Int} (h0 : 0 ≤ n) (h1 : n < 10) (h2 : s.here n = true) : t.pr n = s.pr n := (congrArg GV.pr (h.gv n h0 h1 h2)).symm
theorem Rel.pg {s t : TG} (h : Rel s t) {n : Int} (h0 : 0 ≤ n) (h1 : n < 10) (h2 : s.here n = true) : t.pg n = s.pg n := (congrArg GV.pg (h.gv n h0 h1 h2)).symm
theorem Rel.ok {s t : TG} (h : Rel s t) (hO : s.Ok) : t.Ok := by
  obtain ⟨d, d0, hd⟩ := hO.rank
  have hr := hO.root
  refine ⟨⟨by rw [← h.here]; exact hr.1, by rw [h.par (by omega) (by omega) hr.1]; exact hr.2⟩, d, d0, fun n n0 n1 n2 => ?_⟩
  rw [← h.here] at n2 ⊢
  rw [h.par n0 n1 n2]
  exact hd n n0 n1 n2
theorem Rel.way {s t : TG} (h : Rel s t) (hO : s.Ok) {n : Int} (h0 : 0 ≤ n) (h1 : n < 10) (h2 : s.here n = true) : t.way n = s.way n := by
  obtain ⟨w1, _, w3⟩ := hO.way h0 h1 h2
  obtain ⟨v1, _⟩ := (h.ok hO).way h0 h1 (by rw [← h.here]; exact h2)
  exact v1.unique (w1.congr (fun x hx => by
    obtain ⟨x0, x1⟩ := w1.range x hx
    exact h.par x0 x1 (w3 x hx)))
theorem Rel.isE {s t : TG} (h : Rel s t) (n : Int) : t.isE n = s.isE n := by unfold TG.isE; rw [h.here]
theorem Rel.chE {s t : TG} (h : Rel s t) (n p m : Int) : t.chE n p m = s.chE n p m := by unfold TG.chE; rw [h.isE]
theorem Rel.left {s t : TG} (h : Rel s t) {n : Int} (h0 : 0 ≤ n) (h1 : n < 10) (h2 : s.here n = true) : t.left t.pr n = s.left s.pr n ∧ t.left t.pg n = s.left s.pg n := by
  unfold TG.left
  rw [h.pr h0 h1 h2, h.pg h0 h1 h2]
  have e1 : sumN (t.kid t.pr n) 10 = sumN (s.kid s.pr n) 10 := sumN_congr 10 (fun j j0 j1 => by
    unfold kid
    rw [← h.here]
    by_cases hj : s.here j = true
    · rw [h.par j0 (by omega) hj, h.pr j0 (by omega) hj]
    · simp [hj])
  have e2 : sumN (t.kid t.pg n) 10 = sumN (s.kid s.pg n) 10 := sumN_congr 10 (fun j j0 j1 => by
    unfold kid
    rw [← h.here]
    by_cases hj : s.here j = true
    · rw [h.par j0 (by omega) hj, h.pg j0 (by omega) hj]
    · simp [hj])
  rw [e1, e2]; exact ⟨rfl, rfl⟩
theorem Rel.unchE {s t : TG} (h : Rel s t) (n p m : Int) : t.unchE n p m = s.unchE n p m := by
  unfold TG.unchE
  rw [h.chE]
  by_cases hc : s.chE n p m = 0
  · obtain ⟨⟨n0, n1, n2⟩, _⟩ := chE_0 hc
    rw [(h.left n0 n1 n2).1, (h.left n0 n1 n2).2]
  · rw [if_pos hc, if_pos hc]
theorem Rel.room {s t : TG} (h : Rel s t) (hO : s.Ok) {n : Int} (h0 : 0 ≤ n) (h1 : n < 10) (h2 : s.here n = true) (p m : Int) : ∀ x ∈ s.way n, t.room p m x = s.room p m x := fun x hx => by
  obtain ⟨w1, _, w3⟩ := hO.way h0 h1 h2
  obtain ⟨x0, x1⟩ := w1.range x hx
  unfold TG.room
  rw [h.gv x x0 x1 (w3 x hx)]
theorem all_congr {l : List Int} {p q : Int → Bool} (h : ∀ x ∈ l, p x = q x) : l.all p = l.all q := by
  induction l with
  | nil => rfl
  | cons x r ih => simp only [List.all_cons, h x (by simp), ih (fun y hy => h y (List.mem_cons_of_mem _ hy))]
theorem find_congr {l : List Int} {p q : Int → Bool} (h : ∀ x ∈ l, p x = q x) : l.find? p = l.find? q := by
  induction l with
  | nil => rfl
  | cons x r ih => simp only [List.find?_cons, h x (by simp), ih (fun y hy => h y (List.mem_cons_of_mem _ hy))]
theorem Rel.chargeE {s t : TG} (h : Rel s t) (hO : s.Ok) (n p m : Int) : t.chargeE n p m = s.chargeE n p m := by
  unfold TG.chargeE
  rw [h.chE]
  by_cases hc : s.chE n p m = 0
  · obtain ⟨⟨n0, n1, n2⟩, _⟩ := chE_0 hc
    rw [h.way hO n0 n1 n2, all_congr (h.room hO n0 n1 n2 p m)]
  · rw [if_pos hc, if_pos hc]
theorem Rel.lacks {s t : TG} (h : Rel s t) (hO : s.Ok) (n p m : Int) : t.lacks n p m = s.lacks n p m := by
  unfold TG.lacks
  rw [h.chE]
  by_cases hc : s.chE n p m = 0
  · obtain ⟨⟨n0, n1, n2⟩, _⟩ := chE_0 hc
    rw [h.way hO n0 n1 n2, find_congr (p := fun x => !t.room p m x) (q := fun x => !s.room p m x) (fun x hx => by rw [h.room hO n0 n1 n2 p m x hx])]
  · rw [if_pos hc, if_pos hc]
theorem Rel.under {s t : TG} (h : Rel s t) (hO : s.Ok) (n o : Int) : t.under n o = s.under n o := by
  unfold TG.under
  rw [h.isE]
  by_cases hc : s.isE n = 0
  · obtain ⟨n0, n1, n2⟩ := isE_ok hc
    rw [h.way hO n0 n1 n2]
  · rw [if_pos hc, if_pos hc]
theorem Rel.limitE {s t : TG} (h : Rel s t) (n p m : Int) : t.limitE n p m = s.limitE n p m := by unfold TG.limitE; rw [h.isE]
theorem Rel.free {s t : TG} (h : Rel s t) : t.free = s.free := by unfold TG.free; rw [h.here]
theorem Rel.addE {s t : TG} (h : Rel s t) (hO : s.Ok) (a : Int) : t.addE a = s.addE a := by
  unfold TG.addE
  rw [h.isE, h.free]
  by_cases hc : s.isE a = 0
  · obtain ⟨n0, n1, n2⟩ := isE_ok hc
    rw [h.way hO n0 n1 n2]
  · rw [if_pos hc, if_pos hc]
theorem Rel.addN {s t : TG} (h : Rel s t) (hO : s.Ok) (a : Int) : t.addN a = s.addN a := by unfold TG.addN; rw [h.addE hO, h.free]
theorem Rel.kidN {s t : TG} (h : Rel s t) (n : Int) : t.kidN n = s.kidN n := by
  rw [Bool.eq_iff_iff, kidN_true, kidN_true]
  unfold below
  rw [← h.here]
  constructor
  · rintro ⟨k, k0, k1, k2, k3⟩; exact ⟨k, k0, k1, k2, by rw [← h.par k0 k1 k2]; exact k3⟩
  · rintro ⟨k, k0, k1, k2, k3⟩; exact ⟨k, k0, k1, k2, by rw [h.par k0 k1 k2]; exact k3⟩
theorem Rel.removeE {s t : TG} (h : Rel s t) (hI : s.Inv) (n : Int) : t.removeE' n = s.removeE n := by
  unfold TG.removeE' TG.removeE
  rw [h.isE, h.kidN]
  by_cases hc : s.isE n = 0
  · obtain ⟨n0, n1, n2⟩ := isE_ok hc
    have hnn := hI.nn n0 n1 n2
    rw [h.pr n0 n1 n2, h.pg n0 n1 n2]
    have e1 : (s.pr n ≠ 0) = (0 < s.pr n) := by apply propext; omega
    have e2 : (s.pg n ≠ 0) = (0 < s.pg n) := by apply propext; omega
    simp only [e1, e2]
  · rw [if_pos hc, if_pos hc]
theorem gv_ext {s t : TG} {n : Int} (h1 : s.par n = t.par n) (h2 : s.mp n = t.mp n) (h3 : s.mg n = t.mg n) (h4 : s.pr n = t.pr n) (h5 : s.pg n = t.pg n) : s.gv n = t.gv n := by
  unfold TG.gv; rw [h1, h2, h3, h4, h5]
theorem Rel.eqs {s t : TG} (h : Rel s t) {n : Int} (h0 : 0 ≤ n) (h1 : n < 10) (h2 : s.here n = true) : s.par n = t.par n ∧ s.mp n = t.mp n ∧ s.mg n = t.mg n ∧ s.pr n = t.pr n ∧ s.pg n = t.pg n := by
  have e := h.gv n h0 h1 h2
  exact ⟨congrArg GV.par e, congrArg GV.mp e, congrArg GV.mg e, congrArg GV.pr e, congrArg GV.pg e⟩
theorem Rel.lay {s t : TG} (h : Rel s t) (l : List Int) (p m : Int) : Rel (s.lay l p m) (t.lay l p m) := ⟨h.here, fun n h0 h1 h2 => by
  obtain ⟨e1, e2, e3, e4, e5⟩ := h.eqs h0 h1 h2
  exact gv_ext e1 e2 e3 (by show s.pr n + _ = t.pr n + _; rw [e4]) (by show s.pg n + _ = t.pg n + _; rw [e5])⟩
theorem Rel.charge {s t : TG} (h : Rel s t) (hO : s.Ok) (n p m : Int) : Rel (s.charge n p m) (t.charge n p m) := by
  unfold TG.charge
  rw [h.chargeE hO]
  by_cases hc : s.chargeE n p m = 0
  · rw [if_pos hc, if_pos hc]
    obtain ⟨⟨n0, n1, n2⟩, _⟩ := chargeE_0 hc
    rw [h.way hO n0 n1 n2]; exact h.lay _ _ _
  · rw [if_neg hc, if_neg hc]; exact h
theorem Rel.unch {s t : TG} (h : Rel s t) (hO : s.Ok) (n p m : Int) : Rel (s.unch n p m) (t.unch n p m) := by
  unfold TG.unch
  rw [h.unchE]
  by_cases hc : s.unchE n p m = 0
  · rw [if_pos hc, if_pos hc]
    obtain ⟨⟨n0, n1, n2⟩, _⟩ := unchE_0 hc
    rw [h.way hO n0 n1 n2]; exact h.lay _ _ _
  · rw [if_neg hc, if_neg hc]; exact h
theorem Rel.moveE {s t : TG} (h : Rel s t) (hO : s.Ok) (a b p m : Int) : t.moveE a b p m = s.moveE a b p m := by
  unfold TG.moveE
  rw [h.isE, h.unchE, (h.unch hO a p m).chargeE hO.unch]
theorem Rel.move {s t : TG} (h : Rel s t) (hO : s.Ok) (a b p m : Int) : Rel (s.move a b p m) (t.move a b p m) := by
  unfold TG.move
  rw [h.isE, h.unchE, (h.unch hO a p m).chargeE hO.unch]
  split
  · exact h
  · split
    · exact (h.unch hO a p m).charge hO.unch b p m
    · exact h
theorem Rel.limit {s t : TG} (h : Rel s t) (n p m : Int) : Rel (s.limit n p m) (t.limit n p m) := by
  unfold TG.limit
  rw [h.limitE]
  split
  · refine ⟨h.here, fun x h0 h1 h2 => ?_⟩
    obtain ⟨e1, e2, e3, e4, e5⟩ := h.eqs h0 h1 h2
    exact gv_ext e1 (by show fset s.mp n p x = fset t.mp n p x; unfold fset; rw [e2]) (by show fset s.mg n m x = fset t.mg n m x; unfold fset; rw [e3]) e4 e5
  · exact h
theorem Rel.put {s t : TG} (h : Rel s t) (k a : Int) : Rel (s.put k a) (t.put k a) := by
  refine ⟨by show fset s.here k true = fset t.here k true; rw [h.here], fun x h0 h1 h2 => ?_⟩
  by_cases hx : x = k
  · subst hx
    exact gv_ext (by show fset s.par x a x = fset t.par x a x; rw [fset_eq, fset_eq]) (by show fset s.mp x (-1) x = fset t.mp x (-1) x; rw [fset_eq, fset_eq]) (by show fset s.mg x (-1) x = fset t.mg x (-1) x; rw [fset_eq, fset_eq]) (by show fset s.pr x 0 x = fset t.pr x 0 x; rw [fset_eq, fset_eq]) (by show fset s.pg x 0 x = fset t.pg x 0 x; rw [fset_eq, fset_eq])
  · have h3 : s.here x = true := by
      have : (s.put k a).here x = fset s.here k true x := rfl
      rw [this, fset_ne _ _ hx] at h2; exact h2
    obtain ⟨e1, e2, e3, e4, e5⟩ := h.eqs h0 h1 h3
    exact gv_ext (by show fset s.par k a x = fset t.par k a x; rw [fset_ne _ _ hx, fset_ne _ _ hx, e1]) (by show fset s.mp k (-1) x = fset t.mp k (-1) x; rw [fset_ne _ _ hx, fset_ne _ _ hx, e2]) (by show fset s.mg k (-1) x = fset t.mg k (-1) x; rw [fset_ne _ _ hx, fset_ne _ _ hx, e3]) (by show fset s.pr k 0 x = fset t.pr k 0 x; rw [fset_ne _ _ hx, fset_ne _ _ hx, e4]) (by show fset s.pg k 0 x = fset t.pg k 0 x; rw [fset_ne _ _ hx, fset_ne _ _ hx, e5])
theorem Rel.add {s t : TG} (h : Rel s t) (hO : s.Ok) (a : Int) : Rel (s.add a) (t.add a) := by
  unfold TG.add
  rw [h.addE hO, h.addN hO]
  split
  · exact h.put _ _
  · exact h
theorem Rel.remove {s t : TG} (h : Rel s t) (hI : s.Inv) (n : Int) : Rel (s.remove n) (t.remove' n) := by
  unfold TG.remove TG.remove'
  rw [h.removeE hI]
  split
  · refine ⟨by show fset s.here n false = fset t.here n false; rw [h.here], fun x h0 h1 h2 => ?_⟩
    have hx : x ≠ n := fun e => by
      subst e
      have : (s.clr x).here x = fset s.here x false x := rfl
      rw [this, fset_eq] at h2; cases h2
    have h3 : s.here x = true := by
      have : (s.clr n).here x = fset s.here n false x := rfl
      rw [this, fset_ne _ _ hx] at h2; exact h2
    obtain ⟨e1, e2, e3, e4, e5⟩ := h.eqs h0 h1 h3
    exact gv_ext (by show fset s.par n 0 x = t.par x; rw [fset_ne _ _ hx, e1]) (by show fset s.mp n 0 x = t.mp x; rw [fset_ne _ _ hx, e2]) (by show fset s.mg n 0 x = t.mg x; rw [fset_ne _ _ hx, e3]) (by show fset s.pr n 0 x = t.pr x; rw [fset_ne _ _ hx, e4]) (by show fset s.pg n 0 x = t.pg x; rw [fset_ne _ _ hx, e5])
  · exact h
theorem Rel.all {s t : TG} (h : Rel s t) : t.all = s.all := by unfold TG.all; rw [h.here]
theorem Rel.refl (s : TG) : Rel s s := ⟨rfl, fun _ _ _ _ => rfl⟩
end TG

end Go.X.Gr
