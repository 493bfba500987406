import Derived.Test.YtojlnbjpiccliaaGP
namespace Go.X
open Go
/-! ### arrays of pairs, and of groups -/
def encO (f g : Int → Int) (i : Nat) : Value := if i < 20 then .int .i64 (if i % 2 = 0 then f ((i / 2 : Nat) : Int) else g ((i / 2 : Nat) : Int)) else undef
def arrO (f g : Int → Int) : Array Value := ((List.range 20).map (encO f g)).toArray
theorem arrO_size (f g : Int → Int) : (arrO f g).size = 20 := by simp [arrO]
theorem encO.ld0 (f g : Int → Int) (z : Int) (h : 0 ≤ z ∧ z < 10) : 0 + z.toNat * 2 + (0 : Int).toNat * 1 < 20 ∧ encO f g (0 + z.toNat * 2 + (0 : Int).toNat * 1) = .int .i64 (f z) := by
  have e : (0 : Int).toNat = 0 := rfl
  refine ⟨by omega, ?_⟩
  unfold encO
  rw [if_pos (by omega), if_pos (by omega), show (((0 + z.toNat * 2 + (0 : Int).toNat * 1) / 2 : Nat) : Int) = z from by omega]
theorem encO.ld1 (f g : Int → Int) (z : Int) (h : 0 ≤ z ∧ z < 10) : 0 + z.toNat * 2 + (1 : Int).toNat * 1 < 20 ∧ encO f g (0 + z.toNat * 2 + (1 : Int).toNat * 1) = .int .i64 (g z) := by
  have e : (1 : Int).toNat = 1 := rfl
  refine ⟨by omega, ?_⟩
  unfold encO
  rw [if_pos (by omega), if_neg (by omega), show (((0 + z.toNat * 2 + (1 : Int).toNat * 1) / 2 : Nat) : Int) = z from by omega]
theorem encO.st0 (f g : Int → Int) (z v : Int) (h : 0 ≤ z ∧ z < 10) : 0 + z.toNat * 2 + (0 : Int).toNat * 1 < 20 ∧ upd (encO f g) (0 + z.toNat * 2 + (0 : Int).toNat * 1) (.int .i64 v) = encO (fset f z v) g := by
  have e : (0 : Int).toNat = 0 := rfl
  refine ⟨by omega, ?_⟩
  funext i
  unfold upd
  by_cases hi : i = 0 + z.toNat * 2 + (0 : Int).toNat * 1
  · rw [if_pos hi, hi, (encO.ld0 (fset f z v) g z h).2, fset_eq]
  · rw [if_neg hi]
    unfold encO
    refine ite_both (fun c => ?_) (fun _ => rfl)
    by_cases c2 : i % 2 = 0
    · rw [if_pos c2, if_pos c2, fset_ne _ _ (by omega)]
    · rw [if_neg c2, if_neg c2]
theorem encO.st1 (f g : Int → Int) (z v : Int) (h : 0 ≤ z ∧ z < 10) : 0 + z.toNat * 2 + (1 : Int).toNat * 1 < 20 ∧ upd (encO f g) (0 + z.toNat * 2 + (1 : Int).toNat * 1) (.int .i64 v) = encO f (fset g z v) := by
  have e : (1 : Int).toNat = 1 := rfl
  refine ⟨by omega, ?_⟩
  funext i
  unfold upd
  by_cases hi : i = 0 + z.toNat * 2 + (1 : Int).toNat * 1
  · rw [if_pos hi, hi, (encO.ld1 f (fset g z v) z h).2, fset_eq]
  · rw [if_neg hi]
    unfold encO
    refine ite_both (fun c => ?_) (fun _ => rfl)
    by_cases c2 : i % 2 = 0
    · rw [if_pos c2, if_pos c2]
    · rw [if_neg c2, if_neg c2, fset_ne _ _ (by omega)]
theorem encO.agg (f g : Int → Int) : 0 + 20 ≤ 20 ∧ aggOf (encO f g) 0 20 = .agg (arrO f g) := ⟨by omega, by
  unfold aggOf arrO
  simp only [Nat.zero_add]⟩
theorem encO.box (f g : Int → Int) : ∀ i, i < 20 → cellsOf (arrO f g) i = encO f g i := fun i hi => by simp [cellsOf, arrO, hi]
theorem encO.clr (f g : Int → Int) (z : Int) (h : 0 ≤ z ∧ z < 10) : 0 + z.toNat * 2 + 2 ≤ 20 ∧ updL (encO f g) (0 + z.toNat * 2) [.int .i64 0, .int .i64 0] = encO (fset f z 0) (fset g z 0) := by
  refine ⟨by omega, ?_⟩
  have e1 := (encO.st0 f g z 0 h).2
  have e2 := (encO.st1 (fset f z 0) g z 0 h).2
  have h0 : (0 : Int).toNat = 0 := rfl
  have h1 : (1 : Int).toNat = 1 := rfl
  rw [h0] at e1
  rw [h1] at e2
  simp only [updL]
  rw [show 0 + z.toNat * 2 = 0 + z.toNat * 2 + 0 * 1 from by omega, e1, show 0 + z.toNat * 2 + 0 * 1 + 1 = 0 + z.toNat * 2 + 1 * 1 from by omega, e2]
def encW (w : Int → GV) (i : Nat) : Value := if i < 50 then encV (w ((i / 5 : Nat) : Int)) (i % 5) else undef
def arrW (w : Int → GV) : Array Value := ((List.range 50).map (encW w)).toArray
theorem arrW_size (w : Int → GV) : (arrW w).size = 50 := by simp [arrW]
theorem encW.agg (w : Int → GV) : 0 + 50 ≤ 50 ∧ aggOf (encW w) 0 50 = .agg (arrW w) := ⟨by omega, by
  unfold aggOf arrW
  simp only [Nat.zero_add]⟩
theorem encW.box (w : Int → GV) : ∀ i, i < 50 → cellsOf (arrW w) i = encW w i := fun i hi => by simp [cellsOf, arrW, hi]
theorem encW.at_ (w : Int → GV) (z : Int) (h : 0 ≤ z ∧ z < 10) (j : Nat) (hj : j < 5) : encW w (0 + z.toNat * 5 + j) = encV (w z) j := by
  unfold encW
  rw [if_pos (by omega), show (((0 + z.toNat * 5 + j) / 5 : Nat) : Int) = z from by omega, show (0 + z.toNat * 5 + j) % 5 = j from by omega]
theorem encW.ld_pr (w : Int → GV) (z : Int) (h : 0 ≤ z ∧ z < 10) : 0 + z.toNat * 5 + 3 < 50 ∧ encW w (0 + z.toNat * 5 + 3) = .int .i64 ((w z).pr) := ⟨by omega, (encW.at_ w z h 3 (by omega)).trans rfl⟩
theorem encW.ld_pg (w : Int → GV) (z : Int) (h : 0 ≤ z ∧ z < 10) : 0 + z.toNat * 5 + 4 < 50 ∧ encW w (0 + z.toNat * 5 + 4) = .int .i64 ((w z).pg) := ⟨by omega, (encW.at_ w z h 4 (by omega)).trans rfl⟩
theorem encW.st (w : Int → GV) (z : Int) (h : 0 ≤ z ∧ z < 10) (g : GV) : 0 + z.toNat * 5 + 5 ≤ 50 ∧ updL (encW w) (0 + z.toNat * 5) g.arr.toList = encW (fset w z g) := by
  refine ⟨by omega, ?_⟩
  funext i
  have hl : g.arr.toList.length = 5 := rfl
  by_cases a1 : i < 0 + z.toNat * 5
  · rw [updL_lt' _ _ _ _ a1]
    unfold encW
    exact ite_both (fun c => by rw [fset_ne _ _ (by omega)]) (fun _ => rfl)
  · by_cases a2 : i < 0 + z.toNat * 5 + 5
    · obtain ⟨j, rfl⟩ : ∃ j, i = 0 + z.toNat * 5 + j := ⟨i - (0 + z.toNat * 5), by omega⟩
      rw [encW.at_ _ z h j (by omega), fset_eq]
      have hj : j = 0 ∨ j = 1 ∨ j = 2 ∨ j = 3 ∨ j = 4 := by omega
      rcases hj with rfl | rfl | rfl | rfl | rfl <;> exact updL_at' g.arr.toList _ _ _ _ rfl
    · rw [updL_ge' _ _ _ _ (by omega)]
      unfold encW
      exact ite_both (fun c => by rw [fset_ne _ _ (by omega)]) (fun _ => rfl)
/-! ### what is charged to one, and below -/
theorem sumN_comm (F : Int → Int → Int) (a : Nat) : ∀ (b : Nat), sumN (fun i => sumN (fun j => F i j) a) b = sumN (fun j => sumN (fun i => F i j) b) a
  | 0 => by simp only [sumN]; exact (sumN_zero a (fun _ _ _ => rfl)).symm
  | b + 1 => by
    simp only [sumN]
    rw [sumN_comm F a b, ← sumN_add]
def wsum (c : Int → Int → Int) (f : Int → Int) (L : List Int) (n : Int) : Int := (L.map (fun x => c n x * f x)).sum
theorem wsum_snoc (c : Int → Int → Int) (f : Int → Int) (L : List Int) (x n : Int) : wsum c f (L ++ [x]) n = wsum c f L n + c n x * f x := by simp [wsum]
theorem allK_sum (p : Int → Bool) (g : Int → Int) : ∀ (k : Nat), ((allK p k).map g).sum = sumN (fun x => if p x = true then g x else 0) k
  | 0 => rfl
  | k + 1 => by
    simp only [allK, sumN, List.map_append, List.sum_append]
    rw [allK_sum p g k]
    by_cases h : p (k : Int) = true
    · simp [h]
    · simp [h]
theorem allK_head {p : Int → Bool} (h : p 0 = true) : ∀ (k : Nat), 0 < k → ∃ r, allK p k = 0 :: r
  | 0, hk => absurd hk (by omega)
  | k + 1, _ => by
    by_cases hk : k = 0
    · subst hk; exact ⟨[], by simp only [allK, List.nil_append]; rw [if_pos (by exact h)]; rfl⟩
    · obtain ⟨r, hr⟩ := allK_head h k (by omega)
      exact ⟨r ++ if p (k : Int) = true then [(k : Int)] else [], by simp only [allK]; rw [hr]; rfl⟩
theorem wsum_bnd {c : Int → Int → Int} {f : Int → Int} {K : Int} (hK : 0 ≤ K) {n : Int} : ∀ (L : List Int), (∀ x ∈ L, 0 ≤ c n x ∧ c n x ≤ 5 ∧ -K ≤ f x ∧ f x ≤ K) → -(5 * K * L.length) ≤ wsum c f L n ∧ wsum c f L n ≤ 5 * K * L.length
  | [], _ => by simp [wsum]
  | x :: r, h => by
    have ih := wsum_bnd hK r (fun y hy => h y (List.mem_cons_of_mem _ hy))
    have h2 := h x (by simp)
    have h3 := TG.mul_bnd (p := f x) (c := c n x) (K := K) h2.1 ⟨h2.2.2.1, h2.2.2.2⟩ h2.2.1 hK
    have e : wsum c f (x :: r) n = c n x * f x + wsum c f r n := by simp [wsum]
    have e2 : 5 * K * ((x :: r).length : Int) = 5 * K * r.length + 5 * K := by simp only [List.length_cons]; push_cast; rw [Int.mul_add]; omega
    rw [e, e2, Int.mul_comm (c n x)]
    omega
namespace TG
def cnt (s : TG) (n x : Int) : Int := ((s.way x).count n : Int)
theorem Ok.rank_le {s : TG} {d : Int → Nat} (hd : ∀ n, 0 ≤ n → n < 10 → s.here n = true → 1 ≤ d n ∧ d n ≤ 4 ∧ (n ≠ 0 → 0 ≤ s.par n ∧ s.par n < 10 ∧ s.here (s.par n) = true ∧ d n = d (s.par n) + 1)) (h0p : s.par 0 = -1) :
    ∀ (l : List Int) (n : Int), IsWay s.par n l → (∀ y ∈ l, s.here y = true) → (∀ x ∈ l, d x ≤ d n) ∧ l.Nodup
  | [], _, _, _ => ⟨fun x hx => by simp at hx, List.nodup_nil⟩
  | y :: r, n, ⟨e, h0, h1, h2⟩, hh => by
    subst e
    have ih := Ok.rank_le hd h0p r (s.par y) h2 (fun z hz => hh z (List.mem_cons_of_mem _ hz))
    have h4 := hd y h0 h1 (hh y (by simp))
    have key : ∀ x ∈ r, d x < d y := fun x hx => by
      have h5 := ih.1 x hx
      by_cases hy : y = 0
      · subst hy
        rw [h0p] at h2
        match r, h2, hx with
        | _ :: _, h2, _ => exact absurd h2.2.1 (by omega)
      · have := (h4.2.2 hy).2.2.2; omega
    refine ⟨fun x hx => ?_, List.nodup_cons.2 ⟨fun hm => ?_, ih.2⟩⟩
    · rcases List.mem_cons.1 hx with rfl | hx
      · exact Nat.le_refl _
      · have := key x hx; omega
    · have := key y hm; omega
theorem Ok.cnt_le {s : TG} (h : s.Ok) {x : Int} (h0 : 0 ≤ x) (h1 : x < 10) (h2 : s.here x = true) (n : Int) : s.cnt n x ≤ 1 := by
  obtain ⟨d, _, hd⟩ := h.rank
  obtain ⟨w1, _, w3⟩ := h.way h0 h1 h2
  have hn := (Ok.rank_le hd h.root.2 _ _ w1 w3).2
  have := (List.nodup_iff_count.1 hn) n
  unfold cnt; omega
theorem Ok.cnt_next {s : TG} (h : s.Ok) {k : Int} (h0 : 0 ≤ k) (h1 : k < 10) (h2 : s.here k = true) (n : Int) : s.cnt n k = (if n = k then 1 else 0) + (if 0 ≤ s.par k then s.cnt n (s.par k) else 0) := by
  obtain ⟨w1, _, w3⟩ := h.way h0 h1 h2
  unfold cnt
  cases hl : s.way k with
  | nil => rw [hl] at w1; exact absurd w1 (by show ¬ k < 0; omega)
  | cons y r =>
    rw [hl] at w1 w3
    obtain ⟨e, _, _, w2⟩ := w1
    subst e
    have hc : (y :: r).count n = (if n = y then 1 else 0) + r.count n := by
      rw [List.count_cons]
      by_cases hny : n = y
      · subst hny; simp; omega
      · have : ¬ y = n := fun e => hny e.symm
        simp [hny, this]
    rw [hc]
    by_cases hy : y = 0
    · subst hy
      rw [h.root.2] at w2 ⊢
      match r, w2 with
      | [], _ => rw [if_neg (show ¬ (0 : Int) ≤ -1 by omega), List.count_nil]; split <;> rfl
      | _ :: _, w2 => exact absurd w2.2.1 (by omega)
    · obtain ⟨p0, p1, p2⟩ := h.kid_here h0 h1 h2 hy
      obtain ⟨v1, _⟩ := h.way p0 p1 p2
      rw [if_pos p0, w2.unique v1]
      push_cast
      split <;> simp
/-- to each is charged what is charged to all below it themselves -/
theorem Ok.total {s : TG} (h : s.Ok) (f : Int → Int) {n : Int} (h0 : 0 ≤ n) (h1 : n < 10) (h2 : s.here n = true) : wsum s.cnt (s.left f) s.all n = f n := by
  unfold wsum all
  rw [allK_sum]
  have e1 : sumN (fun x => if s.here x = true then s.cnt n x * s.left f x else 0) 10 = sumN (fun x => if s.here x = true then s.cnt n x * f x else 0) 10 - sumN (fun x => sumN (fun k => if s.here x = true then s.cnt n x * s.kid f x k else 0) 10) 10 := by
    have : sumN (fun x => if s.here x = true then s.cnt n x * f x else 0) 10 = sumN (fun x => if s.here x = true then s.cnt n x * s.left f x else 0) 10 + sumN (fun x => sumN (fun k => if s.here x = true then s.cnt n x * s.kid f x k else 0) 10) 10 := by
      rw [← sumN_add]
      refine sumN_congr 10 (fun j _ _ => ?_)
      by_cases hj : s.here j = true
      · simp only [hj, if_true]
        rw [sumN_mul, ← Int.mul_add]
        congr 1
        unfold left; omega
      · simp only [hj]
        rw [sumN_zero 10 (fun _ _ _ => by simp)]; simp
    omega
  rw [e1, sumN_comm]
  have e2 : sumN (fun k => sumN (fun x => if s.here x = true then s.cnt n x * s.kid f x k else 0) 10) 10 = sumN (fun k => if s.here k = true then (if 0 ≤ s.par k then s.cnt n (s.par k) else 0) * f k else 0) 10 := by
    refine sumN_congr 10 (fun k k0 k1 => ?_)
    by_cases hk : s.here k = true
    · rw [if_pos hk]
      by_cases hk0 : k = 0
      · subst hk0
        rw [if_neg (by rw [h.root.2]; omega)]
        rw [sumN_zero 10 (fun j j0 _ => by
          unfold kid
          rw [h.root.2, if_neg (fun q : s.here 0 = true ∧ (-1 : Int) = j => by omega)]; simp)]
        simp
      · obtain ⟨p0, p1, p2⟩ := h.kid_here k0 (by omega) hk hk0
        rw [if_pos p0]
        rw [show sumN (fun x => if s.here x = true then s.cnt n x * s.kid f x k else 0) 10 = sumN (fun x => if x = s.par k then s.cnt n (s.par k) * f k else 0) 10 from sumN_congr 10 (fun j _ _ => by
          unfold kid
          by_cases hj : j = s.par k
          · subst hj; simp [p2, hk]
          · rw [if_neg hj, if_neg (fun q : s.here k = true ∧ s.par k = j => hj q.2.symm)]; simp)]
        rw [sumN_single _ _ p0, if_pos (by omega)]
    · rw [if_neg hk]
      refine sumN_zero 10 (fun j _ _ => ?_)
      unfold kid
      rw [if_neg (fun q : s.here k = true ∧ s.par k = j => hk q.1)]; simp
  rw [e2]
  have e3 : sumN (fun x => if s.here x = true then s.cnt n x * f x else 0) 10 = sumN (fun k => if s.here k = true then (if 0 ≤ s.par k then s.cnt n (s.par k) else 0) * f k else 0) 10 + sumN (fun k => if k = n then f n else 0) 10 := by
    rw [← sumN_add]
    refine sumN_congr 10 (fun k k0 k1 => ?_)
    by_cases hk : s.here k = true
    · rw [if_pos hk, if_pos hk, h.cnt_next k0 (by omega) hk n, Int.add_mul]
      by_cases hkn : k = n
      · subst hkn; simp; omega
      · rw [if_neg hkn, if_neg (fun e => hkn e.symm)]; omega
    · rw [if_neg hk, if_neg hk, if_neg (fun e : k = n => hk (by rw [e]; exact h2))]; rfl
  rw [e3, sumN_single _ _ h0, if_pos (by omega)]
  omega
/-- what each had before -/
def was (s : TG) (n : Int) : GV := if s.isE n = 0 then s.gv n else GV.zero
/-- no limit is passed that was not -/
def Lim (s t : TG) : Prop := ∀ n, 0 ≤ n → n < 10 → t.here n = true → (0 ≤ t.mp n → t.pr n ≤ t.mp n ∨ t.pr n ≤ (s.was n).pr) ∧ (0 ≤ t.mg n → t.pg n ≤ t.mg n ∨ t.pg n ≤ (s.was n).pg)
theorem was_here {s : TG} {n : Int} (h0 : 0 ≤ n) (h1 : n < 10) (h2 : s.here n = true) : s.was n = s.gv n := by unfold was; rw [if_pos (isE_of h0 h1 h2)]
theorem Lim.refl (s : TG) : s.Lim s := fun n h0 h1 h2 => by
  rw [was_here h0 h1 h2]
  exact ⟨fun _ => .inr (Int.le_refl _), fun _ => .inr (Int.le_refl _)⟩
theorem Lim.add (s : TG) (a : Int) : s.Lim (s.add a) := by
  unfold TG.add; split
  · intro n h0 h1 h2
    by_cases hn : n = s.addN a
    · have e1 : (s.put (s.addN a) a).mp n = -1 := by show fset s.mp (s.addN a) (-1) n = -1; rw [hn, fset_eq]
      have e2 : (s.put (s.addN a) a).mg n = -1 := by show fset s.mg (s.addN a) (-1) n = -1; rw [hn, fset_eq]
      rw [e1, e2]
      exact ⟨fun q => by omega, fun q => by omega⟩
    · have h3 : s.here n = true := by
        have : (s.put (s.addN a) a).here n = fset s.here (s.addN a) true n := rfl
        rw [this, fset_ne _ _ hn] at h2; exact h2
      rw [was_here h0 h1 h3]
      have e1 : (s.put (s.addN a) a).pr n = s.pr n := by show fset s.pr (s.addN a) 0 n = _; rw [fset_ne _ _ hn]
      have e2 : (s.put (s.addN a) a).pg n = s.pg n := by show fset s.pg (s.addN a) 0 n = _; rw [fset_ne _ _ hn]
      rw [e1, e2]
      exact ⟨fun _ => .inr (Int.le_refl _), fun _ => .inr (Int.le_refl _)⟩
  · exact Lim.refl s
theorem Lim.remove (s : TG) (a : Int) : s.Lim (s.remove a) := by
  unfold TG.remove; split
  · intro n h0 h1 h2
    have hn : n ≠ a := fun e => by
      subst e
      have : (s.clr n).here n = fset s.here n false n := rfl
      rw [this, fset_eq] at h2; cases h2
    have h3 : s.here n = true := by
      have : (s.clr a).here n = fset s.here a false n := rfl
      rw [this, fset_ne _ _ hn] at h2; exact h2
    rw [was_here h0 h1 h3]
    have e1 : (s.clr a).pr n = s.pr n := by show fset s.pr a 0 n = _; rw [fset_ne _ _ hn]
    have e2 : (s.clr a).pg n = s.pg n := by show fset s.pg a 0 n = _; rw [fset_ne _ _ hn]
    rw [e1, e2]
    exact ⟨fun _ => .inr (Int.le_refl _), fun _ => .inr (Int.le_refl _)⟩
  · exact Lim.refl s
theorem lay_lim {t : TG} (hO : t.Ok) {n p m : Int} (hc : t.chargeE n p m = 0) {x : Int} (x0 : 0 ≤ x) (x1 : x < 10) (x2 : t.here x = true) :
    (0 ≤ t.mp x → (t.charge n p m).pr x ≤ t.mp x ∨ (t.charge n p m).pr x ≤ t.pr x) ∧ (0 ≤ t.mg x → (t.charge n p m).pg x ≤ t.mg x ∨ (t.charge n p m).pg x ≤ t.pg x) := by
  obtain ⟨⟨n0, n1, n2⟩, p0, p1, m0, m1⟩ := chargeE_0 hc
  have e : t.charge n p m = t.lay (t.way n) p m := by unfold TG.charge; rw [if_pos hc]
  rw [e]
  have e1 : (t.lay (t.way n) p m).pr x = t.pr x + p * t.cnt x n := rfl
  have e2 : (t.lay (t.way n) p m).pg x = t.pg x + m * t.cnt x n := rfl
  rw [e1, e2]
  have hle := hO.cnt_le n0 n1 n2 x
  have hall : (t.way n).all (t.room p m) = true := by
    unfold chargeE at hc
    split at hc
    · omega
    · split at hc
      · assumption
      · omega
  by_cases hm : x ∈ t.way n
  · have hr := (GV.room_iff _ p m).1 (List.all_eq_true.1 hall x hm)
    have hc1 : t.cnt x n = 1 := by
      have : 0 < (t.way n).count x := List.count_pos_iff.2 hm
      unfold cnt at hle ⊢; omega
    rw [hc1, Int.mul_one, Int.mul_one]
    have r1 : p = 0 ∨ t.mp x < 0 ∨ t.pr x + p ≤ t.mp x := hr.1
    have r2 : m = 0 ∨ t.mg x < 0 ∨ t.pg x + m ≤ t.mg x := hr.2
    omega
  · have hc0 : t.cnt x n = 0 := by unfold cnt; rw [List.count_eq_zero_of_not_mem hm]; rfl
    rw [hc0, Int.mul_zero, Int.mul_zero]
    exact ⟨fun _ => .inr (by omega), fun _ => .inr (by omega)⟩
theorem Lim.charge {s : TG} (hO : s.Ok) (n p m : Int) : s.Lim (s.charge n p m) := by
  by_cases hc : s.chargeE n p m = 0
  · intro x x0 x1 x2
    have e : s.charge n p m = s.lay (s.way n) p m := by unfold TG.charge; rw [if_pos hc]
    have x3 : s.here x = true := by rw [e] at x2; exact x2
    rw [was_here x0 x1 x3]
    have := lay_lim hO hc x0 x1 x3
    have f1 : (s.charge n p m).mp x = s.mp x := by rw [e]; rfl
    have f2 : (s.charge n p m).mg x = s.mg x := by rw [e]; rfl
    rw [f1, f2]; exact this
  · have e : s.charge n p m = s := by unfold TG.charge; rw [if_neg hc]
    rw [e]; exact Lim.refl s
theorem unch_le {s : TG} (n p m : Int) {x : Int} : (s.unch n p m).here = s.here ∧ (s.unch n p m).mp = s.mp ∧ (s.unch n p m).mg = s.mg ∧ (s.unch n p m).pr x ≤ s.pr x ∧ (s.unch n p m).pg x ≤ s.pg x := by
  unfold TG.unch
  split
  · rename_i h
    obtain ⟨_, p0, p1, m0, m1⟩ := unchE_0 h
    refine ⟨rfl, rfl, rfl, ?_, ?_⟩
    · show s.pr x + -p * ((s.way n).count x : Int) ≤ _
      have := Int.mul_nonneg p0 (show (0 : Int) ≤ ((s.way n).count x : Int) by omega)
      rw [Int.neg_mul]; omega
    · show s.pg x + -m * ((s.way n).count x : Int) ≤ _
      have := Int.mul_nonneg m0 (show (0 : Int) ≤ ((s.way n).count x : Int) by omega)
      rw [Int.neg_mul]; omega
  · exact ⟨rfl, rfl, rfl, Int.le_refl _, Int.le_refl _⟩
theorem Lim.unch (s : TG) (n p m : Int) : s.Lim (s.unch n p m) := fun x x0 x1 x2 => by
  obtain ⟨e1, _, _, e4, e5⟩ := unch_le (s := s) n p m (x := x)
  rw [e1] at x2
  rw [was_here x0 x1 x2]
  exact ⟨fun _ => .inr e4, fun _ => .inr e5⟩
theorem Lim.move {s : TG} (hO : s.Ok) (a b p m : Int) : s.Lim (s.move a b p m) := by
  unfold TG.move
  split
  · exact Lim.refl s
  · split
    · rename_i hc
      intro x x0 x1 x2
      obtain ⟨e1, e2, e3, e4, e5⟩ := unch_le (s := s) a p m (x := x)
      have hl := Lim.charge hO.unch b p m (s := s.unch a p m) x x0 x1 x2
      have x3 : (s.unch a p m).here x = true := by
        have e : (s.unch a p m).charge b p m = (s.unch a p m).lay ((s.unch a p m).way b) p m := by unfold TG.charge; rw [if_pos hc]
        rw [e] at x2; exact x2
      rw [was_here x0 x1 x3] at hl
      have x4 : s.here x = true := by rw [← e1]; exact x3
      rw [was_here x0 x1 x4]
      have k1 : ((s.unch a p m).gv x).pr ≤ (s.gv x).pr := e4
      have k2 : ((s.unch a p m).gv x).pg ≤ (s.gv x).pg := e5
      refine ⟨fun q => ?_, fun q => ?_⟩
      · rcases hl.1 q with h | h
        · exact .inl h
        · exact .inr (by omega)
      · rcases hl.2 q with h | h
        · exact .inl h
        · exact .inr (by omega)
    · exact Lim.refl s
/-- own: what is charged to each itself -/
def Own (s : TG) (f g : Int → Int) : Prop := ∀ n, 0 ≤ n → n < 10 → s.here n = true → f n = s.left s.pr n ∧ g n = s.left s.pg n
theorem Own.lay {s : TG} (hO : s.Ok) {f g : Int → Int} (h : s.Own f g) {n : Int} (h0 : 0 ≤ n) (h1 : n < 10) (h2 : s.here n = true) (p m : Int) : (s.lay (s.way n) p m).Own (fset f n (f n + p)) (fset g n (g n + m)) := fun x x0 x1 x2 => by
  have a2 : (s.lay (s.way n) p m).left (s.lay (s.way n) p m).pr x = s.left s.pr x + if x = n then p else 0 := left_lay hO h0 h1 h2 s.pr p x0
  have b2 : (s.lay (s.way n) p m).left (s.lay (s.way n) p m).pg x = s.left s.pg x + if x = n then m else 0 := left_lay hO h0 h1 h2 s.pg m x0
  rw [a2, b2]
  obtain ⟨e1, e2⟩ := h x x0 x1 x2
  by_cases hx : x = n
  · subst hx; rw [fset_eq, fset_eq, if_pos rfl, if_pos rfl, e1, e2]; exact ⟨rfl, rfl⟩
  · rw [fset_ne _ _ hx, fset_ne _ _ hx, if_neg hx, if_neg hx, e1, e2]; exact ⟨by omega, by omega⟩
theorem Own.charge {s : TG} (hO : s.Ok) {f g : Int → Int} (h : s.Own f g) {n p m : Int} (hc : s.chargeE n p m = 0) : (s.charge n p m).Own (fset f n (f n + p)) (fset g n (g n + m)) := by
  obtain ⟨⟨n0, n1, n2⟩, _⟩ := chargeE_0 hc
  have e : s.charge n p m = s.lay (s.way n) p m := by unfold TG.charge; rw [if_pos hc]
  rw [e]; exact h.lay hO n0 n1 n2 p m
theorem Own.unch {s : TG} (hO : s.Ok) {f g : Int → Int} (h : s.Own f g) {n p m : Int} (hc : s.unchE n p m = 0) : (s.unch n p m).Own (fset f n (f n - p)) (fset g n (g n - m)) := by
  obtain ⟨⟨n0, n1, n2⟩, _⟩ := unchE_0 hc
  have e : s.unch n p m = s.lay (s.way n) (-p) (-m) := by unfold TG.unch; rw [if_pos hc]
  rw [e]
  have := h.lay hO n0 n1 n2 (-p) (-m)
  rw [show f n + -p = f n - p from by omega, show g n + -m = g n - m from by omega] at this
  exact this
theorem moveE_0 {s : TG} {a b p m : Int} (h : s.moveE a b p m = 0) : s.unchE a p m = 0 ∧ (s.unch a p m).chargeE b p m = 0 ∧ s.move a b p m = (s.unch a p m).charge b p m := by
  unfold moveE at h
  split at h
  · omega
  · split at h
    · omega
    · rename_i h1 h2
      refine ⟨by omega, h, ?_⟩
      unfold TG.move
      rw [if_neg (fun q => by rcases q with q | q <;> omega), if_pos h]
theorem moveE_no {s : TG} {a b p m : Int} (h : ¬ s.moveE a b p m = 0) : s.move a b p m = s := by
  unfold moveE at h
  unfold TG.move
  split
  · rfl
  · rename_i h1
    have n1 : s.isE b = 0 := by
      by_cases q : s.isE b = 0
      · exact q
      · exact absurd (.inl q) h1
    have n2 : s.unchE a p m = 0 := by
      by_cases q : s.unchE a p m = 0
      · exact q
      · exact absurd (.inr q) h1
    rw [if_neg (by omega), if_neg (by omega)] at h
    rw [if_neg h]
theorem Own.move {s : TG} (hO : s.Ok) {f g : Int → Int} (h : s.Own f g) {a b p m : Int} (hc : s.moveE a b p m = 0) : (s.move a b p m).Own (fset (fset f a (f a - p)) b (fset f a (f a - p) b + p)) (fset (fset g a (g a - m)) b (fset g a (g a - m) b + m)) := by
  obtain ⟨h1, h2, h3⟩ := moveE_0 hc
  rw [h3]
  exact (h.unch hO h1).charge hO.unch h2
theorem Own.add {s : TG} (hO : s.Ok) {f g : Int → Int} (h : s.Own f g) {a : Int} (ha : s.addE a = 0) : (s.add a).Own (fset f (s.addN a) 0) (fset g (s.addN a) 0) := by
  obtain ⟨e1, e2, e3, e4, e5, _⟩ := addE_0 ha
  have e : s.add a = s.put (s.addN a) a := by unfold TG.add; rw [if_pos ha]
  rw [e]
  intro x x0 x1 x2
  show _ = (s.put (s.addN a) a).left (fset s.pr (s.addN a) 0) x ∧ _ = (s.put (s.addN a) a).left (fset s.pg (s.addN a) 0) x
  by_cases hx : x = s.addN a
  · have ha2 : a ≠ s.addN a := fun q => by
      have := (isE_ok e1).2.2
      rw [q, e5] at this; cases this
    rw [hx, left_new hO e5 e3 ha2, left_new hO e5 e3 ha2, fset_eq, fset_eq]; exact ⟨rfl, rfl⟩
  · have hx2 : s.here x = true := by
      have : (s.put (s.addN a) a).here x = fset s.here (s.addN a) true x := rfl
      rw [this, fset_ne _ _ hx] at x2; exact x2
    rw [left_put hO e5 _ hx2, left_put hO e5 _ hx2, fset_ne _ _ hx, fset_ne _ _ hx]
    exact h x x0 x1 hx2
theorem Own.add_no {s : TG} {f g : Int → Int} (h : s.Own f g) {a : Int} (ha : ¬ s.addE a = 0) : (s.add a).Own f g := by
  have e : s.add a = s := by unfold TG.add; rw [if_neg ha]
  rw [e]; exact h
theorem Own.remove {s : TG} (hI : s.Inv) {f g : Int → Int} (h : s.Own f g) (n : Int) : (s.remove n).Own f g := by
  unfold TG.remove; split
  · rename_i h0
    obtain ⟨e1, e2, e3, e4, e5⟩ := removeE_0 h0
    obtain ⟨n0, n1, n2⟩ := isE_ok e1
    have hnn := hI.nn n0 n1 n2
    intro x x0 x1 x2
    have hx : x ≠ n := fun e => by
      subst e
      have : (s.clr x).here x = fset s.here x false x := rfl
      rw [this, fset_eq] at x2; cases x2
    have x3 : s.here x = true := by
      have : (s.clr n).here x = fset s.here n false x := rfl
      rw [this, fset_ne _ _ hx] at x2; exact x2
    have key : ∀ f : Int → Int, f n = 0 → (s.clr n).left (fset f n 0) x = s.left f x := fun f hf => by
      unfold left
      rw [fset_ne _ _ hx]
      congr 1
      refine sumN_congr 10 (fun j j0 j1 => ?_)
      unfold kid
      show (if fset s.here n false j = true ∧ fset s.par n 0 j = x then fset f n 0 j else 0) = _
      by_cases hj : j = n
      · subst hj; rw [fset_eq]; simp [hf]
      · rw [fset_ne _ _ hj, fset_ne _ _ hj, fset_ne _ _ hj]
    show _ = (s.clr n).left (fset s.pr n 0) x ∧ _ = (s.clr n).left (fset s.pg n 0) x
    rw [key _ (by omega), key _ (by omega)]
    exact h x x0 x1 x3
  · exact h
theorem Own.limit {s : TG} {f g : Int → Int} (h : s.Own f g) (n p m : Int) : (s.limit n p m).Own f g := by
  unfold TG.limit; split <;> exact h
theorem Own.same {s t : TG} {f g : Int → Int} (h : s.Own f g) (e : t = s) : t.Own f g := by subst e; exact h
theorem Own.init : TG.init.Own (fun _ => 0) (fun _ => 0) := fun n _ _ n2 => by
  have : n = 0 := by rw [init_here] at n2; simpa using n2
  subst this
  decide +kernel
theorem left_small {s : TG} {B : Int} (h : s.Small B) (hB : 0 ≤ B ∧ B ≤ 1000000000000) {n : Int} (h0 : 0 ≤ n) (h1 : n < 10) : (-(B * 11) ≤ s.left s.pr n ∧ s.left s.pr n ≤ B * 11) ∧ (-(B * 11) ≤ s.left s.pg n ∧ s.left s.pg n ≤ B * 11) := by
  have k := kid_small h hB ⟨h0, h1⟩ (k := 10) (by omega)
  have hn := h n h0 h1
  have e : (10 : Int).toNat = 10 := rfl
  rw [e] at k
  unfold left
  omega
end TG
theorem wsum_congr {c : Int → Int → Int} {f g : Int → Int} {L : List Int} (h : ∀ x ∈ L, f x = g x) (n : Int) : wsum c f L n = wsum c g L n := by
  unfold wsum
  congr 1
  exact List.map_congr_left (fun x hx => by rw [h x hx])
theorem wsum_small {s : TG} (hO : s.Ok) {f : Int → Int} {B : Int} (hB : 0 ≤ B) (hf : ∀ x, 0 ≤ x → x < 10 → s.here x = true → -(B * 11) ≤ f x ∧ f x ≤ B * 11) (i : Nat) (q : Int) :
    -(550 * B) ≤ wsum s.cnt f (s.all.take i) q ∧ wsum s.cnt f (s.all.take i) q ≤ 550 * B := by
  have h1 := wsum_bnd (c := s.cnt) (f := f) (K := B * 11) (by omega) (n := q) (s.all.take i) (fun x hx => by
    obtain ⟨x0, x1, x2⟩ := (allK_mem s.here 10 x).1 (List.mem_of_mem_take hx)
    have h2 := hO.cnt_le x0 (by omega) x2 q
    have h3 := hf x x0 (by omega) x2
    exact ⟨by unfold TG.cnt; omega, by omega, h3.1, h3.2⟩)
  have h4 : ((s.all.take i).length : Int) ≤ 10 := by
    have h5 : (s.all.take i).length ≤ s.all.length := by rw [List.length_take]; omega
    have h6 : s.all.length ≤ 10 := allK_len s.here 10
    omega
  have h7 : 5 * (B * 11) * ((s.all.take i).length : Int) ≤ 5 * (B * 11) * 10 := Int.mul_le_mul_of_nonneg_left h4 (by omega)
  omega
theorem part_small {pre : List Int} (hp : pre.length ≤ 5) {v K : Int} (hK : 0 ≤ K) (hv : -K ≤ v ∧ v ≤ K) (q : Int) : -(K * 5) ≤ (pre.count q : Int) * v ∧ (pre.count q : Int) * v ≤ K * 5 := by
  have := TG.mul_bnd (p := v) (c := (pre.count q : Int)) (K := K) (by omega) hv (n := 5) (by have := List.count_le_length (a := q) (l := pre); omega) hK
  rw [Int.mul_comm v] at this
  exact this
theorem part_step (W : Int → Int) (pre : List Int) (v q : Int) : fset (fun n => W n + (pre.count n : Int) * v) q (W q + (pre.count q : Int) * v + v) = fun n => W n + ((pre ++ [q]).count n : Int) * v := by
  funext n
  unfold fset
  by_cases h : n = q
  · subst h
    rw [if_pos rfl, List.count_append, List.count_singleton_self]
    push_cast
    rw [Int.add_mul, Int.one_mul]; omega
  · have h2 : ¬ q = n := fun e => h e.symm
    rw [if_neg h, List.count_append, List.count_singleton]
    simp [h2]
theorem part_nil (W : Int → Int) (v : Int) : (fun n => W n + (([] : List Int).count n : Int) * v) = W := by funext n; simp
theorem part_all {s : TG} (f : Int → Int) {z : Int} (h0 : 0 ≤ z) (h1 : z < s.all.length) {pre : List Int} (h : pre = s.way (at0 s.all z)) :
    (fun n => wsum s.cnt f (s.all.take z.toNat) n + (pre.count n : Int) * f (at0 s.all z)) = wsum s.cnt f (s.all.take (z + 1).toNat) := by
  funext n
  rw [take_at0' h0 h1, wsum_snoc, h]; rfl
theorem TG.Ok.all_head {s : TG} (h : s.Ok) : 0 < s.all.length ∧ at0 s.all 0 = 0 := by
  obtain ⟨r, hr⟩ := allK_head h.root.1 10 (by omega)
  have e : s.all = 0 :: r := hr
  rw [e]
  exact ⟨by simp, rfl⟩
def wasK (s : TG) (k : Int) : Int → GV := fun n => if 0 ≤ n ∧ n < k then s.was n else GV.zero
theorem wasK_zero (s : TG) : wasK s 0 = fun _ => GV.zero := by funext n; unfold wasK; exact if_neg (by omega)
theorem wasK_next (s : TG) {k : Int} (h : 0 ≤ k) : fset (wasK s k) k (s.was k) = wasK s (k + 1) := by
  funext n
  unfold fset wasK
  by_cases hn : n = k
  · subst hn; rw [if_pos rfl, if_pos (by omega)]
  · rw [if_neg hn]
    by_cases h2 : 0 ≤ n ∧ n < k
    · rw [if_pos h2, if_pos (by omega)]
    · rw [if_neg h2, if_neg (by omega)]
theorem wasK_all {s : TG} {n : Int} (h0 : 0 ≤ n) (h1 : n < 10) : wasK s 10 n = s.was n := if_pos ⟨h0, h1⟩
theorem encV_par {g g' : GV} (h : g = g') : 0 + 0 < 5 ∧ encV g (0 + 0) = .int .i64 g'.par := by subst h; exact encV.ld_Parent g

end Go.X
