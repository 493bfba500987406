import Derived.Test.YthdinakloheinaaGreatDoorkVBM
namespace Go.X.Vm
open Go Go.X
/-! ### vm: regions -/
structure RG where
  fr : Int
  n : Int
  w : Bool
def RG.nil : RG := ⟨0, 0, false⟩
def RG.arr (r : RG) : Array Value := #[.int .i64 r.fr, .int .i64 r.n, .bool r.w]
def RG.cell (r : RG) (j : Nat) : Value := match j with
  | 0 => .int .i64 r.fr
  | 1 => .int .i64 r.n
  | 2 => .bool r.w
  | _ => undef
def rat (l : List RG) (z : Int) : RG := l.getD z.toNat RG.nil
def rgC (l : List RG) (i : Nat) : Value := (l.getD (i / 3) RG.nil).cell (i % 3)
def rgB (r : RG) (i : Nat) : Value := r.cell i
theorem rgB.agg (r : RG) : 0 + 3 ≤ 3 ∧ aggOf (rgB r) 0 3 = .agg r.arr := ⟨by omega, rfl⟩
theorem rgB.box (r : RG) : ∀ i, i < 3 → cellsOf r.arr i = rgB r i := fun i h => by
  match i, h with
  | 0, _ => rfl
  | 1, _ => rfl
  | 2, _ => rfl
  | k + 3, h => omega
theorem rgB.f (r : RG) : 0 + 0 < 3 ∧ rgB r (0 + 0) = .int .i64 r.fr := ⟨by omega, rfl⟩
theorem rgB.n (r : RG) : 0 + 1 < 3 ∧ rgB r (0 + 1) = .int .i64 r.n := ⟨by omega, rfl⟩
theorem rgB.w (r : RG) : 0 + 2 < 3 ∧ rgB r (0 + 2) = .bool r.w := ⟨by omega, rfl⟩
theorem rgB.st (r q : RG) : 0 + 3 ≤ 3 ∧ updL (rgB q) 0 r.arr.toList = rgB r := ⟨by omega, by
  funext i
  match i with
  | 0 => rfl
  | 1 => rfl
  | 2 => rfl
  | k + 3 => simp [updL, upd, RG.arr, rgB, RG.cell]⟩
theorem rgC_at (l : List RG) {z : Int} (h : 0 ≤ z ∧ z < l.length) (j : Nat) (hj : j < 3) : rgC l (0 + z.toNat * 3 + j) = (rat l z).cell j := by
  unfold rgC rat
  rw [show (0 + z.toNat * 3 + j) / 3 = z.toNat from by omega, show (0 + z.toNat * 3 + j) % 3 = j from by omega]
theorem rgC.agg {l : List RG} {z : Int} (h : 0 ≤ z ∧ z < l.length) : 0 + z.toNat * 3 + 3 ≤ l.length * 3 ∧ aggOf (rgC l) (0 + z.toNat * 3) 3 = .agg (rat l z).arr := by
  refine ⟨by omega, ?_⟩
  simp only [aggOf, List.range, List.range.loop, List.map_cons, List.map_nil]
  rw [rgC_at l h 0 (by omega), rgC_at l h 1 (by omega), rgC_at l h 2 (by omega)]
  rfl
theorem rgC.f {l : List RG} {z : Int} (h : 0 ≤ z ∧ z < l.length) : 0 + z.toNat * 3 + 0 < l.length * 3 ∧ rgC l (0 + z.toNat * 3 + 0) = .int .i64 (rat l z).fr := ⟨by omega, rgC_at l h 0 (by omega)⟩
theorem rgC.n {l : List RG} {z : Int} (h : 0 ≤ z ∧ z < l.length) : 0 + z.toNat * 3 + 1 < l.length * 3 ∧ rgC l (0 + z.toNat * 3 + 1) = .int .i64 (rat l z).n := ⟨by omega, rgC_at l h 1 (by omega)⟩
theorem rgC.w {l : List RG} {z : Int} (h : 0 ≤ z ∧ z < l.length) : 0 + z.toNat * 3 + 2 < l.length * 3 ∧ rgC l (0 + z.toNat * 3 + 2) = .bool (rat l z).w := ⟨by omega, rgC_at l h 2 (by omega)⟩
theorem rgC.app (l : List RG) (r : RG) (C1 : Nat → Value) (hC : ∀ i, i < 3 → C1 i = r.cell i) : ∀ i, i < (l.length + 1) * 3 → rgC (l ++ [r]) i = if i < l.length * 3 then rgC l i else C1 (i - l.length * 3) := fun i hi => by
  unfold rgC
  by_cases h : i < l.length * 3
  · rw [if_pos h]
    simp only [List.getD_eq_getElem?_getD]
    rw [List.getElem?_append_left (by omega)]
  · rw [if_neg h, hC _ (by omega)]
    simp only [List.getD_eq_getElem?_getD]
    rw [List.getElem?_append_right (by omega), show i / 3 - l.length = 0 from by omega, show i - l.length * 3 = i % 3 from by omega]
    rfl
/-- the last one is made longer -/
def lset (l : List RG) (r : RG) : List RG := l.dropLast ++ [r]
theorem lset_length {l : List RG} {r : RG} (h : 0 < l.length) : (lset l r).length = l.length := by unfold lset; simp; omega
theorem rgC.grow {l : List RG} (h : 0 < l.length) (m : Int) : 0 + ((l.length : Int) - 1).toNat * 3 + 1 < l.length * 3 ∧ upd (rgC l) (0 + ((l.length : Int) - 1).toNat * 3 + 1) (.int .i64 m) = rgC (lset l { rat l ((l.length : Int) - 1) with n := m }) := by
  refine ⟨by omega, ?_⟩
  funext i
  unfold upd rgC lset
  simp only [List.getD_eq_getElem?_getD]
  by_cases c : i / 3 < l.length - 1
  · rw [if_neg (by omega), List.getElem?_append_left (by simp; omega), List.getElem?_dropLast, if_pos c]
  · by_cases c2 : i / 3 = l.length - 1
    · rw [List.getElem?_append_right (by simp; omega), show i / 3 - l.dropLast.length = 0 from by simp; omega]
      have e : l[i / 3]?.getD RG.nil = rat l ((l.length : Int) - 1) := by
        unfold rat
        rw [show ((l.length : Int) - 1).toNat = i / 3 from by omega]
        simp [List.getD_eq_getElem?_getD]
      rw [e]
      have : i % 3 = 0 ∨ i % 3 = 1 ∨ i % 3 = 2 := by omega
      rcases this with q | q | q
      · rw [if_neg (by omega), q]; rfl
      · rw [if_pos (by omega), q]; rfl
      · rw [if_neg (by omega), q]; rfl
    · rw [if_neg (by omega), List.getElem?_append_right (by simp; omega), List.getElem?_eq_none (by omega), List.getElem?_eq_none (by simp; omega)]
/-! merging -/
def mgS (l : List RG) (r : RG) : List RG := match l.getLast? with
  | some q => if q.fr + q.n = r.fr ∧ q.w = r.w then l.dropLast ++ [{ q with n := q.n + r.n }] else l ++ [r]
  | none => [r]
theorem mgS_nil (r : RG) : mgS [] r = [r] := rfl
theorem mgS_snoc (l : List RG) (q r : RG) : mgS (l ++ [q]) r = if q.fr + q.n = r.fr ∧ q.w = r.w then l ++ [{ q with n := q.n + r.n }] else l ++ [q, r] := by
  simp [mgS]
theorem rat_last (l : List RG) (q : RG) : rat (l ++ [q]) (((l ++ [q]).length : Int) - 1) = q := by
  unfold rat
  rw [show (((l ++ [q]).length : Int) - 1).toNat = l.length from by simp]
  simp
theorem snoc_of {l : List RG} (h : 0 < l.length) : ∃ l' q, l = l' ++ [q] := ⟨l.dropLast, l.getLast (by intro e; rw [e] at h; simp at h), (List.dropLast_concat_getLast _).symm⟩
theorem mgS_hit {l : List RG} {r : RG} (h : 0 < l.length) (h1 : (rat l ((l.length : Int) - 1)).fr + (rat l ((l.length : Int) - 1)).n = r.fr) (h2 : (rat l ((l.length : Int) - 1)).w = r.w) :
    mgS l r = lset l { rat l ((l.length : Int) - 1) with n := (rat l ((l.length : Int) - 1)).n + r.n } := by
  obtain ⟨l', q, rfl⟩ := snoc_of h
  rw [rat_last] at *
  rw [mgS_snoc, if_pos ⟨h1, h2⟩]
  simp [lset]
theorem mgS_miss {l : List RG} {r : RG} (h : 0 < l.length → ¬ ((rat l ((l.length : Int) - 1)).fr + (rat l ((l.length : Int) - 1)).n = r.fr ∧ (rat l ((l.length : Int) - 1)).w = r.w)) : mgS l r = l ++ [r] := by
  rcases Nat.eq_zero_or_pos l.length with q | q
  · rw [List.length_eq_zero_iff] at q; subst q; rfl
  · obtain ⟨l', x, rfl⟩ := snoc_of q
    have h1 := h q
    rw [rat_last] at h1
    rw [mgS_snoc, if_neg h1]; simp
theorem mgS_split (l : List RG) (a n m : Int) (w : Bool) (_ : 0 < n) : mgS (mgS l ⟨a, n, w⟩) ⟨a + n, m, w⟩ = mgS l ⟨a, n + m, w⟩ := by
  rcases Nat.eq_zero_or_pos l.length with q | q
  · rw [List.length_eq_zero_iff] at q; subst q
    rw [mgS_nil, mgS_nil]
    have := mgS_snoc [] ⟨a, n, w⟩ ⟨a + n, m, w⟩
    simpa using this
  · obtain ⟨l', x, rfl⟩ := snoc_of q
    rw [mgS_snoc, mgS_snoc]
    by_cases c : x.fr + x.n = a ∧ x.w = w
    · simp only [c, and_self, if_true]
      rw [mgS_snoc, if_pos ⟨by simp; omega, by simp⟩]
      simp; omega
    · simp only [c, if_false]
      have := mgS_snoc (l' ++ [x]) ⟨a, n, w⟩ ⟨a + n, m, w⟩
      simpa using this
def mg (l : List RG) : List RG := l.foldl mgS []
/-- the pages of a region, one by one -/
def unitsR (a : Int) (w : Bool) : Nat → List RG
  | 0 => []
  | k + 1 => unitsR a w k ++ [⟨a + k, 1, w⟩]
theorem foldl_units (l : List RG) (a : Int) (w : Bool) : ∀ k : Nat, 0 < k → (unitsR a w k).foldl mgS l = mgS l ⟨a, k, w⟩
  | 0, h => by omega
  | 1, _ => by simp [unitsR]
  | k + 2, _ => by
    rw [unitsR, List.foldl_append, foldl_units l a w (k + 1) (by omega)]
    have := mgS_split l a ((k + 1 : Nat) : Int) 1 w (by omega)
    simp only [List.foldl_cons, List.foldl_nil]
    rw [this]
    congr 1
def RG.units (r : RG) : List RG := unitsR r.fr r.w r.n.toNat
theorem mg_units : ∀ (l : List RG) (acc : List RG), (∀ r ∈ l, 0 < r.n) → (l.flatMap RG.units).foldl mgS acc = l.foldl mgS acc
  | [], _, _ => rfl
  | r :: l, acc, h => by
    have h1 := h r (by simp)
    simp only [List.flatMap_cons, List.foldl_append, List.foldl_cons]
    rw [RG.units, foldl_units acc r.fr r.w r.n.toNat (by omega), mg_units l _ (fun x hx => h x (by simp [hx]))]
    congr 2
    cases r; simp only [RG.mk.injEq, true_and, and_true]; simp at h1; omega
theorem mem_units {a : Int} {w : Bool} {u : RG} : ∀ {k : Nat}, u ∈ unitsR a w k ↔ ∃ i : Int, a ≤ i ∧ i < a + k ∧ u = ⟨i, 1, w⟩
  | 0 => by simp only [unitsR, List.not_mem_nil, false_iff]; rintro ⟨i, h1, h2, _⟩; simp at h2; omega
  | k + 1 => by
    rw [unitsR, List.mem_append, mem_units (k := k), List.mem_singleton]
    constructor
    · rintro (⟨i, h1, h2, h3⟩ | h)
      · exact ⟨i, h1, by omega, h3⟩
      · exact ⟨a + k, by omega, by omega, h⟩
    · rintro ⟨i, h1, h2, h3⟩
      by_cases c : i < a + k
      · exact .inl ⟨i, h1, c, h3⟩
      · right; rw [h3]; congr 1; omega
theorem units_sorted {a : Int} {w : Bool} : ∀ k : Nat, (unitsR a w k).Pairwise (fun x y => x.fr < y.fr)
  | 0 => .nil
  | k + 1 => by
    rw [unitsR, List.pairwise_append]
    refine ⟨units_sorted k, by simp, fun x hx y hy => ?_⟩
    obtain ⟨i, h1, h2, rfl⟩ := mem_units.1 hx
    simp only [List.mem_singleton] at hy; subst hy
    exact h2
/-- two rising lists with the same members are one -/
theorem eq_of_rising {α : Type} (f : α → Int) : ∀ {l m : List α}, l.Pairwise (fun x y => f x < f y) → m.Pairwise (fun x y => f x < f y) → (∀ x, x ∈ l ↔ x ∈ m) → l = m
  | [], [], _, _, _ => rfl
  | [], y :: m, _, _, h => absurd ((h y).2 (by simp)) (by simp)
  | x :: l, [], _, _, h => absurd ((h x).1 (by simp)) (by simp)
  | x :: l, y :: m, hl, hm, h => by
    rw [List.pairwise_cons] at hl hm
    have e : x = y := by
      rcases List.mem_cons.1 ((h x).1 (by simp)) with q | q
      · exact q
      · rcases List.mem_cons.1 ((h y).2 (by simp)) with q2 | q2
        · exact q2.symm
        · have := hl.1 y q2; have := hm.1 x q; omega
    subst e
    congr 1
    refine eq_of_rising f hl.2 hm.2 fun z => ?_
    constructor
    · intro hz
      rcases List.mem_cons.1 ((h z).1 (by simp [hz])) with q | q
      · subst q; have := hl.1 z hz; omega
      · exact q
    · intro hz
      rcases List.mem_cons.1 ((h z).2 (by simp [hz])) with q | q
      · subst q; have := hm.1 z hz; omega
      · exact q
/-! what is mapped -/
def kd (w : Bool) : Int := if w then 2 else 1
structure OkF (f : Int → Int) : Prop where
  v : ∀ i, f i = 0 ∨ f i = 1 ∨ f i = 2
  out : ∀ i, i < 0 ∨ 16 ≤ i → f i = 0
def unitsF (f : Int → Int) : Nat → List RG
  | 0 => []
  | k + 1 => unitsF f k ++ (if f k = 0 then [] else [⟨k, 1, decide (f k = 2)⟩])
def runsN (f : Int → Int) (k : Nat) : List RG := mg (unitsF f k)
def runs (f : Int → Int) : List RG := runsN f 16
theorem runsN_next (f : Int → Int) (k : Nat) : runsN f (k + 1) = if f k = 0 then runsN f k else mgS (runsN f k) ⟨k, 1, decide (f k = 2)⟩ := by
  unfold runsN mg
  rw [unitsF, List.foldl_append]
  split <;> simp
theorem mem_unitsF {f : Int → Int} {u : RG} : ∀ {k : Nat}, u ∈ unitsF f k ↔ ∃ i : Int, 0 ≤ i ∧ i < k ∧ f i ≠ 0 ∧ u = ⟨i, 1, decide (f i = 2)⟩
  | 0 => by simp only [unitsF, List.not_mem_nil, false_iff]; rintro ⟨i, h1, h2, _⟩; simp at h2; omega
  | k + 1 => by
    rw [unitsF, List.mem_append, mem_unitsF (k := k)]
    constructor
    · rintro (⟨i, h1, h2, h3⟩ | h)
      · exact ⟨i, h1, by omega, h3⟩
      · split at h
        · simp at h
        · rename_i c
          simp only [List.mem_singleton] at h
          exact ⟨k, by omega, by omega, c, h⟩
    · rintro ⟨i, h1, h2, h3, h4⟩
      by_cases c : i < k
      · exact .inl ⟨i, h1, c, h3, h4⟩
      · have e : i = k := by omega
        subst e
        right; rw [if_neg h3, h4]; simp
theorem unitsF_sorted {f : Int → Int} : ∀ k : Nat, (unitsF f k).Pairwise (fun x y => x.fr < y.fr)
  | 0 => .nil
  | k + 1 => by
    rw [unitsF, List.pairwise_append]
    refine ⟨unitsF_sorted k, by split <;> simp, fun x hx y hy => ?_⟩
    obtain ⟨i, h1, h2, _, rfl⟩ := mem_unitsF.1 hx
    split at hy
    · simp at hy
    · simp only [List.mem_singleton] at hy; subst hy; exact h2
/-- regions apart, each within bounds -/
structure GL (l : List RG) : Prop where
  b : ∀ r ∈ l, 0 ≤ r.fr ∧ 0 < r.n ∧ r.fr + r.n ≤ 16
  p : l.Pairwise (fun x y => x.fr + x.n ≤ y.fr ∨ y.fr + y.n ≤ x.fr)
def RG.has (r : RG) (i : Int) : Prop := r.fr ≤ i ∧ i < r.fr + r.n
/-- they say what is mapped -/
structure Cov (l : List RG) (f : Int → Int) : Prop where
  h1 : ∀ r ∈ l, ∀ i, r.has i → f i = kd r.w
  h2 : ∀ i, f i ≠ 0 → ∃ r ∈ l, r.has i
theorem GL.perm {l m : List RG} (h : GL l) (hp : l.Perm m) : GL m :=
  ⟨fun r hr => h.b r (hp.mem_iff.2 hr), (hp.pairwise_iff (fun hxy => hxy.symm)).1 h.p⟩
theorem Cov.perm {l m : List RG} {f : Int → Int} (h : Cov l f) (hp : l.Perm m) : Cov m f :=
  ⟨fun r hr => h.h1 r (hp.mem_iff.2 hr), fun i hi => by obtain ⟨r, hr, h2⟩ := h.h2 i hi; exact ⟨r, hp.mem_iff.1 hr, h2⟩⟩
theorem kd_two (w : Bool) : decide (kd w = 2) = w := by cases w <;> rfl
theorem kd_ne (w : Bool) : kd w ≠ 0 := by cases w <;> decide
/-- rising regions that say f, merged, are f's runs -/
theorem mg_runs {l : List RG} {f : Int → Int} (hg : GL l) (hc : Cov l f) (hf : OkF f) (hs : l.Pairwise (fun x y => x.fr ≤ y.fr)) : mg l = runs f := by
  unfold runs runsN
  have e : l.flatMap RG.units = unitsF f 16 := by
    refine eq_of_rising (fun r => r.fr) ?_ (unitsF_sorted 16) fun u => ?_
    · rw [List.pairwise_flatMap]
      refine ⟨fun r _ => units_sorted _, ?_⟩
      have hq := hs.and hg.p
      refine hq.imp_of_mem ?_
      rintro x y hx hy ⟨h1, h2⟩ u hu v hv
      obtain ⟨i, i1, i2, rfl⟩ := mem_units.1 hu
      obtain ⟨j, j1, j2, rfl⟩ := mem_units.1 hv
      have := hg.b x hx; have := hg.b y hy
      show i < j
      omega
    · rw [List.mem_flatMap, mem_unitsF]
      constructor
      · rintro ⟨r, hr, hu⟩
        obtain ⟨i, i1, i2, rfl⟩ := mem_units.1 hu
        have hb := hg.b r hr
        have := hc.h1 r hr i ⟨i1, by omega⟩
        exact ⟨i, by omega, by omega, by rw [this]; exact kd_ne _, by rw [this, kd_two]⟩
      · rintro ⟨i, i1, i2, i3, rfl⟩
        obtain ⟨r, hr, h⟩ := hc.h2 i i3
        have hb := hg.b r hr
        refine ⟨r, hr, mem_units.2 ⟨i, h.1, ?_, ?_⟩⟩
        · have := h.2; omega
        · rw [hc.h1 r hr i h, kd_two]
  rw [← e]
  exact (mg_units l [] (fun r hr => (hg.b r hr).2.1)).symm
/-- the runs themselves: rising, apart, what is mapped -/
structure RunsOk (l : List RG) (f : Int → Int) (k : Nat) : Prop where
  b : ∀ r ∈ l, 0 ≤ r.fr ∧ 0 < r.n ∧ r.fr + r.n ≤ k
  s : l.Pairwise (fun x y => x.fr + x.n ≤ y.fr)
  h1 : ∀ r ∈ l, ∀ i, r.has i → f i = kd r.w
  h2 : ∀ i : Int, 0 ≤ i → i < k → f i ≠ 0 → ∃ r ∈ l, r.has i
theorem runsN_ok {f : Int → Int} (hf : OkF f) : ∀ k : Nat, RunsOk (runsN f k) f k
  | 0 => ⟨by intro r h; simp [runsN, unitsF, mg] at h, by simp [runsN, unitsF, mg], by intro r h; simp [runsN, unitsF, mg] at h, fun i a b => by simp at b; omega⟩
  | k + 1 => by
    have ih := runsN_ok hf k
    rw [runsN_next]
    split
    · rename_i c
      refine ⟨fun r hr => ?_, ih.s, ih.h1, fun i a b d => ?_⟩
      · have := ih.b r hr; omega
      · refine ih.h2 i a ?_ d
        by_cases e : i = k
        · subst e; contradiction
        · omega
    · rename_i c
      have hk : f k = kd (decide (f k = 2)) := by
        rcases hf.v k with q | q | q
        · contradiction
        · rw [q]; rfl
        · rw [q]; rfl
      rcases Nat.eq_zero_or_pos (runsN f k).length with q | q
      · rw [List.length_eq_zero_iff] at q
        rw [q, mgS_nil]
        rw [q] at ih
        refine ⟨fun r hr => ?_, by simp, fun r hr i hi => ?_, fun i a b d => ?_⟩
        · simp only [List.mem_singleton] at hr; subst hr; simp
        · simp only [List.mem_singleton] at hr; subst hr
          have : i = k := by have := hi.1; have := hi.2; simp at *; omega
          subst this; exact hk
        · by_cases e : i = k
          · subst e; exact ⟨_, List.mem_singleton.2 rfl, by simp, by simp; omega⟩
          · obtain ⟨r, hr, _⟩ := ih.h2 i a (by omega) d
            simp at hr
      · obtain ⟨l', x, hx⟩ := snoc_of q
        rw [hx] at ih ⊢
        rw [mgS_snoc]
        have hbx := ih.b x (by simp)
        have hsx := (List.pairwise_append.1 ih.s).2.2
        split
        · rename_i d
          obtain ⟨d1, d2⟩ := d
          refine ⟨fun r hr => ?_, ?_, fun r hr i hi => ?_, fun i a b e => ?_⟩
          · rcases List.mem_append.1 hr with hr | hr
            · have := ih.b r (by simp [hr]); omega
            · simp only [List.mem_singleton] at hr; subst hr; simp; simp at d1; omega
          · rw [List.pairwise_append]
            refine ⟨(List.pairwise_append.1 ih.s).1, by simp, fun y hy z hz => ?_⟩
            simp only [List.mem_singleton] at hz; subst hz
            exact hsx y hy x (by simp)
          · rcases List.mem_append.1 hr with hr | hr
            · exact ih.h1 r (by simp [hr]) i hi
            · simp only [List.mem_singleton] at hr; subst hr
              have h1 := hi.1; have h2 := hi.2
              simp at h1 h2 d1
              by_cases e : i = k
              · subst e; rw [hk]; simp only; rw [d2]
              · exact ih.h1 x (by simp) i ⟨h1, by omega⟩
          · by_cases e2 : i = k
            · refine ⟨_, List.mem_append.2 (.inr (List.mem_singleton.2 rfl)), ?_, ?_⟩
              · simp; simp at d1; omega
              · simp; simp at d1; omega
            · obtain ⟨r, hr, hh⟩ := ih.h2 i a (by omega) e
              rcases List.mem_append.1 hr with hr | hr
              · exact ⟨r, List.mem_append.2 (.inl hr), hh⟩
              · simp only [List.mem_singleton] at hr; subst hr
                exact ⟨_, List.mem_append.2 (.inr (List.mem_singleton.2 rfl)), hh.1, by have := hh.2; simp; omega⟩
        · rename_i d
          have hmem : ∀ r, r ∈ l' ++ [x, ⟨(k : Int), 1, decide (f k = 2)⟩] ↔ r ∈ l' ++ [x] ∨ r = ⟨(k : Int), 1, decide (f k = 2)⟩ := fun r => by simp [or_assoc]
          refine ⟨fun r hr => ?_, ?_, fun r hr i hi => ?_, fun i a b e => ?_⟩
          · rcases (hmem r).1 hr with hr | hr
            · have := ih.b r hr; omega
            · subst hr; simp
          · rw [show l' ++ [x, (⟨(k : Int), 1, decide (f k = 2)⟩ : RG)] = (l' ++ [x]) ++ [⟨(k : Int), 1, decide (f k = 2)⟩] from by simp, List.pairwise_append]
            refine ⟨ih.s, by simp, fun y hy z hz => ?_⟩
            simp only [List.mem_singleton] at hz; subst hz
            exact (ih.b y hy).2.2
          · rcases (hmem r).1 hr with hr | hr
            · exact ih.h1 r hr i hi
            · subst hr
              have : i = k := by have := hi.1; have := hi.2; simp at *; omega
              subst this; exact hk
          · by_cases e2 : i = k
            · subst e2; exact ⟨_, (hmem _).2 (.inr rfl), by simp, by simp; omega⟩
            · obtain ⟨r, hr, hh⟩ := ih.h2 i a (by omega) e
              exact ⟨r, (hmem _).2 (.inl hr), hh⟩
theorem runs_ok {f : Int → Int} (hf : OkF f) : RunsOk (runs f) f 16 := runsN_ok hf 16
theorem runs_cov {f : Int → Int} (hf : OkF f) : Cov (runs f) f := ⟨(runs_ok hf).h1, fun i hi => by
  refine (runs_ok hf).h2 i ?_ ?_ hi
  · by_cases q : i < 0
    · exact absurd (hf.out i (.inl q)) hi
    · omega
  · by_cases q : i < 16
    · exact q
    · exact absurd (hf.out i (.inr (by omega))) hi⟩
theorem mgS_len (l : List RG) (r : RG) : (mgS l r).length ≤ l.length + 1 := by
  rcases Nat.eq_zero_or_pos l.length with q | q
  · rw [List.length_eq_zero_iff] at q; subst q; simp [mgS_nil]
  · obtain ⟨l', x, rfl⟩ := snoc_of q
    rw [mgS_snoc]; split <;> simp
theorem runsN_len (f : Int → Int) : ∀ k, (runsN f k).length ≤ k
  | 0 => by simp [runsN, unitsF, mg]
  | k + 1 => by
    rw [runsN_next]
    have := runsN_len f k
    split
    · omega
    · have := mgS_len (runsN f k) ⟨k, 1, decide (f k = 2)⟩; omega
theorem runs_len (f : Int → Int) : (runs f).length ≤ 16 := runsN_len f 16
theorem rat_mem {l : List RG} {z : Int} (h : 0 ≤ z ∧ z < l.length) : rat l z ∈ l := by
  unfold rat
  rw [List.getD_eq_getElem?_getD, List.getElem?_eq_getElem (by omega)]
  simp
/-- the place of the first region that has a page -/
def atP (l : List RG) (n : Int) (k : Int) : Prop := (k = -1 ∧ ∀ r ∈ l, ¬ r.has n) ∨ ((0 ≤ k ∧ k < l.length) ∧ (rat l k).has n)
/-! ### vm: what the functions do -/
structure MS where
  is_ : Int → Int
  fr : Int → Int
  own : Int → Bool
structure VB where
  bb : BB
  by_ : Int → Int → Int
  rf : Int → Int
def brow (b : Int → Int → Int) (f : Int) (row : Int → Int) : Int → Int → Int := fun x j => if x = f then row j else b x j
def setI {α : Type} (f : Int → α) (a m : Int) (v : α) : Int → α := fun i => if a ≤ i ∧ i < a + m then v else f i
def VB.take (v : VB) : Int × Int × VB := if (v.bb.take 0).2.1 ≠ 0 then (0, (v.bb.take 0).2.1, v) else ((v.bb.take 0).1, 0, ⟨(v.bb.take 0).2.2, brow v.by_ (v.bb.take 0).1 (fun _ => 0), fset v.rf (v.bb.take 0).1 1⟩)
def VB.drop (v : VB) (f : Int) : VB := if v.rf f - 1 = 0 then ⟨(v.bb.give f).2, v.by_, fset v.rf f (v.rf f - 1)⟩ else ⟨v.bb, v.by_, fset v.rf f (v.rf f - 1)⟩
def VB.copy (v : VB) (f g : Int) : VB := ⟨v.bb, brow v.by_ f (v.by_ g), v.rf⟩
def badS (a m : Int) : Prop := a < 0 ∨ 15 < a ∨ m < 1 ∨ 16 - a < m
instance (a m : Int) : Decidable (badS a m) := by unfold badS; infer_instance
/-- is there one of n from a on? -/
def anyF (p : Int → Bool) (a : Int) : Nat → Bool
  | 0 => false
  | k + 1 => anyF p a k || p (a + k)
def MS.mapE (m : MS) (a n : Int) : Int := if badS a n then 1 else if anyF (fun i => m.is_ i != 0) a n.toNat then 3 else 0
def MS.protE (m : MS) (a n : Int) : Int := if badS a n then 1 else if anyF (fun i => m.is_ i == 0) a n.toNat then 10 else 0
def MS.lay (m : MS) (a n : Int) (w : Bool) : MS := { m with is_ := setI m.is_ a n (kd w) }
def MS.map (m : MS) (a n : Int) (w : Bool) : MS := if m.mapE a n = 0 then m.lay a n w else m
def MS.prot (m : MS) (a n : Int) (w : Bool) : MS := if m.protE a n = 0 then m.lay a n w else m
def unS (fr : Int → Int) (x : Int × VB) (i : Int) : Int × VB := if 0 < fr i then (x.1 + 1, x.2.drop (fr i - 1)) else x
def spanL (p : Int → Bool) (a : Int) : Nat → List Int
  | 0 => []
  | k + 1 => spanL p a k ++ (if p (a + k) then [a + k] else [])
def unN (v : VB) (fr : Int → Int) (a : Int) : Nat → Int × VB
  | 0 => (0, v)
  | k + 1 => unS fr (unN v fr a k) (a + k)
def unL (v : VB) (fr : Int → Int) (l : List Int) : Int × VB := l.foldl (unS fr) (0, v)
theorem unN_span (v : VB) {fr : Int → Int} {p : Int → Bool} (hp : ∀ i, p i = false → fr i = 0) (a : Int) : ∀ k, unN v fr a k = unL v fr (spanL p a k)
  | 0 => rfl
  | k + 1 => by
    rw [unN, unN_span v hp a k, spanL, unL, unL, List.foldl_append]
    cases h : p (a + k) with
    | true => simp
    | false => simp [unS, hp _ h]
theorem mem_spanL {p : Int → Bool} {a i : Int} : ∀ {k : Nat}, i ∈ spanL p a k ↔ (a ≤ i ∧ i < a + k) ∧ p i = true
  | 0 => by simp only [spanL, List.not_mem_nil, false_iff]; rintro ⟨⟨h1, h2⟩, _⟩; simp at h2; omega
  | k + 1 => by
    rw [spanL, List.mem_append, mem_spanL (k := k)]
    constructor
    · rintro (⟨h1, h2⟩ | h)
      · exact ⟨by omega, h2⟩
      · split at h
        · rename_i c; simp only [List.mem_singleton] at h; subst h; exact ⟨by omega, c⟩
        · simp at h
    · rintro ⟨h1, h2⟩
      by_cases c : i = a + k
      · right; rw [← c, h2]; simp [c]
      · left; exact ⟨by omega, h2⟩
theorem spanL_sorted {p : Int → Bool} {a : Int} : ∀ k, (spanL p a k).Pairwise (fun x y => x < y)
  | 0 => .nil
  | k + 1 => by
    rw [spanL, List.pairwise_append]
    refine ⟨spanL_sorted k, by split <;> simp, fun x hx y hy => ?_⟩
    have := mem_spanL.1 hx
    split at hy
    · simp only [List.mem_singleton] at hy; omega
    · simp at hy
def MS.unmap (v : VB) (m : MS) (a n : Int) : Int × Int × VB × MS := if badS a n then (0, 1, v, m) else
  ((unN v m.fr a n.toNat).1, 0, (unN v m.fr a n.toNat).2, ⟨setI m.is_ a n 0, setI m.fr a n 0, setI m.own a n false⟩)
def MS.may (m : MS) (a : Int) (w : Bool) : Bool := decide (0 ≤ a ∧ a < 128) && (m.is_ (a / 8) == 2 || (m.is_ (a / 8) == 1 && !w))
def MS.wants (m : MS) (a : Int) : Bool := m.may a false && m.fr (a / 8) == 0
def MS.page (m : MS) (n f : Int) : MS := { m with fr := fset m.fr n (f + 1), own := fset m.own n true }
def MS.touch (v : VB) (m : MS) (a : Int) (w : Bool) : Int × Int × VB × MS :=
  if m.may a w = false then (0, 10, v, m)
  else if m.fr (a / 8) = 0 then (if v.take.2.1 ≠ 0 then (0, v.take.2.1, v, m) else (v.take.1, 0, v.take.2.2, m.page (a / 8) v.take.1))
  else if w = false ∨ m.own (a / 8) = true then (m.fr (a / 8) - 1, 0, v, m)
  else if v.rf (m.fr (a / 8) - 1) ≤ 1 then (m.fr (a / 8) - 1, 0, v, { m with own := fset m.own (a / 8) true })
  else if v.take.2.1 ≠ 0 then (0, v.take.2.1, v, m)
  else (v.take.1, 0, (v.take.2.2.copy v.take.1 (m.fr (a / 8) - 1)).drop (m.fr (a / 8) - 1), m.page (a / 8) v.take.1)
def MS.load (v : VB) (m : MS) (a : Int) : Int × Int × VB × MS := let t := m.touch v a false
  if t.2.1 ≠ 0 then (0, t.2.1, t.2.2) else (t.2.2.1.by_ t.1 (a % 8), 0, t.2.2)
def MS.store (v : VB) (m : MS) (a b : Int) : Int × VB × MS := let t := m.touch v a true
  if t.2.1 ≠ 0 then (t.2.1, t.2.2) else (0, ⟨t.2.2.1.bb, fset2 t.2.2.1.by_ t.1 (a % 8) b, t.2.2.1.rf⟩, t.2.2.2)
def upN (rf fr : Int → Int) : Nat → Int → Int
  | 0 => rf
  | k + 1 => if 0 < fr k then fset (upN rf fr k) (fr k - 1) (upN rf fr k (fr k - 1) + 1) else upN rf fr k
def MS.bare (m : MS) : MS := { m with own := fun _ => false }
def VB.fork (v : VB) (m : MS) : VB := { v with rf := upN v.rf m.fr 16 }
def resN (fr : Int → Int) : Nat → Int
  | 0 => 0
  | k + 1 => resN fr k + (if 0 < fr k then 1 else 0)
def MS.res (m : MS) : Int := resN m.fr 16
def MS.nil : MS := ⟨fun _ => 0, fun _ => 0, fun _ => false⟩
theorem resN_le (fr : Int → Int) : ∀ k : Nat, 0 ≤ resN fr k ∧ resN fr k ≤ k
  | 0 => by simp [resN]
  | k + 1 => by have := resN_le fr k; rw [resN]; split <;> omega
theorem resN_next (fr : Int → Int) {i : Int} (h : 0 ≤ i) : resN fr (i + 1).toNat = resN fr i.toNat + (if 0 < fr i then 1 else 0) := by
  rw [show (i + 1).toNat = i.toNat + 1 from by omega, resN, show ((i.toNat : Nat) : Int) = i from by omega]
/-- a memory by itself -/
structure MS.Ok (m : MS) : Prop where
  f : OkF m.is_
  lo : ∀ i, 0 ≤ m.fr i ∧ m.fr i ≤ 64
  un : ∀ i, m.is_ i = 0 → m.fr i = 0
  ow : ∀ i, m.fr i = 0 → m.own i = false
  inj : ∀ i j, 0 < m.fr i → m.fr i = m.fr j → i = j
/-- a bank by itself -/
structure VB.Ok (v : VB) : Prop where
  bb : v.bb.Inv
  rf : ∀ f, 0 ≤ v.rf f ∧ v.rf f ≤ 100000
  by_ : ∀ f j, 0 ≤ v.by_ f j ∧ v.by_ f j < 256
/-- a memory in its bank -/
def MS.In (m : MS) (v : VB) : Prop := ∀ i, 0 < m.fr i → 1 ≤ v.rf (m.fr i - 1)
theorem OkF.setI {f : Int → Int} (h : OkF f) {a n : Int} (hb : ¬ badS a n) {v : Int} (hv : v = 0 ∨ v = 1 ∨ v = 2) : OkF (Go.X.Vm.setI f a n v) := by
  unfold badS at hb
  refine ⟨fun i => ?_, fun i hi => ?_⟩
  · unfold Go.X.Vm.setI; split
    · exact hv
    · exact h.v i
  · unfold Go.X.Vm.setI; rw [if_neg (by omega)]; exact h.out i hi
theorem kd_or (w : Bool) : kd w = 0 ∨ kd w = 1 ∨ kd w = 2 := by cases w <;> simp [kd]
theorem MS.Ok.nil : MS.nil.Ok := ⟨⟨fun _ => .inl rfl, fun _ _ => rfl⟩, fun _ => by simp [MS.nil], fun _ _ => rfl, fun _ _ => rfl, fun i j h => by simp [MS.nil] at h⟩
theorem MS.Ok.lay {m : MS} (h : m.Ok) {a n : Int} (hb : ¬ badS a n) (w : Bool) : (m.lay a n w).Ok :=
  ⟨h.f.setI hb (kd_or w), h.lo, fun i hi => h.un i (by
    simp only [MS.lay, setI] at hi
    split at hi
    · exact absurd hi (kd_ne w)
    · exact hi), h.ow, h.inj⟩
theorem mapE_ok {m : MS} {a n : Int} (h : m.mapE a n = 0) : ¬ badS a n := by
  unfold MS.mapE at h; split at h
  · cases h
  · assumption
theorem protE_ok {m : MS} {a n : Int} (h : m.protE a n = 0) : ¬ badS a n := by
  unfold MS.protE at h; split at h
  · cases h
  · assumption
theorem MS.Ok.map {m : MS} (h : m.Ok) (a n : Int) (w : Bool) : (m.map a n w).Ok := by
  unfold MS.map; split
  · exact h.lay (mapE_ok (by assumption)) w
  · exact h
theorem MS.Ok.prot {m : MS} (h : m.Ok) (a n : Int) (w : Bool) : (m.prot a n w).Ok := by
  unfold MS.prot; split
  · exact h.lay (protE_ok (by assumption)) w
  · exact h
/-! carving -/
def cvR (a n : Int) (r : RG) : List RG := if min (r.fr + r.n) (a + n) ≤ max r.fr a then [r] else
  (if r.fr < max r.fr a then [⟨r.fr, max r.fr a - r.fr, r.w⟩] else []) ++ (if min (r.fr + r.n) (a + n) < r.fr + r.n then [⟨min (r.fr + r.n) (a + n), r.fr + r.n - min (r.fr + r.n) (a + n), r.w⟩] else [])
def intsF (a : Int) : Nat → List Int
  | 0 => []
  | k + 1 => intsF a k ++ [a + k]
def cvH (a n : Int) (r : RG) : List Int := intsF (max r.fr a) (min (r.fr + r.n) (a + n) - max r.fr a).toNat
theorem mem_intsF {a i : Int} : ∀ {k : Nat}, i ∈ intsF a k ↔ a ≤ i ∧ i < a + k
  | 0 => by simp only [intsF, List.not_mem_nil, false_iff]; rintro ⟨h1, h2⟩; simp at h2; omega
  | k + 1 => by
    rw [intsF, List.mem_append, mem_intsF (k := k), List.mem_singleton]; omega
theorem intsF_sorted {a : Int} : ∀ k, (intsF a k).Pairwise (fun x y => x < y)
  | 0 => .nil
  | k + 1 => by
    rw [intsF, List.pairwise_append]
    refine ⟨intsF_sorted k, by simp, fun x hx y hy => ?_⟩
    have := mem_intsF.1 hx
    simp only [List.mem_singleton] at hy; omega
theorem intsF_len (a : Int) : ∀ k, (intsF a k).length = k
  | 0 => rfl
  | k + 1 => by rw [intsF, List.length_append, intsF_len a k]; rfl
theorem mem_cvR {a n : Int} {r q : RG} (hn : 0 < n) (hr : 0 < r.n) (h : q ∈ cvR a n r) : 0 < q.n ∧ r.fr ≤ q.fr ∧ q.fr + q.n ≤ r.fr + r.n ∧ q.w = r.w ∧ (q.fr + q.n ≤ a ∨ a + n ≤ q.fr) := by
  unfold cvR at h
  split at h
  · simp only [List.mem_singleton] at h; subst h
    refine ⟨hr, by omega, by omega, rfl, by omega⟩
  · rcases List.mem_append.1 h with h | h
    · split at h
      · simp only [List.mem_singleton] at h; subst h; simp; omega
      · simp at h
    · split at h
      · simp only [List.mem_singleton] at h; subst h; simp; omega
      · simp at h
theorem cvR_has {a n : Int} {r : RG} {i : Int} (hr : r.has i) (h : i < a ∨ a + n ≤ i) : ∃ q ∈ cvR a n r, q.has i := by
  obtain ⟨h1, h2⟩ := hr
  unfold cvR
  split
  · exact ⟨r, by simp, h1, h2⟩
  · rename_i c
    by_cases d : i < max r.fr a
    · refine ⟨⟨r.fr, max r.fr a - r.fr, r.w⟩, List.mem_append.2 (.inl ?_), h1, ?_⟩
      · rw [if_pos (by omega)]; simp
      · show i < r.fr + (max r.fr a - r.fr); omega
    · refine ⟨⟨min (r.fr + r.n) (a + n), r.fr + r.n - min (r.fr + r.n) (a + n), r.w⟩, List.mem_append.2 (.inr ?_), ?_, ?_⟩
      · rw [if_pos (by omega)]; simp
      · show min (r.fr + r.n) (a + n) ≤ i; omega
      · show i < min (r.fr + r.n) (a + n) + (r.fr + r.n - min (r.fr + r.n) (a + n)); omega
theorem cvR_pair {a n : Int} {r : RG} : (cvR a n r).Pairwise (fun x y => x.fr + x.n ≤ y.fr) := by
  unfold cvR
  split
  · simp
  · rw [List.pairwise_append]
    refine ⟨by split <;> simp, by split <;> simp, fun x hx y hy => ?_⟩
    split at hx
    · simp only [List.mem_singleton] at hx; subst hx
      split at hy
      · simp only [List.mem_singleton] at hy; subst hy; simp; omega
      · simp at hy
    · simp at hx
theorem carved {l : List RG} {f : Int → Int} {a n : Int} (hl : RunsOk l f 16) (hn : 0 < n) : (l.flatMap (cvR a n)).Pairwise (fun x y => x.fr + x.n ≤ y.fr) ∧ (∀ r ∈ l.flatMap (cvR a n), (0 ≤ r.fr ∧ 0 < r.n ∧ r.fr + r.n ≤ 16) ∧ (r.fr + r.n ≤ a ∨ a + n ≤ r.fr)) := by
  constructor
  · rw [List.pairwise_flatMap]
    refine ⟨fun _ _ => cvR_pair, hl.s.imp_of_mem ?_⟩
    intro x y hx hy h u hu v hv
    have h1 := mem_cvR hn (hl.b x hx).2.1 hu
    have h2 := mem_cvR hn (hl.b y hy).2.1 hv
    omega
  · intro r hr
    obtain ⟨x, hx, h⟩ := List.mem_flatMap.1 hr
    have h1 := mem_cvR hn (hl.b x hx).2.1 h
    have := hl.b x hx
    omega
theorem carved_cov {l : List RG} {f : Int → Int} {a n : Int} (hl : RunsOk l f 16) (hc : Cov l f) (hn : 0 < n) : Cov (l.flatMap (cvR a n)) (setI f a n 0) := by
  refine ⟨fun r hr i hi => ?_, fun i hi => ?_⟩
  · obtain ⟨x, hx, h⟩ := List.mem_flatMap.1 hr
    obtain ⟨h1, h2, h3, h4, h5⟩ := mem_cvR hn (hl.b x hx).2.1 h
    have hi1 := hi.1; have hi2 := hi.2
    unfold setI
    rw [if_neg (by omega), hc.h1 x hx i ⟨by omega, by omega⟩, h4]
  · unfold setI at hi
    split at hi
    · exact absurd rfl hi
    · obtain ⟨r, hr, hh⟩ := hc.h2 i hi
      obtain ⟨q, hq, h⟩ := cvR_has (a := a) (n := n) hh (by omega)
      exact ⟨q, List.mem_flatMap.2 ⟨r, hr, hq⟩, h⟩
theorem carved_gl {l : List RG} {f : Int → Int} {a n : Int} (hl : RunsOk l f 16) (hn : 0 < n) : GL (l.flatMap (cvR a n)) := by
  obtain ⟨h1, h2⟩ := carved (a := a) hl hn
  exact ⟨fun r hr => (h2 r hr).1, h1.imp (fun h => .inl h)⟩
theorem hits_span {f : Int → Int} (hf : OkF f) {a n : Int} (hb : ¬ badS a n) : (runs f).flatMap (cvH a n) = spanL (fun i => f i != 0) a n.toNat := by
  unfold badS at hb
  have hl := runs_ok hf
  refine eq_of_rising (fun i => i) ?_ (spanL_sorted _) fun i => ?_
  · rw [List.pairwise_flatMap]
    refine ⟨fun r _ => intsF_sorted _, hl.s.imp_of_mem ?_⟩
    intro x y hx hy h u hu v hv
    have h1 := mem_intsF.1 hu
    have h2 := mem_intsF.1 hv
    show u < v
    omega
  · rw [List.mem_flatMap, mem_spanL]
    constructor
    · rintro ⟨r, hr, h⟩
      have h1 := mem_intsF.1 h
      have e := (runs_cov hf).h1 r hr i ⟨by omega, by omega⟩
      refine ⟨by omega, ?_⟩
      simp only [bne_iff_ne, ne_eq]
      rw [e]; exact kd_ne _
    · rintro ⟨h1, h2⟩
      simp only [bne_iff_ne, ne_eq] at h2
      obtain ⟨r, hr, hh⟩ := (runs_cov hf).h2 i h2
      have a1 := hh.1; have a2 := hh.2
      refine ⟨r, hr, mem_intsF.2 ⟨by omega, ?_⟩⟩
      omega
theorem spanL_len {p : Int → Bool} {a : Int} : ∀ k, (spanL p a k).length ≤ k
  | 0 => by simp [spanL]
  | k + 1 => by
    have := spanL_len (p := p) (a := a) k
    rw [spanL, List.length_append]; split <;> simp <;> omega
theorem rat_get {l : List RG} {i : Int} (h : 0 ≤ i ∧ i < l.length) : l[i.toNat]? = some (rat l i) := by
  unfold rat
  rw [List.getD_eq_getElem?_getD, List.getElem?_eq_getElem (by omega)]
  simp

theorem iteLen (q : Prop) [Decidable q] (r : RG) : (if q then [r] else []).length ≤ 1 := by split <;> simp

end Go.X.Vm

namespace Go.X.Vm
open Go Go.X
def encK (pb : Nat) (bs : Int → Int → Int) (rf : Int → Int) (i : Nat) : Value :=
  if i = 0 then ptr pb 0 0 else
  if 1 ≤ i ∧ (i - 1) / 8 < 64 ∧ ((i - 1) % 8) % 1 = 0 ∧ ((i - 1) % 8) / 1 < 8 then .int .u8 (bs (((i - 1) / 8 : Nat) : Int) ((((i - 1) % 8) / 1 : Nat) : Int)) else
  if 513 ≤ i ∧ (i - 513) % 1 = 0 ∧ (i - 513) / 1 < 64 then .int .i64 (rf (((i - 513) / 1 : Nat) : Int)) else
  undef
theorem encK.ld_p (pb : Nat) (bs : Int → Int → Int) (rf : Int → Int) : (0 + 0) < 577 ∧ encK pb bs rf (0 + 0) = ptr pb 0 0 := by
  refine ⟨by omega, ?_⟩
  unfold encK
  rw [if_pos (by omega)]
theorem encK.ld_refs_I (pb : Nat) (bs : Int → Int → Int) (rf : Int → Int) (z0 : Int) (q0 : 0 ≤ z0 ∧ z0 < 64) : ((0 + 513) + z0.toNat * 1) < 577 ∧ encK pb bs rf ((0 + 513) + z0.toNat * 1) = .int .i64 (rf z0) := by
  refine ⟨by omega, ?_⟩
  unfold encK
  rw [if_neg (by omega)]
  rw [if_neg (by omega)]
  rw [if_pos (by omega)]
  rw [show (((((0 + 513) + z0.toNat * 1) - 513) / 1 : Nat) : Int) = z0 from by omega]
theorem encK.st_refs_I (pb : Nat) (bs : Int → Int → Int) (rf : Int → Int) (z0 : Int) (q0 : 0 ≤ z0 ∧ z0 < 64) (v : Int) : ((0 + 513) + z0.toNat * 1) < 577 ∧ upd (encK pb bs rf) ((0 + 513) + z0.toNat * 1) (.int .i64 (v)) = encK pb bs (fset rf z0 v) := by
  refine ⟨by omega, ?_⟩
  funext j
  unfold upd
  by_cases hj : j = ((0 + 513) + z0.toNat * 1)
  · rw [if_pos hj, hj, (encK.ld_refs_I pb bs (fset rf z0 v) z0 q0).2]
    all_goals simp [fset, fset2]
  · rw [if_neg hj]
    unfold encK
    refine ite_both (fun c0 => ?_) (fun c0 => ?_)
    · first | rfl | simp [fset, fset2]
    refine ite_both (fun c1 => ?_) (fun c1 => ?_)
    · first | rfl | simp [fset, fset2]
    refine ite_both (fun c2 => ?_) (fun c2 => ?_)
    · have hne : ¬ ((((j - 513) / 1 : Nat) : Int) = z0) := by omega
      simp only [fset, fset2, hne, if_false, and_true, true_and]
    rfl

def encN (kb : Nat) (p : Option Addr) (n : Nat) (c : Nat) (fr : Int → Int) (own : Int → Bool) (i : Nat) : Value :=
  if i = 0 then ptr kb 0 0 else
  if i = 1 then .slice p n c else
  if 2 ≤ i ∧ (i - 2) % 2 = 0 ∧ (i - 2) / 2 < 16 then .int .i64 (fr (((i - 2) / 2 : Nat) : Int) - 1) else
  if 3 ≤ i ∧ (i - 3) % 2 = 0 ∧ (i - 3) / 2 < 16 then .bool (own (((i - 3) / 2 : Nat) : Int)) else
  undef
theorem encN.ld_b (kb : Nat) (p : Option Addr) (n : Nat) (c : Nat) (fr : Int → Int) (own : Int → Bool) : (0 + 0) < 34 ∧ encN kb p n c fr own (0 + 0) = ptr kb 0 0 := by
  refine ⟨by omega, ?_⟩
  unfold encN
  rw [if_pos (by omega)]
theorem encN.ld_r (kb : Nat) (p : Option Addr) (n : Nat) (c : Nat) (fr : Int → Int) (own : Int → Bool) : (0 + 1) < 34 ∧ encN kb p n c fr own (0 + 1) = .slice p n c := by
  refine ⟨by omega, ?_⟩
  unfold encN
  rw [if_neg (by omega)]
  rw [if_pos (by omega)]
theorem encN.ld_p_I_frame (kb : Nat) (p : Option Addr) (n : Nat) (c : Nat) (fr : Int → Int) (own : Int → Bool) (z0 : Int) (q0 : 0 ≤ z0 ∧ z0 < 16) : (((0 + 2) + z0.toNat * 2) + 0) < 34 ∧ encN kb p n c fr own (((0 + 2) + z0.toNat * 2) + 0) = .int .i64 (fr z0 - 1) := by
  refine ⟨by omega, ?_⟩
  unfold encN
  rw [if_neg (by omega)]
  rw [if_neg (by omega)]
  rw [if_pos (by omega)]
  rw [show ((((((0 + 2) + z0.toNat * 2) + 0) - 2) / 2 : Nat) : Int) = z0 from by omega]
theorem encN.st_p_I_frame (kb : Nat) (p : Option Addr) (n : Nat) (c : Nat) (fr : Int → Int) (own : Int → Bool) (z0 : Int) (q0 : 0 ≤ z0 ∧ z0 < 16) (v : Int) : (((0 + 2) + z0.toNat * 2) + 0) < 34 ∧ upd (encN kb p n c fr own) (((0 + 2) + z0.toNat * 2) + 0) (.int .i64 (v)) = encN kb p n c (fset fr z0 (v + 1)) own := by
  refine ⟨by omega, ?_⟩
  funext j
  unfold upd
  by_cases hj : j = (((0 + 2) + z0.toNat * 2) + 0)
  · rw [if_pos hj, hj, (encN.ld_p_I_frame kb p n c (fset fr z0 (v + 1)) own z0 q0).2]
    all_goals simp [fset, fset2]
  · rw [if_neg hj]
    unfold encN
    refine ite_both (fun c0 => ?_) (fun c0 => ?_)
    · first | rfl | simp [fset, fset2]
    refine ite_both (fun c1 => ?_) (fun c1 => ?_)
    · first | rfl | simp [fset, fset2]
    refine ite_both (fun c2 => ?_) (fun c2 => ?_)
    · have hne : ¬ ((((j - 2) / 2 : Nat) : Int) = z0) := by omega
      simp only [fset, fset2, hne, if_false, and_true, true_and]
    refine ite_both (fun c3 => ?_) (fun c3 => ?_)
    · first | rfl | simp [fset, fset2]
    rfl
theorem encN.ld_p_I_write (kb : Nat) (p : Option Addr) (n : Nat) (c : Nat) (fr : Int → Int) (own : Int → Bool) (z0 : Int) (q0 : 0 ≤ z0 ∧ z0 < 16) : (((0 + 2) + z0.toNat * 2) + 1) < 34 ∧ encN kb p n c fr own (((0 + 2) + z0.toNat * 2) + 1) = .bool (own z0) := by
  refine ⟨by omega, ?_⟩
  unfold encN
  rw [if_neg (by omega)]
  rw [if_neg (by omega)]
  rw [if_neg (by omega)]
  rw [if_pos (by omega)]
  rw [show ((((((0 + 2) + z0.toNat * 2) + 1) - 3) / 2 : Nat) : Int) = z0 from by omega]
theorem encN.st_p_I_write (kb : Nat) (p : Option Addr) (n : Nat) (c : Nat) (fr : Int → Int) (own : Int → Bool) (z0 : Int) (q0 : 0 ≤ z0 ∧ z0 < 16) (v : Bool) : (((0 + 2) + z0.toNat * 2) + 1) < 34 ∧ upd (encN kb p n c fr own) (((0 + 2) + z0.toNat * 2) + 1) (.bool (v)) = encN kb p n c fr (fset own z0 v) := by
  refine ⟨by omega, ?_⟩
  funext j
  unfold upd
  by_cases hj : j = (((0 + 2) + z0.toNat * 2) + 1)
  · rw [if_pos hj, hj, (encN.ld_p_I_write kb p n c fr (fset own z0 v) z0 q0).2]
    all_goals simp [fset, fset2]
  · rw [if_neg hj]
    unfold encN
    refine ite_both (fun c0 => ?_) (fun c0 => ?_)
    · first | rfl | simp [fset, fset2]
    refine ite_both (fun c1 => ?_) (fun c1 => ?_)
    · first | rfl | simp [fset, fset2]
    refine ite_both (fun c2 => ?_) (fun c2 => ?_)
    · first | rfl | simp [fset, fset2]
    refine ite_both (fun c3 => ?_) (fun c3 => ?_)
    · have hne : ¬ ((((j - 3) / 2 : Nat) : Int) = z0) := by omega
      simp only [fset, fset2, hne, if_false, and_true, true_and]
    rfl


def arrY (row : Int → Int) : Array Value := ((List.range 8).map fun (j : Nat) => Value.int .u8 (row (j : Int))).toArray

theorem encN_page (kb : Nat) (p : Option Addr) (n c : Nat) (fr : Int → Int) (own : Int → Bool) (i : Int) (h : 0 ≤ i ∧ i < 16) : 0 + 2 + i.toNat * 2 + 2 ≤ 34 ∧ aggOf (encN kb p n c fr own) (0 + 2 + i.toNat * 2) 2 = .agg #[.int .i64 (fr i - 1), .bool (own i)] := by
  refine ⟨by omega, ?_⟩
  have h1 := (encN.ld_p_I_frame kb p n c fr own i h).2
  have h2 := (encN.ld_p_I_write kb p n c fr own i h).2
  simp only [aggOf, List.range, List.range.loop, List.map_cons, List.map_nil]
  rw [h1, h2]
theorem encN_spage (kb : Nat) (p : Option Addr) (n c : Nat) (fr : Int → Int) (own : Int → Bool) (i : Int) (f : Int) (w : Bool) (h : 0 ≤ i ∧ i < 16) : 0 + 2 + i.toNat * 2 + 2 ≤ 34 ∧ updL (encN kb p n c fr own) (0 + 2 + i.toNat * 2) [.int .i64 f, .bool w] = encN kb p n c (fset fr i (f + 1)) (fset own i w) := by
  refine ⟨by omega, ?_⟩
  simp only [updL]
  have h1 := (encN.st_p_I_frame kb p n c fr own i h f).2
  rw [show 0 + 2 + i.toNat * 2 + 0 = 0 + 2 + i.toNat * 2 from rfl] at h1
  rw [h1]
  exact (encN.st_p_I_write _ _ _ _ _ _ i h w).2
theorem encN_r (kb : Nat) (p : Option Addr) (n c : Nat) (fr : Int → Int) (own : Int → Bool) (p2 : Option Addr) (n2 c2 : Nat) : 0 + 1 < 34 ∧ upd (encN kb p n c fr own) (0 + 1) (.slice p2 n2 c2) = encN kb p2 n2 c2 fr own := by
  refine ⟨by omega, ?_⟩
  funext j
  unfold upd encN
  by_cases hj : j = 0 + 1
  · subst hj; rfl
  · rw [if_neg hj]
    refine ite_both (fun _ => rfl) (fun _ => ite_both (fun c => ?_) (fun _ => rfl))
    omega

end Go.X.Vm
