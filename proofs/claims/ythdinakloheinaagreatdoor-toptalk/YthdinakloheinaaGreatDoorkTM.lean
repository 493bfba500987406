import Derived.Test.YthdinakloheinaaGreatDoorXMore
import Derived.Test.YthdinakloheinaaGreatDoorXLay
namespace Go.X.Sp
open Go Go.X

/-! ### spaces: the state of both programs -/
structure SS where
  here : Int → Bool
  par : Int → Int
  who : Int → Int → Int
  loc : Int → Int
structure FrS where
  p : Int
  f : Int → Int
def frf (k : Int) : Int → Int := fun q => if 0 ≤ q ∧ q < k then -1 else 0
theorem frf_next (k : Int) (h : 0 ≤ k) : fset (frf k) k (-1) = frf (k + 1) := by
  funext q
  simp only [fset, frf]
  by_cases h1 : q = k
  · subst h1
    rw [if_pos rfl, if_pos (by omega)]
  · rw [if_neg h1]
    by_cases h2 : 0 ≤ q ∧ q < k
    · rw [if_pos h2, if_pos (by omega)]
    · rw [if_neg h2, if_neg (by omega)]
def frSp (p : Int) : Array Value := #[.bool true, .int .i64 p, .int .i64 (-1), .int .i64 (-1), .int .i64 (-1), .int .i64 (-1), .int .i64 (-1), .int .i64 (-1), .int .i64 (-1), .int .i64 (-1), .int .i64 (-1), .int .i64 (-1), .int .i64 (-1), .int .i64 (-1), .int .i64 (-1), .int .i64 (-1), .int .i64 (-1), .int .i64 (-1), .int .i64 (-1), .int .i64 (-1), .int .i64 (-1), .int .i64 (-1), .int .i64 (-1)]
def SS.is (s : SS) (n : Int) : Int := if n < 0 ∨ 6 ≤ n then 1 else if s.here n then 0 else 2
def SS.wayF (s : SS) : Nat → Int → List Int
  | 0, _ => []
  | k + 1, n => n :: s.wayF k (s.par n)
/-- how deep each space lies; the root is at 1 -/ structure SS.Deep (s : SS) (dep : Int → Nat) : Prop where
  d : ∀ n, 0 ≤ n → n < 6 → s.here n = true → 1 ≤ dep n ∧ dep n ≤ 4 ∧ ((s.par n = -1 ∧ dep n = 1) ∨ (0 ≤ s.par n ∧ s.par n < 6 ∧ s.here (s.par n) = true ∧ dep n = dep (s.par n) + 1))
def SS.way (s : SS) (dep : Int → Nat) (n : Int) : List Int := s.wayF (dep n) n
theorem SS.wayF_length (s : SS) : ∀ (k : Nat) (n : Int), (s.wayF k n).length = k
  | 0, _ => rfl
  | k + 1, n => by simp only [SS.wayF, List.length_cons, s.wayF_length k]
def membersL (f : Int → Int) : Nat → List Int
  | 0 => []
  | k + 1 => membersL f k ++ (if f k ≥ 0 then [f k] else [])
def SS.members (s : SS) (n : Int) : List Int := membersL (s.who n) 21
theorem membersL_length (f : Int → Int) : ∀ k, (membersL f k).length ≤ k
  | 0 => by simp [membersL]
  | k + 1 => by
    have := membersL_length f k
    simp only [membersL, List.length_append]
    split <;> simp <;> omega
def allL (f : Int → Bool) : Nat → List Int
  | 0 => []
  | k + 1 => allL f k ++ (if f k then [(k : Int)] else [])
theorem allL_length (f : Int → Bool) : ∀ k, (allL f k).length ≤ k
  | 0 => by simp [allL]
  | k + 1 => by
    have := allL_length f k
    simp only [allL, List.length_append]
    split <;> simp <;> omega
def SS.in_ (s : SS) (p : Int) : Int × Int := if p < 0 ∨ 20 ≤ p then (0, 1) else if s.loc p < 0 then (0, 2) else (s.loc p, 0)
def SS.add (s : SS) (dep : Int → Nat) (p : Int) : Int × Int × SS :=
  if s.is p ≠ 0 then (0, s.is p, s) else if dep p = 4 then (0, 7, s) else
  match firstN (fun k => !s.here k) 6 with
  | some k => (k, 0, { s with here := fset s.here k true, par := fset s.par k p })
  | none => (0, 4, s)
def SS.kids (s : SS) (n : Int) : Option Nat := firstN (fun k => s.here k && (s.par k == n)) 6
def SS.drop (s : SS) (n : Int) : Int × SS :=
  if s.is n ≠ 0 then (s.is n, s) else if n = 0 ∨ (s.members n).length > 0 then (5, s) else
  match s.kids n with
  | some _ => (5, s)
  | none => (0, { s with here := fset s.here n false, par := fset s.par n 0 })
def SS.zero : SS := ⟨fun _ => false, fun _ => 0, fun _ _ => -1, fun _ => 0⟩
def SS.root : SS := { SS.zero with here := fset SS.zero.here 0 true, par := fset SS.zero.par 0 (-1) }
def SS.init : SS := { SS.root with loc := frf 20 }
def put1 (w : Int → Int → Int) (a p : Int) : Int → Int → Int := match firstN (fun q => decide (w a (q + 1) < 0)) 20 with
  | some q => fset2 w a ((q : Int) + 1) p
  | none => w
def enterL (w : Int → Int → Int) (p : Int) : List Int → (Int → Int → Int)
  | [] => w
  | a :: r => enterL (put1 w a p) p r
def SS.mem (s : SS) (n : Int) : List Int × Int := if s.is n ≠ 0 then ([], s.is n) else (s.members n, 0)
def SS.pid (s : SS) (p n : Int) : Int × Int := if s.is n ≠ 0 then (0, s.is n) else if p < 0 ∨ 20 ≤ p then (0, 1) else
  match firstN (fun q => s.who n q == p) 21 with
  | some q => (q, 0)
  | none => (0, 2)
def SS.entered (s : SS) (dep : Int → Nat) (n p : Int) : SS := { s with loc := fset s.loc p n, who := enterL s.who p (s.way dep n) }
def SS.enter (s : SS) (dep : Int → Nat) (n p : Int) : Int × Int × SS :=
  if s.is n ≠ 0 then (0, s.is n, s) else if p < 0 ∨ 20 ≤ p then (0, 1, s) else if 0 ≤ s.loc p then (0, 3, s) else
  (((s.entered dep n p).pid p n).1, ((s.entered dep n p).pid p n).2, s.entered dep n p)
def SS.left (s : SS) (p : Int) : SS := { s with who := fun n q => if s.who n q = p then -1 else s.who n q, loc := fset s.loc p (-1) }
def SS.leave (s : SS) (p : Int) : Int × SS := if (s.in_ p).2 ≠ 0 then ((s.in_ p).2, s) else (0, s.left p)
def SS.find (s : SS) (n q : Int) : Int × Int := if s.is n ≠ 0 then (0, s.is n) else if q < 1 ∨ 20 < q then (0, 2) else if s.who n q < 0 then (0, 2) else (s.who n q, 0)
def encT (s : SS) (i : Nat) : Value :=
  if i % 23 = 0 ∧ i / 23 < 6 then .bool (s.here ((i / 23 : Nat) : Int)) else
  if 1 ≤ i ∧ (i - 1) % 23 = 0 ∧ (i - 1) / 23 < 6 then .int .i64 (s.par (((i - 1) / 23 : Nat) : Int)) else
  if 2 ≤ i ∧ (i - 2) / 23 < 6 ∧ ((i - 2) % 23) % 1 = 0 ∧ ((i - 2) % 23) / 1 < 21 then .int .i64 (if s.here (((i - 2) / 23 : Nat) : Int) then s.who (((i - 2) / 23 : Nat) : Int) ((((i - 2) % 23) / 1 : Nat) : Int) else 0) else
  if 138 ≤ i ∧ (i - 138) % 1 = 0 ∧ (i - 138) / 1 < 20 then .int .i64 (s.loc (((i - 138) / 1 : Nat) : Int)) else
  undef
theorem encT.ld_s_I_here (s : SS) (z0 : Int) (q0 : 0 ≤ z0 ∧ z0 < 6) : (((0 + 0) + z0.toNat * 23) + 0) < 158 ∧ encT s (((0 + 0) + z0.toNat * 23) + 0) = .bool (s.here z0) := by
  refine ⟨by omega, ?_⟩
  unfold encT
  rw [if_pos (by omega)]
  rw [show (((((0 + 0) + z0.toNat * 23) + 0) / 23 : Nat) : Int) = z0 from by omega]
theorem encT.ld_s_I_parent (s : SS) (z0 : Int) (q0 : 0 ≤ z0 ∧ z0 < 6) : (((0 + 0) + z0.toNat * 23) + 1) < 158 ∧ encT s (((0 + 0) + z0.toNat * 23) + 1) = .int .i64 (s.par z0) := by
  refine ⟨by omega, ?_⟩
  unfold encT
  rw [if_neg (by omega)]
  rw [if_pos (by omega)]
  rw [show ((((((0 + 0) + z0.toNat * 23) + 1) - 1) / 23 : Nat) : Int) = z0 from by omega]
theorem encT.ld_s_I_who_I (s : SS) (z0 : Int) (z1 : Int) (q0 : 0 ≤ z0 ∧ z0 < 6) (q1 : 0 ≤ z1 ∧ z1 < 21) : ((((0 + 0) + z0.toNat * 23) + 2) + z1.toNat * 1) < 158 ∧ encT s ((((0 + 0) + z0.toNat * 23) + 2) + z1.toNat * 1) = .int .i64 (if s.here z0 then s.who z0 z1 else 0) := by
  refine ⟨by omega, ?_⟩
  unfold encT
  rw [if_neg (by omega)]
  rw [if_neg (by omega)]
  rw [if_pos (by omega)]
  rw [show (((((((0 + 0) + z0.toNat * 23) + 2) + z1.toNat * 1) - 2) / 23 : Nat) : Int) = z0 from by omega]
  rw [show ((((((((0 + 0) + z0.toNat * 23) + 2) + z1.toNat * 1) - 2) % 23) / 1 : Nat) : Int) = z1 from by omega]
theorem encT.ldc_s_I_who_I (s : SS) (z0 : Int) (z1 : Int) (q0 : 0 ≤ z0 ∧ z0 < 6) (q1 : 0 ≤ z1 ∧ z1 < 21) (hc : s.here z0 = true) : ((((0 + 0) + z0.toNat * 23) + 2) + z1.toNat * 1) < 158 ∧ encT s ((((0 + 0) + z0.toNat * 23) + 2) + z1.toNat * 1) = .int .i64 (s.who z0 z1) := by
  refine ⟨by omega, ?_⟩
  rw [(encT.ld_s_I_who_I s z0 z1 q0 q1).2]
  simp only [hc, if_true]
theorem encT.st_s_I_who_I (s : SS) (z0 : Int) (z1 : Int) (q0 : 0 ≤ z0 ∧ z0 < 6) (q1 : 0 ≤ z1 ∧ z1 < 21) (hc : s.here z0 = true) (v : Int) : ((((0 + 0) + z0.toNat * 23) + 2) + z1.toNat * 1) < 158 ∧ upd (encT s) ((((0 + 0) + z0.toNat * 23) + 2) + z1.toNat * 1) (.int .i64 (v)) = encT ({ s with who := fset2 s.who z0 z1 v }) := by
  refine ⟨by omega, ?_⟩
  funext j
  unfold upd
  by_cases hj : j = ((((0 + 0) + z0.toNat * 23) + 2) + z1.toNat * 1)
  · rw [if_pos hj, hj, (encT.ld_s_I_who_I ({ s with who := fset2 s.who z0 z1 v }) z0 z1 q0 q1).2]
    all_goals simp [fset, fset2, hc]
  · rw [if_neg hj]
    unfold encT
    refine ite_both (fun c0 => ?_) (fun c0 => ?_)
    · first | rfl | simp [fset, fset2]
    refine ite_both (fun c1 => ?_) (fun c1 => ?_)
    · first | rfl | simp [fset, fset2]
    refine ite_both (fun c2 => ?_) (fun c2 => ?_)
    · have hne : ¬ ((((j - 2) / 23 : Nat) : Int) = z0 ∧ ((((j - 2) % 23) / 1 : Nat) : Int) = z1) := by omega
      simp only [fset, fset2, hne, if_false, and_true, true_and]
    refine ite_both (fun c3 => ?_) (fun c3 => ?_)
    · first | rfl | simp [fset, fset2]
    rfl
theorem encT.ld_of_I (s : SS) (z0 : Int) (q0 : 0 ≤ z0 ∧ z0 < 20) : ((0 + 138) + z0.toNat * 1) < 158 ∧ encT s ((0 + 138) + z0.toNat * 1) = .int .i64 (s.loc z0) := by
  refine ⟨by omega, ?_⟩
  unfold encT
  rw [if_neg (by omega)]
  rw [if_neg (by omega)]
  rw [if_neg (by omega)]
  rw [if_pos (by omega)]
  rw [show (((((0 + 138) + z0.toNat * 1) - 138) / 1 : Nat) : Int) = z0 from by omega]
theorem encT.st_of_I (s : SS) (z0 : Int) (q0 : 0 ≤ z0 ∧ z0 < 20) (v : Int) : ((0 + 138) + z0.toNat * 1) < 158 ∧ upd (encT s) ((0 + 138) + z0.toNat * 1) (.int .i64 (v)) = encT ({ s with loc := fset s.loc z0 v }) := by
  refine ⟨by omega, ?_⟩
  funext j
  unfold upd
  by_cases hj : j = ((0 + 138) + z0.toNat * 1)
  · rw [if_pos hj, hj, (encT.ld_of_I ({ s with loc := fset s.loc z0 v }) z0 q0).2]
    all_goals simp [fset, fset2]
  · rw [if_neg hj]
    unfold encT
    refine ite_both (fun c0 => ?_) (fun c0 => ?_)
    · first | rfl | simp [fset, fset2]
    refine ite_both (fun c1 => ?_) (fun c1 => ?_)
    · first | rfl | simp [fset, fset2]
    refine ite_both (fun c2 => ?_) (fun c2 => ?_)
    · first | rfl | simp [fset, fset2]
    refine ite_both (fun c3 => ?_) (fun c3 => ?_)
    · have hne : ¬ ((((j - 138) / 1 : Nat) : Int) = z0) := by omega
      simp only [fset, fset2, hne, if_false, and_true, true_and]
    rfl

def encFr (s : FrS) (i : Nat) : Value :=
  if i = 0 then .bool (true) else
  if i = 1 then .int .i64 (s.p) else
  if 2 ≤ i ∧ (i - 2) % 1 = 0 ∧ (i - 2) / 1 < 21 then .int .i64 (s.f (((i - 2) / 1 : Nat) : Int)) else
  undef
theorem encFr.ld_who_I (s : FrS) (z0 : Int) (q0 : 0 ≤ z0 ∧ z0 < 21) : ((0 + 2) + z0.toNat * 1) < 23 ∧ encFr s ((0 + 2) + z0.toNat * 1) = .int .i64 (s.f z0) := by
  refine ⟨by omega, ?_⟩
  unfold encFr
  rw [if_neg (by omega)]
  rw [if_neg (by omega)]
  rw [if_pos (by omega)]
  rw [show (((((0 + 2) + z0.toNat * 1) - 2) / 1 : Nat) : Int) = z0 from by omega]
theorem encFr.st_who_I (s : FrS) (z0 : Int) (q0 : 0 ≤ z0 ∧ z0 < 21) (v : Int) : ((0 + 2) + z0.toNat * 1) < 23 ∧ upd (encFr s) ((0 + 2) + z0.toNat * 1) (.int .i64 (v)) = encFr ({ s with f := fset s.f z0 v }) := by
  refine ⟨by omega, ?_⟩
  funext j
  unfold upd
  by_cases hj : j = ((0 + 2) + z0.toNat * 1)
  · rw [if_pos hj, hj, (encFr.ld_who_I ({ s with f := fset s.f z0 v }) z0 q0).2]
    all_goals simp [fset, fset2]
  · rw [if_neg hj]
    unfold encFr
    refine ite_both (fun c0 => ?_) (fun c0 => ?_)
    · first | rfl | simp [fset, fset2]
    refine ite_both (fun c1 => ?_) (fun c1 => ?_)
    · first | rfl | simp [fset, fset2]
    refine ite_both (fun c2 => ?_) (fun c2 => ?_)
    · have hne : ¬ ((((j - 2) / 1 : Nat) : Int) = z0) := by omega
      simp only [fset, fset2, hne, if_false, and_true, true_and]
    rfl

def spZero : Array Value := #[.bool false, .int .i64 0, .int .i64 0, .int .i64 0, .int .i64 0, .int .i64 0, .int .i64 0, .int .i64 0, .int .i64 0, .int .i64 0, .int .i64 0, .int .i64 0, .int .i64 0, .int .i64 0, .int .i64 0, .int .i64 0, .int .i64 0, .int .i64 0, .int .i64 0, .int .i64 0, .int .i64 0, .int .i64 0, .int .i64 0]

theorem SS.is_cases (s : SS) (n : Int) : (s.is n = 0 ∧ 0 ≤ n ∧ n < 6 ∧ s.here n = true) ∨ (s.is n = 1 ∧ (n < 0 ∨ 6 ≤ n)) ∨ (s.is n = 2 ∧ 0 ≤ n ∧ n < 6 ∧ s.here n = false) := by
  unfold SS.is; split
  · exact .inr (.inl ⟨rfl, by assumption⟩)
  · split
    · exact .inl ⟨rfl, by omega, by omega, by assumption⟩
    · exact .inr (.inr ⟨rfl, by omega, by omega, by simp_all⟩)
theorem fr_agg (p : Int) : 0 + 23 ≤ 23 ∧ aggOf (encFr ⟨p, frf 21⟩) 0 23 = .agg (frSp p) := ⟨by omega, rfl⟩
theorem fr_out (s : FrS) : ∀ i, 23 ≤ i → encFr s i = undef := by
  intro i h
  unfold encFr
  repeat rw [if_neg (by omega)]
theorem updL_lt (C : Nat → Value) : ∀ (vs : List Value) (o i : Nat), i < o → updL C o vs i = C i := by
  intro vs
  induction vs generalizing C with
  | nil => intro o i _; rfl
  | cons v r ih =>
    intro o i h
    rw [updL, ih _ _ _ (by omega)]
    simp [upd]; omega
theorem updL_ge (C : Nat → Value) : ∀ (vs : List Value) (o i : Nat), o + vs.length ≤ i → updL C o vs i = C i := by
  intro vs
  induction vs generalizing C with
  | nil => intro o i _; rfl
  | cons v r ih =>
    intro o i h
    simp only [List.length_cons] at h
    rw [updL, ih _ _ _ (by omega)]
    simp [upd]; omega
theorem updL_in (C : Nat → Value) : ∀ (vs : List Value) (o j : Nat) (v : Value), vs[j]? = some v → updL C o vs (o + j) = v := by
  intro vs
  induction vs generalizing C with
  | nil => intro o j v h; simp at h
  | cons u r ih =>
    intro o j v h
    cases j with
    | zero =>
      simp at h
      rw [updL, updL_lt _ _ _ _ (by omega)]
      simp [upd, h]
    | succ j =>
      simp at h
      rw [updL, show o + (j + 1) = o + 1 + j from by omega]
      exact ih _ _ _ _ h
theorem fr_put (C : Nat → Value) (hC : ∀ i, 23 ≤ i → C i = undef) (p : Int) : 0 + 23 ≤ 23 ∧ updL C 0 (frSp p).toList = encFr ⟨p, frf 21⟩ := by
  refine ⟨by omega, ?_⟩
  funext i
  by_cases h : i < 23
  · have e : (frSp p).toList[i]? = some (encFr ⟨p, frf 21⟩ i) := by
      have : i = 0 ∨ i = 1 ∨ i = 2 ∨ i = 3 ∨ i = 4 ∨ i = 5 ∨ i = 6 ∨ i = 7 ∨ i = 8 ∨ i = 9 ∨ i = 10 ∨ i = 11 ∨ i = 12 ∨ i = 13 ∨ i = 14 ∨ i = 15 ∨ i = 16 ∨ i = 17 ∨ i = 18 ∨ i = 19 ∨ i = 20 ∨ i = 21 ∨ i = 22 := by omega
      rcases this with rfl | rfl | rfl | rfl | rfl | rfl | rfl | rfl | rfl | rfl | rfl | rfl | rfl | rfl | rfl | rfl | rfl | rfl | rfl | rfl | rfl | rfl | rfl <;> rfl
    have := updL_in C (frSp p).toList 0 i _ e
    rwa [Nat.zero_add] at this
  · rw [updL_ge _ _ _ _ (by show 0 + 23 ≤ i; omega), hC i (by omega), fr_out _ i (by omega)]
theorem fr_store (p : Int) (C : Nat → Value) (hC : ∀ i, 23 ≤ i → C i = undef) : 0 + 23 ≤ 23 ∧ updL C 0 [.bool true, .int .i64 p, .int .i64 0, .int .i64 0, .int .i64 0, .int .i64 0, .int .i64 0, .int .i64 0, .int .i64 0, .int .i64 0, .int .i64 0, .int .i64 0, .int .i64 0, .int .i64 0, .int .i64 0, .int .i64 0, .int .i64 0, .int .i64 0, .int .i64 0, .int .i64 0, .int .i64 0, .int .i64 0, .int .i64 0] = encFr ⟨p, frf 0⟩ := by
  refine ⟨by omega, ?_⟩
  funext i
  by_cases h : i < 23
  · have : i = 0 ∨ i = 1 ∨ i = 2 ∨ i = 3 ∨ i = 4 ∨ i = 5 ∨ i = 6 ∨ i = 7 ∨ i = 8 ∨ i = 9 ∨ i = 10 ∨ i = 11 ∨ i = 12 ∨ i = 13 ∨ i = 14 ∨ i = 15 ∨ i = 16 ∨ i = 17 ∨ i = 18 ∨ i = 19 ∨ i = 20 ∨ i = 21 ∨ i = 22 := by omega
    rcases this with rfl | rfl | rfl | rfl | rfl | rfl | rfl | rfl | rfl | rfl | rfl | rfl | rfl | rfl | rfl | rfl | rfl | rfl | rfl | rfl | rfl | rfl | rfl <;> rfl
  · rw [updL_ge _ _ _ _ (by show 0 + 23 ≤ i; omega), hC i (by omega), fr_out _ i (by omega)]
theorem zero_out : ∀ i, 23 ≤ i → cellsOf spZero i = undef := by
  intro i h
  have : spZero.size = 23 := rfl
  have h2 : spZero[i]? = none := Array.getElem?_eq_none (by omega)
  simp [cellsOf, h2]
theorem encT_who (s : SS) (n : Int) (q : 0 ≤ n ∧ n < 6) (hc : s.here n = true) : (((0 + 0) + n.toNat * 23) + 2) + 21 ≤ 158 ∧ aggOf (encT s) (((0 + 0) + n.toNat * 23) + 2) 21 = .agg (arrV (s.who n) 21) := by
  refine ⟨by omega, ?_⟩
  unfold aggOf arrV
  congr 2
  apply List.map_congr_left
  intro j hj
  have hj2 : j < 21 := by simpa using hj
  have := (encT.ldc_s_I_who_I s n (j : Int) q (by omega) hc).2
  simpa using this
theorem membersL_next (f : Int → Int) (k : Nat) : (f k ≥ 0 → membersL f (k + 1) = membersL f k ++ [f k]) ∧ (¬ f k ≥ 0 → membersL f (k + 1) = membersL f k) := by
  refine ⟨fun h => by simp [membersL, h], fun h => by simp [membersL, h]⟩
theorem membersI_next (f : Int → Int) {k : Int} (h : 0 ≤ k) : (f k ≥ 0 → membersL f (k + 1).toNat = membersL f k.toNat ++ [f k]) ∧ (¬ f k ≥ 0 → membersL f (k + 1).toNat = membersL f k.toNat) := by
  have := membersL_next f k.toNat
  rw [show ((k.toNat : Nat) : Int) = k from by omega] at this
  rw [show (k + 1).toNat = k.toNat + 1 from by omega]
  exact this
theorem SS.pid_some {s : SS} {p n q : Int} (hi : s.is n = 0) (hp : ¬ (p < 0 ∨ 20 ≤ p)) (hq : 0 ≤ q ∧ q < 21) (h : s.who n q = p) (hn : ∀ j : Int, 0 ≤ j → j < q → s.who n j ≠ p) : s.pid p n = (q, 0) := by
  unfold SS.pid
  rw [if_neg (by simp [hi]), if_neg hp, firstN_some (k := q) hq.1 (by omega) (by simpa using h) (fun j h1 h2 => by simpa using hn j h1 h2)]
  simp only []
  rw [show ((q.toNat : Nat) : Int) = q from by omega]
theorem SS.pid_none {s : SS} {p n : Int} (hi : s.is n = 0) (hp : ¬ (p < 0 ∨ 20 ≤ p)) (hn : ∀ j : Int, 0 ≤ j → j < 21 → s.who n j ≠ p) : s.pid p n = (0, 2) := by
  unfold SS.pid
  rw [if_neg (by simp [hi]), if_neg hp, firstN_none (fun j h1 h2 => by simpa using hn j h1 (by omega))]
theorem SS.pid_err {s : SS} {p n : Int} (h : s.is n ≠ 0) : s.pid p n = (0, s.is n) := by unfold SS.pid; rw [if_pos h]
theorem SS.pid_bound {s : SS} {p n : Int} (h : s.is n = 0) (hp : p < 0 ∨ 20 ≤ p) : s.pid p n = (0, 1) := by unfold SS.pid; rw [if_neg (by simp [h]), if_pos hp]
theorem SS.find_err {s : SS} {n q : Int} (h : s.is n ≠ 0) : s.find n q = (0, s.is n) := by unfold SS.find; rw [if_pos h]
theorem SS.find_none {s : SS} {n q : Int} (h : s.is n = 0) (hq : q < 1 ∨ 20 < q ∨ s.who n q < 0) : s.find n q = (0, 2) := by
  unfold SS.find; rw [if_neg (by simp [h])]
  by_cases h1 : q < 1 ∨ 20 < q
  · rw [if_pos h1]
  · rw [if_neg h1, if_pos (by omega)]
theorem SS.find_ok {s : SS} {n q : Int} (h : s.is n = 0) (hq : ¬ (q < 1 ∨ 20 < q)) (hw : ¬ s.who n q < 0) : s.find n q = (s.who n q, 0) := by
  unfold SS.find; rw [if_neg (by simp [h]), if_neg hq, if_neg hw]
theorem SS.in_bound {s : SS} {p : Int} (h : p < 0 ∨ 20 ≤ p) : s.in_ p = (0, 1) := by unfold SS.in_; rw [if_pos h]
theorem SS.in_none {s : SS} {p : Int} (h : ¬ (p < 0 ∨ 20 ≤ p)) (h2 : s.loc p < 0) : s.in_ p = (0, 2) := by unfold SS.in_; rw [if_neg h, if_pos h2]
theorem SS.in_ok {s : SS} {p : Int} (h : ¬ (p < 0 ∨ 20 ≤ p)) (h2 : ¬ s.loc p < 0) : s.in_ p = (s.loc p, 0) := by unfold SS.in_; rw [if_neg h, if_neg h2]
theorem SS.way_nil {s : SS} {dep : Int → Nat} {n : Int} (hD : s.Deep dep) (h : 0 ≤ n ∧ n < 6 ∧ s.here n = true) (hp : s.par n = -1) : s.wayF (dep n) n = [n] := by
  obtain ⟨h1, _, h3⟩ := hD.d n h.1 h.2.1 h.2.2
  rcases h3 with ⟨_, h4⟩ | ⟨h4, _⟩
  · rw [h4]; rfl
  · omega
theorem SS.way_next {s : SS} {dep : Int → Nat} {n : Int} (hD : s.Deep dep) (h : 0 ≤ n ∧ n < 6 ∧ s.here n = true) (hp : ¬ s.par n = -1) : s.wayF (dep n) n = n :: s.wayF (dep (s.par n)) (s.par n) ∧ 0 ≤ s.par n ∧ s.par n < 6 ∧ s.here (s.par n) = true ∧ dep (s.par n) < dep n := by
  obtain ⟨h1, _, h3⟩ := hD.d n h.1 h.2.1 h.2.2
  rcases h3 with ⟨h4, _⟩ | ⟨h4, h5, h6, h7⟩
  · exact absurd h4 hp
  · exact ⟨by rw [h7]; rfl, h4, h5, h6, by omega⟩

theorem SS.way_len (s : SS) (dep : Int → Nat) (n : Int) : (s.way dep n).length = dep n := s.wayF_length _ _
theorem SS.add_err {s : SS} {dep : Int → Nat} {p : Int} (h : s.is p ≠ 0) : s.add dep p = (0, s.is p, s) := by unfold SS.add; rw [if_pos h]
theorem SS.add_deep {s : SS} {dep : Int → Nat} {p : Int} (h : s.is p = 0) (h2 : dep p = 4) : s.add dep p = (0, 7, s) := by unfold SS.add; rw [if_neg (by simp [h]), if_pos h2]
theorem SS.add_some {s : SS} {dep : Int → Nat} {p k : Int} (h : s.is p = 0) (h2 : ¬ dep p = 4) (hk : 0 ≤ k ∧ k < 6) (hh : s.here k = false) (hn : ∀ j : Int, 0 ≤ j → j < k → s.here j = true) :
    s.add dep p = (k, 0, { s with here := fset s.here k true, par := fset s.par k p }) := by
  unfold SS.add
  rw [if_neg (by simp [h]), if_neg h2, firstN_some (k := k) hk.1 (by omega) (by simp [hh]) (fun j h1 h2 => by simp [hn j h1 h2])]
  simp only []
  rw [show ((k.toNat : Nat) : Int) = k from by omega]
theorem SS.add_none {s : SS} {dep : Int → Nat} {p : Int} (h : s.is p = 0) (h2 : ¬ dep p = 4) (hn : ∀ j : Int, 0 ≤ j → j < 6 → s.here j = true) : s.add dep p = (0, 4, s) := by
  unfold SS.add
  rw [if_neg (by simp [h]), if_neg h2, firstN_none (fun j h1 h2 => by simp [hn j h1 (by omega)])]
theorem SS.drop_err {s : SS} {n : Int} (h : s.is n ≠ 0) : s.drop n = (s.is n, s) := by unfold SS.drop; rw [if_pos h]
theorem SS.drop_busy {s : SS} {n : Int} (h : s.is n = 0) (h2 : n = 0 ∨ (s.members n).length > 0) : s.drop n = (5, s) := by unfold SS.drop; rw [if_neg (by simp [h]), if_pos h2]
theorem SS.drop_kid {s : SS} {n k : Int} (h : s.is n = 0) (h2 : ¬ (n = 0 ∨ (s.members n).length > 0)) (hk : 0 ≤ k ∧ k < 6) (hh : s.here k = true) (hp : s.par k = n) (hn : ∀ j : Int, 0 ≤ j → j < k → ¬ (s.here j = true ∧ s.par j = n)) : s.drop n = (5, s) := by
  unfold SS.drop SS.kids
  rw [if_neg (by simp [h]), if_neg h2, firstN_some (k := k) hk.1 (by omega) (by simp [hh, hp]) (fun j h1 h2 => by have := hn j h1 h2; simp only [not_and] at this; cases q : s.here j <;> simp; exact this q)]
theorem SS.drop_ok {s : SS} {n : Int} (h : s.is n = 0) (h2 : ¬ (n = 0 ∨ (s.members n).length > 0)) (hn : ∀ j : Int, 0 ≤ j → j < 6 → ¬ (s.here j = true ∧ s.par j = n)) : s.drop n = (0, { s with here := fset s.here n false, par := fset s.par n 0 }) := by
  unfold SS.drop SS.kids
  rw [if_neg (by simp [h]), if_neg h2, firstN_none (fun j h1 h2 => by have := hn j h1 (by omega); simp only [not_and] at this; cases q : s.here j <;> simp; exact this q)]
theorem allI_next (f : Int → Bool) {k : Int} (h : 0 ≤ k) : (f k = true → allL f (k + 1).toNat = allL f k.toNat ++ [k]) ∧ (f k = false → allL f (k + 1).toNat = allL f k.toNat) := by
  have e : ((k.toNat : Nat) : Int) = k := by omega
  rw [show (k + 1).toNat = k.toNat + 1 from by omega]
  refine ⟨fun q => ?_, fun q => ?_⟩ <;> simp [allL, e, q]
/-- a whole space laid at once -/ theorem encT_put (s s' : SS) (k : Int) (q : 0 ≤ k ∧ k < 6) (vs : List Value) (hl : vs.length = 23)
    (h0 : vs[0]? = some (.bool (s'.here k))) (h1 : vs[1]? = some (.int .i64 (s'.par k))) (h2 : ∀ j : Nat, j < 21 → vs[j + 2]? = some (.int .i64 (if s'.here k then s'.who k j else 0)))
    (hh : ∀ n, ¬ n = k → s'.here n = s.here n) (hp : ∀ n, ¬ n = k → s'.par n = s.par n) (hw : s'.who = s.who) (ho : s'.loc = s.loc) :
    0 + 0 + k.toNat * 23 + 23 ≤ 158 ∧ updL (encT s) (0 + 0 + k.toNat * 23) vs = encT s' := by
  refine ⟨by omega, ?_⟩
  funext i
  by_cases ha : i < 0 + 0 + k.toNat * 23
  · rw [updL_lt _ _ _ _ ha]
    unfold encT
    refine ite_both (fun c => by rw [hh _ (by omega)]) (fun _ => ite_both (fun c => by rw [hp _ (by omega)]) (fun _ => ite_both (fun c => by rw [hh _ (by omega), hw]) (fun _ => by rw [ho])))
  · by_cases hb : i < 0 + 0 + k.toNat * 23 + 23
    · obtain ⟨j, rfl⟩ : ∃ j, i = 0 + 0 + k.toNat * 23 + j := ⟨i - (0 + 0 + k.toNat * 23), by omega⟩
      have hj : j < 23 := by omega
      refine updL_in _ _ _ _ _ ?_
      by_cases j0 : j = 0
      · subst j0; rw [h0]; exact congrArg some (encT.ld_s_I_here s' k q).2.symm
      · by_cases j1 : j = 1
        · subst j1; rw [h1]; exact congrArg some (encT.ld_s_I_parent s' k q).2.symm
        · have h3 := (encT.ld_s_I_who_I s' k ((j - 2 : Nat) : Int) q (by omega)).2
          have h4 := h2 (j - 2) (by omega)
          rw [show j - 2 + 2 = j from by omega] at h4
          rw [h4, ← h3]
          congr 2
          omega
    · rw [updL_ge _ _ _ _ (by omega)]
      unfold encT
      refine ite_both (fun c => by rw [hh _ (by omega)]) (fun _ => ite_both (fun c => by rw [hp _ (by omega)]) (fun _ => ite_both (fun c => by rw [hh _ (by omega), hw]) (fun _ => by rw [ho])))
theorem encT_fresh (s : SS) (k p : Int) (q : 0 ≤ k ∧ k < 6) (hw : ∀ j, s.who k j = -1) : 0 + 0 + k.toNat * 23 + 23 ≤ 158 ∧ updL (encT s) (0 + 0 + k.toNat * 23) (frSp p).toList = encT { s with here := fset s.here k true, par := fset s.par k p } := by
  refine encT_put s _ k q _ rfl (by simp [fset]; rfl) (by simp [fset]; rfl) (fun j hj => ?_) (fun n hn => by simp [fset, hn]) (fun n hn => by simp [fset, hn]) rfl rfl
  simp only [fset, if_true, hw]
  have : j = 0 ∨ j = 1 ∨ j = 2 ∨ j = 3 ∨ j = 4 ∨ j = 5 ∨ j = 6 ∨ j = 7 ∨ j = 8 ∨ j = 9 ∨ j = 10 ∨ j = 11 ∨ j = 12 ∨ j = 13 ∨ j = 14 ∨ j = 15 ∨ j = 16 ∨ j = 17 ∨ j = 18 ∨ j = 19 ∨ j = 20 := by omega
  rcases this with rfl | rfl | rfl | rfl | rfl | rfl | rfl | rfl | rfl | rfl | rfl | rfl | rfl | rfl | rfl | rfl | rfl | rfl | rfl | rfl | rfl <;> rfl
theorem encT_clear (s : SS) (k : Int) (q : 0 ≤ k ∧ k < 6) : 0 + 0 + k.toNat * 23 + 23 ≤ 158 ∧ updL (encT s) (0 + 0 + k.toNat * 23) spZero.toList = encT { s with here := fset s.here k false, par := fset s.par k 0 } := by
  refine encT_put s _ k q _ rfl (by simp [fset]; rfl) (by simp [fset]; rfl) (fun j hj => ?_) (fun n hn => by simp [fset, hn]) (fun n hn => by simp [fset, hn]) rfl rfl
  simp only [fset, if_true]
  have : j = 0 ∨ j = 1 ∨ j = 2 ∨ j = 3 ∨ j = 4 ∨ j = 5 ∨ j = 6 ∨ j = 7 ∨ j = 8 ∨ j = 9 ∨ j = 10 ∨ j = 11 ∨ j = 12 ∨ j = 13 ∨ j = 14 ∨ j = 15 ∨ j = 16 ∨ j = 17 ∨ j = 18 ∨ j = 19 ∨ j = 20 := by omega
  rcases this with rfl | rfl | rfl | rfl | rfl | rfl | rfl | rfl | rfl | rfl | rfl | rfl | rfl | rfl | rfl | rfl | rfl | rfl | rfl | rfl | rfl <;> rfl
def tZero : Array Value := #[.bool false, .int .i64 0, .int .i64 0, .int .i64 0, .int .i64 0, .int .i64 0, .int .i64 0, .int .i64 0, .int .i64 0, .int .i64 0, .int .i64 0, .int .i64 0, .int .i64 0, .int .i64 0, .int .i64 0, .int .i64 0, .int .i64 0, .int .i64 0, .int .i64 0, .int .i64 0, .int .i64 0, .int .i64 0, .int .i64 0, .bool false, .int .i64 0, .int .i64 0, .int .i64 0, .int .i64 0, .int .i64 0, .int .i64 0, .int .i64 0, .int .i64 0, .int .i64 0, .int .i64 0, .int .i64 0, .int .i64 0, .int .i64 0, .int .i64 0, .int .i64 0, .int .i64 0, .int .i64 0, .int .i64 0, .int .i64 0, .int .i64 0, .int .i64 0, .int .i64 0, .bool false, .int .i64 0, .int .i64 0, .int .i64 0, .int .i64 0, .int .i64 0, .int .i64 0, .int .i64 0, .int .i64 0, .int .i64 0, .int .i64 0, .int .i64 0, .int .i64 0, .int .i64 0, .int .i64 0, .int .i64 0, .int .i64 0, .int .i64 0, .int .i64 0, .int .i64 0, .int .i64 0, .int .i64 0, .int .i64 0, .bool false, .int .i64 0, .int .i64 0, .int .i64 0, .int .i64 0, .int .i64 0, .int .i64 0, .int .i64 0, .int .i64 0, .int .i64 0, .int .i64 0, .int .i64 0, .int .i64 0, .int .i64 0, .int .i64 0, .int .i64 0, .int .i64 0, .int .i64 0, .int .i64 0, .int .i64 0, .int .i64 0, .int .i64 0, .int .i64 0, .bool false, .int .i64 0, .int .i64 0, .int .i64 0, .int .i64 0, .int .i64 0, .int .i64 0, .int .i64 0, .int .i64 0, .int .i64 0, .int .i64 0, .int .i64 0, .int .i64 0, .int .i64 0, .int .i64 0, .int .i64 0, .int .i64 0, .int .i64 0, .int .i64 0, .int .i64 0, .int .i64 0, .int .i64 0, .int .i64 0, .bool false, .int .i64 0, .int .i64 0, .int .i64 0, .int .i64 0, .int .i64 0, .int .i64 0, .int .i64 0, .int .i64 0, .int .i64 0, .int .i64 0, .int .i64 0, .int .i64 0, .int .i64 0, .int .i64 0, .int .i64 0, .int .i64 0, .int .i64 0, .int .i64 0, .int .i64 0, .int .i64 0, .int .i64 0, .int .i64 0, .int .i64 0, .int .i64 0, .int .i64 0, .int .i64 0, .int .i64 0, .int .i64 0, .int .i64 0, .int .i64 0, .int .i64 0, .int .i64 0, .int .i64 0, .int .i64 0, .int .i64 0, .int .i64 0, .int .i64 0, .int .i64 0, .int .i64 0, .int .i64 0, .int .i64 0, .int .i64 0]
set_option maxRecDepth 20000 in theorem boxT_init : ∀ i, i < 158 → cellsOf tZero i = encT SS.zero i := fun i hi => match i, hi with
  | 0, _ => rfl
  | 1, _ => rfl
  | 2, _ => rfl
  | 3, _ => rfl
  | 4, _ => rfl
  | 5, _ => rfl
  | 6, _ => rfl
  | 7, _ => rfl
  | 8, _ => rfl
  | 9, _ => rfl
  | 10, _ => rfl
  | 11, _ => rfl
  | 12, _ => rfl
  | 13, _ => rfl
  | 14, _ => rfl
  | 15, _ => rfl
  | 16, _ => rfl
  | 17, _ => rfl
  | 18, _ => rfl
  | 19, _ => rfl
  | 20, _ => rfl
  | 21, _ => rfl
  | 22, _ => rfl
  | 23, _ => rfl
  | 24, _ => rfl
  | 25, _ => rfl
  | 26, _ => rfl
  | 27, _ => rfl
  | 28, _ => rfl
  | 29, _ => rfl
  | 30, _ => rfl
  | 31, _ => rfl
  | 32, _ => rfl
  | 33, _ => rfl
  | 34, _ => rfl
  | 35, _ => rfl
  | 36, _ => rfl
  | 37, _ => rfl
  | 38, _ => rfl
  | 39, _ => rfl
  | 40, _ => rfl
  | 41, _ => rfl
  | 42, _ => rfl
  | 43, _ => rfl
  | 44, _ => rfl
  | 45, _ => rfl
  | 46, _ => rfl
  | 47, _ => rfl
  | 48, _ => rfl
  | 49, _ => rfl
  | 50, _ => rfl
  | 51, _ => rfl
  | 52, _ => rfl
  | 53, _ => rfl
  | 54, _ => rfl
  | 55, _ => rfl
  | 56, _ => rfl
  | 57, _ => rfl
  | 58, _ => rfl
  | 59, _ => rfl
  | 60, _ => rfl
  | 61, _ => rfl
  | 62, _ => rfl
  | 63, _ => rfl
  | 64, _ => rfl
  | 65, _ => rfl
  | 66, _ => rfl
  | 67, _ => rfl
  | 68, _ => rfl
  | 69, _ => rfl
  | 70, _ => rfl
  | 71, _ => rfl
  | 72, _ => rfl
  | 73, _ => rfl
  | 74, _ => rfl
  | 75, _ => rfl
  | 76, _ => rfl
  | 77, _ => rfl
  | 78, _ => rfl
  | 79, _ => rfl
  | 80, _ => rfl
  | 81, _ => rfl
  | 82, _ => rfl
  | 83, _ => rfl
  | 84, _ => rfl
  | 85, _ => rfl
  | 86, _ => rfl
  | 87, _ => rfl
  | 88, _ => rfl
  | 89, _ => rfl
  | 90, _ => rfl
  | 91, _ => rfl
  | 92, _ => rfl
  | 93, _ => rfl
  | 94, _ => rfl
  | 95, _ => rfl
  | 96, _ => rfl
  | 97, _ => rfl
  | 98, _ => rfl
  | 99, _ => rfl
  | 100, _ => rfl
  | 101, _ => rfl
  | 102, _ => rfl
  | 103, _ => rfl
  | 104, _ => rfl
  | 105, _ => rfl
  | 106, _ => rfl
  | 107, _ => rfl
  | 108, _ => rfl
  | 109, _ => rfl
  | 110, _ => rfl
  | 111, _ => rfl
  | 112, _ => rfl
  | 113, _ => rfl
  | 114, _ => rfl
  | 115, _ => rfl
  | 116, _ => rfl
  | 117, _ => rfl
  | 118, _ => rfl
  | 119, _ => rfl
  | 120, _ => rfl
  | 121, _ => rfl
  | 122, _ => rfl
  | 123, _ => rfl
  | 124, _ => rfl
  | 125, _ => rfl
  | 126, _ => rfl
  | 127, _ => rfl
  | 128, _ => rfl
  | 129, _ => rfl
  | 130, _ => rfl
  | 131, _ => rfl
  | 132, _ => rfl
  | 133, _ => rfl
  | 134, _ => rfl
  | 135, _ => rfl
  | 136, _ => rfl
  | 137, _ => rfl
  | 138, _ => rfl
  | 139, _ => rfl
  | 140, _ => rfl
  | 141, _ => rfl
  | 142, _ => rfl
  | 143, _ => rfl
  | 144, _ => rfl
  | 145, _ => rfl
  | 146, _ => rfl
  | 147, _ => rfl
  | 148, _ => rfl
  | 149, _ => rfl
  | 150, _ => rfl
  | 151, _ => rfl
  | 152, _ => rfl
  | 153, _ => rfl
  | 154, _ => rfl
  | 155, _ => rfl
  | 156, _ => rfl
  | 157, _ => rfl
  | k + 158, h => absurd h (by omega)

theorem frf_zero : frf 0 = fun _ => 0 := by
  funext q; simp only [frf]; rw [if_neg (by omega)]
theorem SS.wayF_congr {s s' : SS} (h : s'.par = s.par) : ∀ (k : Nat) (n : Int), s'.wayF k n = s.wayF k n
  | 0, _ => rfl
  | k + 1, n => by simp only [SS.wayF, h, SS.wayF_congr h k]
theorem SS.way_mem {s : SS} {dep : Int → Nat} (hD : s.Deep dep) : ∀ (k : Nat) (n : Int), dep n = k → 0 ≤ n → n < 6 → s.here n = true → ∀ a ∈ s.wayF k n, 0 ≤ a ∧ a < 6 ∧ s.here a = true
  | 0, n, hk, h0, h6, hh, a, ha => by have := (hD.d n h0 h6 hh).1; omega
  | k + 1, n, hk, h0, h6, hh, a, ha => by
    obtain ⟨_, _, h3⟩ := hD.d n h0 h6 hh
    simp only [SS.wayF, List.mem_cons] at ha
    rcases ha with rfl | ha
    · exact ⟨h0, h6, hh⟩
    · rcases h3 with ⟨_, h4⟩ | ⟨h4, h5, h6', h7⟩
      · obtain rfl : k = 0 := by omega
        simp [SS.wayF] at ha
      · exact SS.way_mem hD k _ (by omega) h4 h5 h6' a ha
theorem at0_mem {zs : List Int} {z : Int} (h : 0 ≤ z ∧ z < zs.length) : at0 zs z ∈ zs := by
  have h2 : z.toNat < zs.length := by omega
  simp [at0, List.getD, h2]
theorem SS.way_at {s : SS} {dep : Int → Nat} (hD : s.Deep dep) {n : Int} (h : 0 ≤ n ∧ n < 6 ∧ s.here n = true) {z : Int} (hz : 0 ≤ z ∧ z < (s.way dep n).length) : 0 ≤ at0 (s.way dep n) z ∧ at0 (s.way dep n) z < 6 ∧ s.here (at0 (s.way dep n) z) = true :=
  SS.way_mem hD _ n rfl h.1 h.2.1 h.2.2 _ (at0_mem hz)
theorem drop_at0 {zs : List Int} {z : Int} (h : 0 ≤ z ∧ z < zs.length) : zs.drop z.toNat = at0 zs z :: zs.drop (z + 1).toNat := by
  have h2 : z.toNat < zs.length := by omega
  rw [List.drop_eq_getElem_cons h2, show (z + 1).toNat = z.toNat + 1 from by omega]
  simp [at0, List.getD, h2]
theorem put1_some {w : Int → Int → Int} {a p k : Int} (hk : 1 ≤ k ∧ k ≤ 20) (h : w a k < 0) (hn : ∀ j : Int, 1 ≤ j → j < k → ¬ w a j < 0) : put1 w a p = fset2 w a k p := by
  unfold put1
  rw [firstN_some (k := k - 1) (by omega) (by omega) (by rw [show k - 1 + 1 = k from by omega]; simpa using h) (fun j h1 h2 => by simpa using hn (j + 1) (by omega) (by omega))]
  simp only []
  rw [show (((k - 1).toNat : Nat) : Int) + 1 = k from by omega]
theorem put1_none {w : Int → Int → Int} {a p : Int} (hn : ∀ j : Int, 1 ≤ j → j < 21 → ¬ w a j < 0) : put1 w a p = w := by
  unfold put1
  rw [firstN_none (fun j h1 h2 => by simpa using hn (j + 1) (by omega) (by omega))]
theorem SS.enter_err {s : SS} {dep : Int → Nat} {n p : Int} (h : s.is n ≠ 0) : s.enter dep n p = (0, s.is n, s) := by unfold SS.enter; rw [if_pos h]
theorem SS.enter_bound {s : SS} {dep : Int → Nat} {n p : Int} (h : s.is n = 0) (h2 : p < 0 ∨ 20 ≤ p) : s.enter dep n p = (0, 1, s) := by unfold SS.enter; rw [if_neg (by simp [h]), if_pos h2]
theorem SS.enter_exist {s : SS} {dep : Int → Nat} {n p : Int} (h : s.is n = 0) (h2 : ¬ (p < 0 ∨ 20 ≤ p)) (h3 : 0 ≤ s.loc p) : s.enter dep n p = (0, 3, s) := by unfold SS.enter; rw [if_neg (by simp [h]), if_neg h2, if_pos h3]
theorem SS.enter_ok {s : SS} {dep : Int → Nat} {n p : Int} (h : s.is n = 0) (h2 : ¬ (p < 0 ∨ 20 ≤ p)) (h3 : ¬ 0 ≤ s.loc p) : s.enter dep n p = (((s.entered dep n p).pid p n).1, ((s.entered dep n p).pid p n).2, s.entered dep n p) := by unfold SS.enter; rw [if_neg (by simp [h]), if_neg h2, if_neg h3]

def clrK (w : Int → Int → Int) (a p k : Int) : Int → Int → Int := fun m q => if m = a ∧ 0 ≤ q ∧ q < k ∧ w m q = p then -1 else w m q
theorem clrK_zero (w : Int → Int → Int) (a p : Int) : clrK w a p 0 = w := by
  funext m q; unfold clrK; rw [if_neg (by omega)]
theorem clrK_set {w : Int → Int → Int} {a p k : Int} (hk : 0 ≤ k) (h : w a k = p) : fset2 (clrK w a p k) a k (-1) = clrK w a p (k + 1) := by
  funext m q
  unfold fset2 clrK
  by_cases h1 : m = a ∧ q = k
  · obtain ⟨rfl, rfl⟩ := h1
    rw [if_pos ⟨rfl, rfl⟩, if_pos ⟨rfl, hk, by omega, h⟩]
  · rw [if_neg h1]
    by_cases h2 : m = a ∧ 0 ≤ q ∧ q < k ∧ w m q = p
    · rw [if_pos h2, if_pos ⟨h2.1, h2.2.1, by omega, h2.2.2.2⟩]
    · rw [if_neg h2, if_neg]
      rintro ⟨e1, e2, e3, e4⟩
      exact h2 ⟨e1, e2, by omega, e4⟩
theorem clrK_skip {w : Int → Int → Int} {a p k : Int} (h : ¬ w a k = p) : clrK w a p k = clrK w a p (k + 1) := by
  funext m q
  unfold clrK
  by_cases h2 : m = a ∧ 0 ≤ q ∧ q < k ∧ w m q = p
  · rw [if_pos h2, if_pos ⟨h2.1, h2.2.1, by omega, h2.2.2.2⟩]
  · rw [if_neg h2, if_neg]
    rintro ⟨e1, e2, e3, e4⟩
    by_cases e5 : q = k
    · subst e5; subst e1; exact h e4
    · exact h2 ⟨e1, e2, by omega, e4⟩
def clrL (w : Int → Int → Int) (l : List Int) (p : Int) : Int → Int → Int := fun m q => if m ∈ l ∧ 0 ≤ q ∧ q < 21 ∧ w m q = p then -1 else w m q
theorem clrL_nil (w : Int → Int → Int) (p : Int) : clrL w [] p = w := by
  funext m q; unfold clrL; rw [if_neg (by simp)]
theorem clrL_next {w : Int → Int → Int} {l : List Int} {p z : Int} (hp : 0 ≤ p) (hz : 0 ≤ z ∧ z < l.length) : clrK (clrL w (l.take z.toNat) p) (at0 l z) p 21 = clrL w (l.take (z + 1).toNat) p := by
  have h2 : z.toNat < l.length := by omega
  have ht : l.take (z + 1).toNat = l.take z.toNat ++ [at0 l z] := by
    rw [show (z + 1).toNat = z.toNat + 1 from by omega, List.take_add_one]
    simp [at0, List.getD, h2]
  funext m q
  unfold clrK clrL
  rw [ht]
  simp only [List.mem_append, List.mem_singleton]
  by_cases h3 : m ∈ l.take z.toNat ∧ 0 ≤ q ∧ q < 21 ∧ w m q = p
  · have hr : (m ∈ l.take z.toNat ∨ m = at0 l z) ∧ 0 ≤ q ∧ q < 21 ∧ w m q = p := ⟨.inl h3.1, h3.2⟩
    rw [if_pos hr, if_pos h3]
    split <;> rfl
  · rw [if_neg h3]
    by_cases h4 : m = at0 l z ∧ 0 ≤ q ∧ q < 21 ∧ w m q = p
    · have hr : (m ∈ l.take z.toNat ∨ m = at0 l z) ∧ 0 ≤ q ∧ q < 21 ∧ w m q = p := ⟨.inr h4.1, h4.2⟩
      rw [if_pos h4, if_pos hr]
    · have hr : ¬ ((m ∈ l.take z.toNat ∨ m = at0 l z) ∧ 0 ≤ q ∧ q < 21 ∧ w m q = p) := by
        rintro ⟨e1 | e1, e2⟩
        · exact h3 ⟨e1, e2⟩
        · exact h4 ⟨e1, e2⟩
      rw [if_neg h4, if_neg hr]
theorem clrL_all {s : SS} {l : List Int} {p : Int} (hW : ∀ n q, s.who n q = p → n ∈ l ∧ 0 ≤ q ∧ q < 21) : clrL s.who l p = fun n q => if s.who n q = p then -1 else s.who n q := by
  funext n q
  unfold clrL
  by_cases h : s.who n q = p
  · rw [if_pos ⟨(hW n q h).1, (hW n q h).2.1, (hW n q h).2.2, h⟩, if_pos h]
  · rw [if_neg (fun e => h e.2.2.2), if_neg h]

end Go.X.Sp
