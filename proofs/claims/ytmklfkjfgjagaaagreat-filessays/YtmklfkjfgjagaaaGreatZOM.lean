import Derived.Test.YtmklfkjfgjagaaaGreatZOP
import Derived.Test.YtmklfkjfgjagaaaGreatNTM
namespace Go.X
open Go
/-! ### open files -/
structure OS where
  kind : Int → Int
  n : Int → Int
  at_ : Int → Int
  refs : Int → Int
  write : Int → Bool
namespace OS
def is (s : OS) (n : Int) : Int := if n < 0 ∨ 24 ≤ n then 1 else if s.refs n = 0 then 2 else 0
def firstT (s : OS) : Nat → Int
  | 0 => -1
  | k + 1 => if 0 ≤ firstT s k then firstT s k else if s.refs (k : Int) = 0 then (k : Int) else -1
def first (s : OS) : Int := firstT s 24
def freeT (s : OS) (m : Int) : Nat → List Int
  | 0 => []
  | k + 1 => if s.refs (k : Int) = 0 ∧ ((freeT s m k).length : Int) < m then freeT s m k ++ [(k : Int)] else freeT s m k
def lay (s : OS) (z k n : Int) (w : Bool) : OS := ⟨fset s.kind z k, fset s.n z n, fset s.at_ z 0, fset s.refs z 1, fset s.write z w⟩
def clr (s : OS) (z : Int) : OS := ⟨fset s.kind z 0, fset s.n z 0, fset s.at_ z 0, fset s.refs z 0, fset s.write z false⟩
def move (s : OS) (z d : Int) : OS := { s with at_ := fset s.at_ z (s.at_ z + d) }
def void : OS := ⟨fun _ => 0, fun _ => 0, fun _ => 0, fun _ => 0, fun _ => false⟩
def cntT (s : OS) : Nat → Int
  | 0 => 0
  | k + 1 => cntT s k + (if 0 < s.refs (k : Int) then 1 else 0)
def opens (s : OS) : Int := cntT s 24
structure Inv (s : OS) (J : Int) : Prop where
  refs : ∀ n, 0 ≤ n → n < 24 → 0 ≤ s.refs n ∧ s.refs n ≤ J
  at_ : ∀ n, 0 ≤ n → n < 24 → 0 ≤ s.at_ n ∧ s.at_ n ≤ 40
  kind : ∀ n, 0 ≤ n → n < 24 → s.refs n ≠ 0 → s.kind n = 1 ∨ s.kind n = 2 ∨ s.kind n = 3
  write : ∀ n, 0 ≤ n → n < 24 → s.kind n ≠ 1 → s.write n = false
theorem is_0 {s : OS} {n : Int} (h : s.is n = 0) : 0 ≤ n ∧ n < 24 ∧ s.refs n ≠ 0 := by
  unfold is at h
  split at h
  · omega
  · split at h
    · omega
    · exact ⟨by omega, by omega, by assumption⟩
theorem is_nn (s : OS) (n : Int) : 0 ≤ s.is n := by unfold is; split <;> (try split) <;> omega
theorem firstT_spec (s : OS) : ∀ k : Nat, (s.firstT k = -1 ∧ ∀ j : Int, 0 ≤ j → j < k → s.refs j ≠ 0) ∨ (0 ≤ s.firstT k ∧ s.firstT k < k ∧ s.refs (s.firstT k) = 0 ∧ ∀ j : Int, 0 ≤ j → j < s.firstT k → s.refs j ≠ 0)
  | 0 => .inl ⟨rfl, fun j a b => by omega⟩
  | k + 1 => by
    unfold firstT
    rcases firstT_spec s k with ⟨h1, h2⟩ | ⟨h1, h2, h3, h4⟩
    · rw [if_neg (by omega)]
      by_cases c : s.refs (k : Int) = 0
      · rw [if_pos c]; exact .inr ⟨by omega, by omega, c, fun j a b => h2 j a (by omega)⟩
      · rw [if_neg c]
        refine .inl ⟨rfl, fun j a b => ?_⟩
        by_cases e : j = (k : Int)
        · subst e; exact c
        · exact h2 j a (by omega)
    · rw [if_pos h1]; exact .inr ⟨h1, by omega, h3, h4⟩
theorem first_at {s : OS} {i : Int} (h1 : 0 ≤ i) (h2 : i < 24) (ho : ∀ j, 0 ≤ j → j < i → s.refs j ≠ 0) (hz : s.refs i = 0) : s.first = i := by
  unfold first
  rcases s.firstT_spec 24 with ⟨h3, h4⟩ | ⟨h3, h4, h5, h6⟩
  · exact absurd hz (h4 i h1 h2)
  · rcases Int.lt_trichotomy (s.firstT 24) i with c | c | c
    · exact absurd h5 (ho _ h3 c)
    · exact c
    · exact absurd hz (h6 i h1 c)
theorem first_ok {s : OS} (h : ¬ s.first < 0) : 0 ≤ s.first ∧ s.first < 24 ∧ s.refs s.first = 0 := by
  unfold first at h ⊢
  rcases s.firstT_spec 24 with ⟨h3, h4⟩ | ⟨h3, h4, h5, h6⟩
  · omega
  · exact ⟨h3, h4, h5⟩
theorem first_lt {s : OS} {j : Int} (h0 : 0 ≤ j) (h : j < s.first) : s.refs j ≠ 0 := by
  unfold first at h
  rcases s.firstT_spec 24 with ⟨h3, h4⟩ | ⟨h3, h4, h5, h6⟩
  · omega
  · exact h6 j h0 h
theorem freeT_1 (s : OS) : ∀ k, s.freeT 1 k = if 0 ≤ s.firstT k then [s.firstT k] else []
  | 0 => rfl
  | k + 1 => by
    unfold freeT firstT
    rw [freeT_1 s k]
    by_cases c : 0 ≤ s.firstT k
    · simp only [c, if_true, List.length_singleton]
      rw [if_neg (by omega)]
    · simp only [c, if_false, List.length_nil]
      by_cases q : s.refs (k : Int) = 0
      · rw [if_pos ⟨q, by omega⟩, if_pos q, if_pos (by omega)]; rfl
      · rw [if_neg (fun h => q h.1), if_neg q, if_neg (by omega)]
theorem freeT_len (s : OS) (m : Int) : ∀ k, (s.freeT m k).length ≤ k
  | 0 => Nat.le_refl _
  | k + 1 => by
    have := freeT_len s m k
    unfold freeT; split
    · rw [List.length_append, List.length_singleton]; omega
    · omega
theorem freeT_next (s : OS) (m : Int) {i : Int} (h : 0 ≤ i) : s.freeT m (i + 1).toNat = if s.refs i = 0 ∧ ((s.freeT m i.toNat).length : Int) < m then s.freeT m i.toNat ++ [i] else s.freeT m i.toNat := by
  rw [show (i + 1).toNat = i.toNat + 1 by omega]
  conv => lhs; unfold freeT
  rw [show ((i.toNat : Nat) : Int) = i by omega]
theorem cntT_next (s : OS) {i : Int} (h : 0 ≤ i) : s.cntT (i + 1).toNat = s.cntT i.toNat + (if 0 < s.refs i then 1 else 0) := by
  rw [show (i + 1).toNat = i.toNat + 1 by omega]
  conv => lhs; unfold cntT
  rw [show ((i.toNat : Nat) : Int) = i by omega]
theorem free_no {s : OS} (h : ((s.freeT 1 24).length : Int) < 1) : s.first < 0 := by
  rw [freeT_1] at h
  unfold first
  split at h
  · simp at h
  · omega
theorem free_yes {s : OS} (h : ¬ ((s.freeT 1 24).length : Int) < 1) : ¬ s.first < 0 ∧ s.freeT 1 24 = [s.first] := by
  rw [freeT_1] at h ⊢
  unfold first
  split at h
  · rename_i c; rw [if_pos c]; exact ⟨by omega, rfl⟩
  · simp at h
end OS
/-! ### what is answered -/
def onodeE (F : FF) (O : OS) (n : Int) : Int := if F.isE n 1 ≠ 0 then F.isE n 1 else if O.first < 0 then 4 else 0
def onodeV (F : FF) (O : OS) (n : Int) : Int := if onodeE F O n = 0 then O.first else 0
def onodeF (F : FF) (O : OS) (n : Int) : FF := if onodeE F O n = 0 then F.hold n else F
def onodeO (F : FF) (O : OS) (n : Int) (w : Bool) : OS := if onodeE F O n = 0 then O.lay O.first 1 n w else O
def shareO (O : OS) (n : Int) : OS := if O.is n = 0 then { O with refs := fset O.refs n (O.refs n + 1) } else O
def downO (O : OS) (n : Int) : OS := { O with refs := fset O.refs n (O.refs n - 1) }
def lastC (O : OS) (n : Int) : Prop := O.is n = 0 ∧ ¬ 0 < O.refs n - 1
instance (O : OS) (n : Int) : Decidable (lastC O n) := by unfold lastC; infer_instance
def closeE (F : FF) (P : PS) (O : OS) (n : Int) : Int := if O.is n ≠ 0 then O.is n else if 0 < O.refs n - 1 then 0 else if O.kind n = 1 then F.letE (O.n n) else (P.turn (O.n n) (decide (O.kind n = 3)) (-1)).1
def closeF (F : FF) (O : OS) (n : Int) : FF := if lastC O n ∧ O.kind n = 1 then F.letF (O.n n) else F
def closeP (P : PS) (O : OS) (n : Int) : PS := if lastC O n ∧ ¬ O.kind n = 1 then (P.turn (O.n n) (decide (O.kind n = 3)) (-1)).2 else P
def closeO (O : OS) (n : Int) : OS := if O.is n ≠ 0 then O else if 0 < O.refs n - 1 then downO O n else O.clr n
def oreadE (F : FF) (P : PS) (O : OS) (n m : Int) : Int := if O.is n ≠ 0 then O.is n else if O.kind n = 3 then 8 else if O.kind n = 2 then (P.read (O.n n) m).2.1 else F.readE (O.n n) (O.at_ n) m
def oreadV (F : FF) (P : PS) (O : OS) (n m : Int) : ByteArray := if O.is n ≠ 0 then ⟨#[]⟩ else if O.kind n = 3 then ⟨#[]⟩ else if O.kind n = 2 then (P.read (O.n n) m).1 else F.readV (O.n n) (O.at_ n) m
def oreadP (P : PS) (O : OS) (n m : Int) : PS := if O.is n = 0 ∧ O.kind n = 2 then (P.read (O.n n) m).2.2 else P
def oreadO (F : FF) (O : OS) (n m : Int) : OS := if O.is n = 0 ∧ ¬ O.kind n = 3 ∧ ¬ O.kind n = 2 then O.move n ((F.readV (O.n n) (O.at_ n) m).size) else O
def owriteE (F : FF) (P : PS) (O : OS) (n : Int) (x : ByteArray) : Int := if O.is n ≠ 0 then O.is n else if O.kind n = 3 then (P.write (O.n n) x).2.1 else if O.kind n = 2 ∨ O.write n = false then 8 else F.writeE (O.n n) (O.at_ n) x
def fileW (O : OS) (n : Int) : Prop := O.is n = 0 ∧ ¬ O.kind n = 3 ∧ ¬ (O.kind n = 2 ∨ O.write n = false)
instance (O : OS) (n : Int) : Decidable (fileW O n) := by unfold fileW; infer_instance
def owriteV (F : FF) (P : PS) (O : OS) (n : Int) (x : ByteArray) : Int := if O.is n = 0 ∧ O.kind n = 3 then (P.write (O.n n) x).1 else if fileW O n ∧ F.writeE (O.n n) (O.at_ n) x = 0 then (x.size : Int) else 0
def owriteP (P : PS) (O : OS) (n : Int) (x : ByteArray) : PS := if O.is n = 0 ∧ O.kind n = 3 then (P.write (O.n n) x).2.2 else P
def owriteF (F : FF) (O : OS) (n : Int) (x : ByteArray) : FF := if fileW O n then F.write (O.n n) (O.at_ n) x else F
def owriteO (F : FF) (O : OS) (n : Int) (x : ByteArray) : OS := if fileW O n ∧ F.writeE (O.n n) (O.at_ n) x = 0 then O.move n (x.size) else O
def seekE (O : OS) (n a : Int) : Int := if O.is n ≠ 0 then O.is n else if O.kind n ≠ 1 then 11 else if a < 0 ∨ 40 < a then 1 else 0
def seekO (O : OS) (n a : Int) : OS := if seekE O n a = 0 then { O with at_ := fset O.at_ n a } else O
theorem OS.is_cases (s : OS) (n : Int) : (s.is n = 0 ∧ 0 ≤ n ∧ n < 24 ∧ ¬ s.refs n = 0) ∨ (s.is n = 1 ∧ (n < 0 ∨ 24 ≤ n)) ∨ (s.is n = 2 ∧ 0 ≤ n ∧ n < 24 ∧ s.refs n = 0) := by
  unfold OS.is; split
  · exact .inr (.inl ⟨rfl, by assumption⟩)
  · split
    · exact .inr (.inr ⟨rfl, by omega, by omega, by assumption⟩)
    · exact .inl ⟨rfl, by omega, by omega, by assumption⟩
theorem ints1 (x : Int) : (ints [x])[0 + (0 : Int).toNat * 1]? = some (.int .i64 x) := rfl
theorem OS.clr_down (O : OS) (n : Int) : (downO O n).clr n = O.clr n := by
  unfold OS.clr downO
  simp only [FF.fset_fset]
theorem FF.readV_le {s : FF} (h : s.Sh) (n a m : Int) : (s.readV n a m).size ≤ 40 ∧ (0 ≤ a → a ≤ 40 → a + ((s.readV n a m).size : Int) ≤ 40) := by
  unfold readV
  split
  · rename_i e
    have e1 : s.isE n 1 = 0 ∧ 0 ≤ a ∧ 0 ≤ m := by
      unfold readE at e
      split at e
      · omega
      · split at e
        · omega
        · omega
    obtain ⟨i1, i2, _⟩ := isE_k0 e1.1
    have hd := h.data n i1 i2
    rw [ByteArray.size_extract]
    omega
  · exact ⟨by simp, fun _ h2 => by simpa using h2⟩
/-! ### how many are free -/
namespace OS
def second (s : OS) : Int := (s.lay s.first 2 0 false).first
theorem cntT_le (s : OS) : ∀ k : Nat, 0 ≤ s.cntT k ∧ s.cntT k ≤ k
  | 0 => by simp [cntT]
  | k + 1 => by
    have := cntT_le s k
    unfold cntT
    split <;> omega
theorem freeT_num {s : OS} (h : ∀ n, 0 ≤ n → n < 24 → 0 ≤ s.refs n) (m : Int) (hm : 0 ≤ m) : ∀ k : Nat, k ≤ 24 → ((s.freeT m k).length : Int) = min m (k - s.cntT k)
  | 0, _ => by simp [freeT, cntT]; omega
  | k + 1, hk => by
    have ih := freeT_num h m hm k (by omega)
    have h1 := h (k : Int) (by omega) (by omega)
    have h2 := cntT_le s k
    unfold freeT cntT
    by_cases c : s.refs (k : Int) = 0
    · rw [if_neg (show ¬ 0 < s.refs (k : Int) by omega)]
      by_cases q : ((s.freeT m k).length : Int) < m
      · rw [if_pos ⟨c, q⟩, List.length_append, List.length_singleton]; omega
      · rw [if_neg (fun z => q z.2)]; omega
    · rw [if_neg (fun z => c z.1), if_pos (by omega)]; omega
theorem first_opens {s : OS} (h : ∀ n, 0 ≤ n → n < 24 → 0 ≤ s.refs n) : s.first < 0 ↔ s.opens = 24 := by
  have h1 := freeT_num h 1 (by omega) 24 (Nat.le_refl _)
  have h2 := cntT_le s 24
  have h3 := freeT_1 s 24
  unfold opens
  constructor
  · intro q
    rw [if_neg (show ¬ 0 ≤ s.firstT 24 from by unfold first at q; omega)] at h3
    rw [h3] at h1
    simp only [List.length_nil] at h1
    omega
  · intro q
    refine Decidable.byContradiction fun c => ?_
    rw [if_pos (show 0 ≤ s.firstT 24 from by unfold first at c; omega)] at h3
    rw [h3] at h1
    simp only [List.length_singleton] at h1
    omega
theorem freeT_2 (s : OS) : ∀ k : Nat, (s.freeT 2 k = [] ∧ ∀ j : Int, 0 ≤ j → j < k → s.refs j ≠ 0) ∨ (∃ a : Int, s.freeT 2 k = [a] ∧ 0 ≤ a ∧ a < k ∧ s.refs a = 0 ∧ ∀ j : Int, 0 ≤ j → j < k → j ≠ a → s.refs j ≠ 0) ∨
    (∃ a b : Int, s.freeT 2 k = [a, b] ∧ 0 ≤ a ∧ a < b ∧ b < k ∧ s.refs a = 0 ∧ s.refs b = 0 ∧ ∀ j : Int, 0 ≤ j → j < b → j ≠ a → s.refs j ≠ 0)
  | 0 => .inl ⟨rfl, fun j a b => by omega⟩
  | k + 1 => by
    unfold freeT
    rcases freeT_2 s k with ⟨h1, h2⟩ | ⟨a, h1, h2, h3, h4, h5⟩ | ⟨a, b, h1, h2, h3, h4, h5, h6, h7⟩
    · rw [h1]
      by_cases c : s.refs (k : Int) = 0
      · rw [if_pos ⟨c, by simp⟩]
        exact .inr (.inl ⟨k, rfl, by omega, by omega, c, fun j x y z => h2 j x (by omega)⟩)
      · rw [if_neg (fun q => c q.1)]
        refine .inl ⟨rfl, fun j x y => ?_⟩
        by_cases e : j = (k : Int)
        · subst e; exact c
        · exact h2 j x (by omega)
    · rw [h1]
      by_cases c : s.refs (k : Int) = 0
      · rw [if_pos ⟨c, by simp⟩]
        exact .inr (.inr ⟨a, k, rfl, h2, h3, by omega, h4, c, fun j x y z => h5 j x (by omega) z⟩)
      · rw [if_neg (fun q => c q.1)]
        refine .inr (.inl ⟨a, rfl, h2, by omega, h4, fun j x y z => ?_⟩)
        by_cases e : j = (k : Int)
        · subst e; exact c
        · exact h5 j x (by omega) z
    · rw [h1, if_neg (fun q => by have := q.2; simp at this)]
      exact .inr (.inr ⟨a, b, rfl, h2, h3, by omega, h5, h6, h7⟩)
theorem free2_no {s : OS} (h : ((s.freeT 2 24).length : Int) < 2) : s.first < 0 ∨ s.second < 0 := by
  rcases s.freeT_2 24 with ⟨h1, h2⟩ | ⟨a, h1, h2, h3, h4, h5⟩ | ⟨a, b, h1, _⟩
  · left
    refine Decidable.byContradiction fun c => ?_
    have := first_ok c
    exact h2 _ this.1 this.2.1 this.2.2
  · right
    have e : s.first = a := first_at h2 h3 (fun j x y => h5 j x (by omega) (by omega)) h4
    refine Decidable.byContradiction fun c => ?_
    have q := first_ok (s := s.lay s.first 2 0 false) c
    have q3 := q.2.2
    rw [show (s.lay s.first 2 0 false).refs = fset s.refs s.first 1 from rfl, show (s.lay s.first 2 0 false).first = s.second from rfl] at q3
    by_cases z : s.second = a
    · rw [e, z, fset_eq] at q3; omega
    · rw [e, fset_ne _ _ z] at q3
      exact h5 _ q.1 q.2.1 z q3
  · rw [h1] at h; simp at h
theorem free2_yes {s : OS} (h : ¬ ((s.freeT 2 24).length : Int) < 2) : ¬ s.first < 0 ∧ ¬ s.second < 0 ∧ s.freeT 2 24 = [s.first, s.second] := by
  rcases s.freeT_2 24 with ⟨h1, h2⟩ | ⟨a, h1, h2, h3, h4, h5⟩ | ⟨a, b, h1, h2, h3, h4, h5, h6, h7⟩
  · rw [h1] at h; simp at h
  · rw [h1] at h; simp at h
  · have e : s.first = a := first_at h2 (by omega) (fun j x y => h7 j x (by omega) (by omega)) h5
    have e2 : s.second = b := by
      unfold second
      refine first_at (by omega) (by omega) (fun j x y => ?_) ?_
      · show fset s.refs s.first 1 j ≠ 0
        rw [e]
        by_cases z : j = a
        · rw [z, fset_eq]; omega
        · rw [fset_ne _ _ z]; exact h7 j x y z
      · show fset s.refs s.first 1 b = 0
        rw [e, fset_ne _ _ (by omega)]; exact h6
    exact ⟨by omega, by omega, by rw [h1, e, e2]⟩
theorem second_opens {s : OS} (h : ∀ n, 0 ≤ n → n < 24 → 0 ≤ s.refs n) : (s.first < 0 ∨ s.second < 0) ↔ 22 < s.opens := by
  have h1 := freeT_num h 2 (by omega) 24 (Nat.le_refl _)
  have h2 := cntT_le s 24
  constructor
  · intro q
    refine Decidable.byContradiction fun c => ?_
    have c2 : ¬ ((s.freeT 2 24).length : Int) < 2 := by rw [h1]; unfold opens at c; omega
    have := free2_yes c2
    omega
  · intro q
    refine free2_no ?_
    rw [h1]; unfold opens at q; omega
theorem second_lay (s : OS) (z k n : Int) (w : Bool) : (s.lay z k n w).first = (s.lay z 2 0 false).first := by
  have e : ∀ j, (s.lay z k n w).firstT j = (s.lay z 2 0 false).firstT j := fun j => by
    induction j with
    | zero => rfl
    | succ j ih => unfold firstT; rw [ih]; rfl
  exact e 24
theorem opens_le (s : OS) : 0 ≤ s.opens ∧ s.opens ≤ 24 := by
  have := s.cntT_le 24
  unfold opens; omega
end OS
def roomB (O : OS) (m : Int) : Bool := decide (m < 1) || decide (m ≤ 24 - O.opens)
def opipeE (P : PS) (O : OS) : Int := if O.first < 0 ∨ O.second < 0 then 4 else P.make.2.1
def opipeP (P : PS) (O : OS) : PS := if O.first < 0 ∨ O.second < 0 then P else P.make.2.2
def opipeO (P : PS) (O : OS) : OS := if opipeE P O = 0 then (O.lay O.first 2 P.make.1 false).lay O.second 3 P.make.1 false else O
def opipeV (P : PS) (O : OS) : Int := if opipeE P O = 0 then O.first else 0
def opipeU (P : PS) (O : OS) : Int := if opipeE P O = 0 then O.second else 0
def ofx (O : OS) (n x : Int) : Int := if O.is n = 0 then x else 0
theorem ints2a (x y : Int) : (ints [x, y])[0 + (0 : Int).toNat * 1]? = some (.int .i64 x) := rfl
theorem ints2b (x y : Int) : (ints [x, y])[0 + (1 : Int).toNat * 1]? = some (.int .i64 y) := rfl
theorem XE.ret5 {P : Program} {L : PF} {M : World → Prop} {k : Nat} {fn : Func} {R : Ending → World → Prop} {t1 t2 t3 t4 t5 : Nat} {v1 v2 v3 v4 v5 : Value} (hr : fn.results = #[.tmp t1, .tmp t2, .tmp t3, .tmp t4, .tmp t5]) (h1 : lk L t1 = some v1) (h2 : lk L t2 = some v2) (h3 : lk L t3 = some v3) (h4 : lk L t4 = some v4) (h5 : lk L t5 = some v5)
    (h : ∀ w, M w → R (.returned (.tuple #[v1, v2, v3, v4, v5])) w) : XE (fr k) (bodyPost P fn R) .ret L M := fun a w ha hw =>
  ⟨ha.1, .tuple #[v1, v2, v3, v4, v5], by
    have : (results fn a.tmps).run P w = .ok (.tuple #[a.tmps.getD t1 undef, a.tmps.getD t2 undef, a.tmps.getD t3 undef, a.tmps.getD t4 undef, a.tmps.getD t5 undef]) w := by simp [results, hr]
    rw [this, ha.2.2 _ _ h1, ha.2.2 _ _ h2, ha.2.2 _ _ h3, ha.2.2 _ _ h4, ha.2.2 _ _ h5], h w hw⟩

end Go.X
