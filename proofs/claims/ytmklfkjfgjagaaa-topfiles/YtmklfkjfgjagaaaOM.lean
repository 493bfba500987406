import Derived.Test.YtmklfkjfgjagaaaOP
import Derived.Test.YtmklfkjfgjagaaaNTM
namespace Go.X
open Go
/-! ### open files -/
structure OS where
  kind : Int → Int
  n : Int → Int
  at_ : Int → Int
  refs : Int → Int
  write : Int → Bool
namespace OS
def is (s : OS) (n : Int) : Int := if n < 0 ∨ 24 ≤ n then 1 else if s.refs n = 0 then 2 else 0
def firstT (s : OS) : Nat → Int
  | 0 => -1
  | k + 1 => if 0 ≤ firstT s k then firstT s k else if s.refs (k : Int) = 0 then (k : Int) else -1
def first (s : OS) : Int := firstT s 24
def freeT (s : OS) (m : Int) : Nat → List Int
  | 0 => []
  | k + 1 => if s.refs (k : Int) = 0 ∧ ((freeT s m k).length : Int) < m then freeT s m k ++ [(k : Int)] else freeT s m k
def lay (s : OS) (z k n : Int) (w : Bool) : OS := ⟨fset s.kind z k, fset s.n z n, fset s.at_ z 0, fset s.refs z 1, fset s.write z w⟩
def clr (s : OS) (z : Int) : OS := ⟨fset s.kind z 0, fset s.n z 0, fset s.at_ z 0, fset s.refs z 0, fset s.write z false⟩
def move (s : OS) (z d : Int) : OS := { s with at_ := fset s.at_ z (s.at_ z + d) }
def void : OS := ⟨fun _ => 0, fun _ => 0, fun _ => 0, fun _ => 0, fun _ => false⟩
def cntT (s : OS) : Nat → Int
  | 0 => 0
  | k + 1 => cntT s k + (if 0 < s.refs (k : Int) then 1 else 0)
def opens (s : OS) : Int := cntT s 24
structure Inv (s : OS) (J : Int) : Prop where
  refs : ∀ n, 0 ≤ n → n < 24 → 0 ≤ s.refs n ∧ s.refs n ≤ J
  at_ : ∀ n, 0 ≤ n → n < 24 → 0 ≤ s.at_ n ∧ s.at_ n ≤ 40
  kind : ∀ n, 0 ≤ n → n < 24 → s.refs n ≠ 0 → s.kind n = 1 ∨ s.kind n = 2 ∨ s.kind n = 3
  write : ∀ n, 0 ≤ n → n < 24 → s.kind n ≠ 1 → s.write n = false
theorem is_0 {s : OS} {n : Int} (h : s.is n = 0) : 0 ≤ n ∧ n < 24 ∧ s.refs n ≠ 0 := by
  unfold is at h
  split at h
  · omega
  · split at h
    · omega
    · exact ⟨by omega, by omega, by assumption⟩
theorem is_nn (s : OS) (n : Int) : 0 ≤ s.is n := by unfold is; split <;> (try split) <;> omega
theorem firstT_spec (s : OS) : ∀ k : Nat, (s.firstT k = -1 ∧ ∀ j : Int, 0 ≤ j → j < k → s.refs j ≠ 0) ∨ (0 ≤ s.firstT k ∧ s.firstT k < k ∧ s.refs (s.firstT k) = 0 ∧ ∀ j : Int, 0 ≤ j → j < s.firstT k → s.refs j ≠ 0)
  | 0 => .inl ⟨rfl, fun j a b => by omega⟩
  | k + 1 => by
    unfold firstT
    rcases firstT_spec s k with ⟨h1, h2⟩ | ⟨h1, h2, h3, h4⟩
    · rw [if_neg (by omega)]
      by_cases c : s.refs (k : Int) = 0
      · rw [if_pos c]; exact .inr ⟨by omega, by omega, c, fun j a b => h2 j a (by omega)⟩
      · rw [if_neg c]
        refine .inl ⟨rfl, fun j a b => ?_⟩
        by_cases e : j = (k : Int)
        · subst e; exact c
        · exact h2 j a (by omega)
    · rw [if_pos h1]; exact .inr ⟨h1, by omega, h3, h4⟩
theorem first_at {s : OS} {i : Int} (h1 : 0 ≤ i) (h2 : i < 24) (ho : ∀ j, 0 ≤ j → j < i → s.refs j ≠ 0) (hz : s.refs i = 0) : s.first = i := by
  unfold first
  rcases s.firstT_spec 24 with ⟨h3, h4⟩ | ⟨h3, h4, h5, h6⟩
  · exact absurd hz (h4 i h1 h2)
  · rcases Int.lt_trichotomy (s.firstT 24) i with c | c | c
    · exact absurd h5 (ho _ h3 c)
    · exact c
    · exact absurd hz (h6 i h1 c)
theorem first_ok {s : OS} (h : ¬ s.first < 0) : 0 ≤ s.first ∧ s.first < 24 ∧ s.refs s.first = 0 := by
  unfold first at h ⊢
  rcases s.firstT_spec 24 with ⟨h3, h4⟩ | ⟨h3, h4, h5, h6⟩
  · omega
  · exact ⟨h3, h4, h5⟩
theorem freeT_1 (s : OS) : ∀ k, s.freeT 1 k = if 0 ≤ s.firstT k then [s.firstT k] else []
  | 0 => rfl
  | k + 1 => by
    unfold freeT firstT
    rw [freeT_1 s k]
    by_cases c : 0 ≤ s.firstT k
    · simp only [c, if_true, List.length_singleton]
      rw [if_neg (by omega)]
    · simp only [c, if_false, List.length_nil]
      by_cases q : s.refs (k : Int) = 0
      · rw [if_pos ⟨q, by omega⟩, if_pos q, if_pos (by omega)]; rfl
      · rw [if_neg (fun h => q h.1), if_neg q, if_neg (by omega)]
theorem freeT_len (s : OS) (m : Int) : ∀ k, (s.freeT m k).length ≤ k
  | 0 => Nat.le_refl _
  | k + 1 => by
    have := freeT_len s m k
    unfold freeT; split
    · rw [List.length_append, List.length_singleton]; omega
    · omega
theorem freeT_next (s : OS) (m : Int) {i : Int} (h : 0 ≤ i) : s.freeT m (i + 1).toNat = if s.refs i = 0 ∧ ((s.freeT m i.toNat).length : Int) < m then s.freeT m i.toNat ++ [i] else s.freeT m i.toNat := by
  rw [show (i + 1).toNat = i.toNat + 1 by omega]
  conv => lhs; unfold freeT
  rw [show ((i.toNat : Nat) : Int) = i by omega]
theorem cntT_next (s : OS) {i : Int} (h : 0 ≤ i) : s.cntT (i + 1).toNat = s.cntT i.toNat + (if 0 < s.refs i then 1 else 0) := by
  rw [show (i + 1).toNat = i.toNat + 1 by omega]
  conv => lhs; unfold cntT
  rw [show ((i.toNat : Nat) : Int) = i by omega]
theorem free_no {s : OS} (h : ((s.freeT 1 24).length : Int) < 1) : s.first < 0 := by
  rw [freeT_1] at h
  unfold first
  split at h
  · simp at h
  · omega
theorem free_yes {s : OS} (h : ¬ ((s.freeT 1 24).length : Int) < 1) : ¬ s.first < 0 ∧ s.freeT 1 24 = [s.first] := by
  rw [freeT_1] at h ⊢
  unfold first
  split at h
  · rename_i c; rw [if_pos c]; exact ⟨by omega, rfl⟩
  · simp at h
end OS
/-! ### what is answered -/
def onodeE (F : FF) (O : OS) (n : Int) : Int := if F.isE n 1 ≠ 0 then F.isE n 1 else if O.first < 0 then 4 else 0
def onodeV (F : FF) (O : OS) (n : Int) : Int := if onodeE F O n = 0 then O.first else 0
def onodeF (F : FF) (O : OS) (n : Int) : FF := if onodeE F O n = 0 then F.hold n else F
def onodeO (F : FF) (O : OS) (n : Int) (w : Bool) : OS := if onodeE F O n = 0 then O.lay O.first 1 n w else O
def shareO (O : OS) (n : Int) : OS := if O.is n = 0 then { O with refs := fset O.refs n (O.refs n + 1) } else O
def downO (O : OS) (n : Int) : OS := { O with refs := fset O.refs n (O.refs n - 1) }
def lastC (O : OS) (n : Int) : Prop := O.is n = 0 ∧ ¬ 0 < O.refs n - 1
instance (O : OS) (n : Int) : Decidable (lastC O n) := by unfold lastC; infer_instance
def closeE (F : FF) (P : PS) (O : OS) (n : Int) : Int := if O.is n ≠ 0 then O.is n else if 0 < O.refs n - 1 then 0 else if O.kind n = 1 then F.letE (O.n n) else (P.turn (O.n n) (decide (O.kind n = 3)) (-1)).1
def closeF (F : FF) (O : OS) (n : Int) : FF := if lastC O n ∧ O.kind n = 1 then F.letF (O.n n) else F
def closeP (P : PS) (O : OS) (n : Int) : PS := if lastC O n ∧ ¬ O.kind n = 1 then (P.turn (O.n n) (decide (O.kind n = 3)) (-1)).2 else P
def closeO (O : OS) (n : Int) : OS := if O.is n ≠ 0 then O else if 0 < O.refs n - 1 then downO O n else O.clr n
def oreadE (F : FF) (P : PS) (O : OS) (n m : Int) : Int := if O.is n ≠ 0 then O.is n else if O.kind n = 3 then 8 else if O.kind n = 2 then (P.read (O.n n) m).2.1 else F.readE (O.n n) (O.at_ n) m
def oreadV (F : FF) (P : PS) (O : OS) (n m : Int) : ByteArray := if O.is n ≠ 0 then ⟨#[]⟩ else if O.kind n = 3 then ⟨#[]⟩ else if O.kind n = 2 then (P.read (O.n n) m).1 else F.readV (O.n n) (O.at_ n) m
def oreadP (P : PS) (O : OS) (n m : Int) : PS := if O.is n = 0 ∧ O.kind n = 2 then (P.read (O.n n) m).2.2 else P
def oreadO (F : FF) (O : OS) (n m : Int) : OS := if O.is n = 0 ∧ ¬ O.kind n = 3 ∧ ¬ O.kind n = 2 then O.move n ((F.readV (O.n n) (O.at_ n) m).size) else O
def owriteE (F : FF) (P : PS) (O : OS) (n : Int) (x : ByteArray) : Int := if O.is n ≠ 0 then O.is n else if O.kind n = 3 then (P.write (O.n n) x).2.1 else if O.kind n = 2 ∨ O.write n = false then 8 else F.writeE (O.n n) (O.at_ n) x
def fileW (O : OS) (n : Int) : Prop := O.is n = 0 ∧ ¬ O.kind n = 3 ∧ ¬ (O.kind n = 2 ∨ O.write n = false)
instance (O : OS) (n : Int) : Decidable (fileW O n) := by unfold fileW; infer_instance
def owriteV (F : FF) (P : PS) (O : OS) (n : Int) (x : ByteArray) : Int := if O.is n = 0 ∧ O.kind n = 3 then (P.write (O.n n) x).1 else if fileW O n ∧ F.writeE (O.n n) (O.at_ n) x = 0 then (x.size : Int) else 0
def owriteP (P : PS) (O : OS) (n : Int) (x : ByteArray) : PS := if O.is n = 0 ∧ O.kind n = 3 then (P.write (O.n n) x).2.2 else P
def owriteF (F : FF) (O : OS) (n : Int) (x : ByteArray) : FF := if fileW O n then F.write (O.n n) (O.at_ n) x else F
def owriteO (F : FF) (O : OS) (n : Int) (x : ByteArray) : OS := if fileW O n ∧ F.writeE (O.n n) (O.at_ n) x = 0 then O.move n (x.size) else O
def seekE (O : OS) (n a : Int) : Int := if O.is n ≠ 0 then O.is n else if O.kind n ≠ 1 then 11 else if a < 0 ∨ 40 < a then 1 else 0
def seekO (O : OS) (n a : Int) : OS := if seekE O n a = 0 then { O with at_ := fset O.at_ n a } else O
theorem OS.is_cases (s : OS) (n : Int) : (s.is n = 0 ∧ 0 ≤ n ∧ n < 24 ∧ ¬ s.refs n = 0) ∨ (s.is n = 1 ∧ (n < 0 ∨ 24 ≤ n)) ∨ (s.is n = 2 ∧ 0 ≤ n ∧ n < 24 ∧ s.refs n = 0) := by
  unfold OS.is; split
  · exact .inr (.inl ⟨rfl, by assumption⟩)
  · split
    · exact .inr (.inr ⟨rfl, by omega, by omega, by assumption⟩)
    · exact .inl ⟨rfl, by omega, by omega, by assumption⟩
theorem ints1 (x : Int) : (ints [x])[0 + (0 : Int).toNat * 1]? = some (.int .i64 x) := rfl
theorem OS.clr_down (O : OS) (n : Int) : (downO O n).clr n = O.clr n := by
  unfold OS.clr downO
  simp only [FF.fset_fset]
theorem FF.readV_le {s : FF} (h : s.Sh) (n a m : Int) : (s.readV n a m).size ≤ 40 ∧ (0 ≤ a → a ≤ 40 → a + ((s.readV n a m).size : Int) ≤ 40) := by
  unfold readV
  split
  · rename_i e
    have e1 : s.isE n 1 = 0 ∧ 0 ≤ a ∧ 0 ≤ m := by
      unfold readE at e
      split at e
      · omega
      · split at e
        · omega
        · omega
    obtain ⟨i1, i2, _⟩ := isE_k0 e1.1
    have hd := h.data n i1 i2
    rw [ByteArray.size_extract]
    omega
  · exact ⟨by simp, fun _ h2 => by simpa using h2⟩

end Go.X
