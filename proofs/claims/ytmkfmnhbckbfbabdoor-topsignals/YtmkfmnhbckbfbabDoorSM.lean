import Derived.Test.YtmkfmnhbckbfbabDoorXLay
import Derived.Test.YtmkfmnhbckbfbabDoorXBits
namespace Go.X
open Go

/-! ### signals: the state of both programs -/
def packN (f : Int → Bool) : Nat → Nat
  | 0 => 0
  | n + 1 => packN f n ||| (if f n then 2 ^ n else 0)
theorem testBit_packN (f : Int → Bool) (n j : Nat) : (packN f n).testBit j = (decide (j < n) && f j) := by
  induction n with
  | zero => simp [packN]
  | succ n ih =>
    simp only [packN, Nat.testBit_or, ih]
    by_cases h : j = n
    · subst h
      cases hf : f (j : Int) <;> simp
    · have : (if f (n : Int) = true then 2 ^ n else 0).testBit j = false := by
        split
        · rw [Nat.testBit_two_pow]; simp; omega
        · simp
      rw [this]
      by_cases h2 : j < n
      · simp [h2]; omega
      · have : ¬ j < n + 1 := by omega
        simp [h2, this]
def pack (f : Int → Bool) : Nat := packN f 9
theorem testBit_pack (f : Int → Bool) (j : Nat) : (pack f).testBit j = (decide (j < 9) && f j) := testBit_packN f 9 j
theorem pack_lt (f : Int → Bool) : pack f < 2 ^ IntKind.u16.bits := by
  refine Nat.lt_of_lt_of_le (m := 2 ^ 9) ?_ (by decide)
  apply Nat.lt_pow_two_of_testBit
  intro i hi
  rw [testBit_pack]
  have : ¬ i < 9 := by omega
  simp [this]
theorem two_lt {n : Int} (h : 1 ≤ n ∧ n ≤ 8) : 2 ^ n.toNat < 2 ^ IntKind.u16.bits := Nat.pow_lt_pow_right (by omega) (by show n.toNat < 16; omega)
theorem shl_u16 {n : Int} (h : 1 ≤ n ∧ n ≤ 8) : IntKind.u16.wrap (1 * 2 ^ (min n.toNat IntKind.u16.bits)) = ((2 ^ n.toNat : Nat) : Int) := by
  have : n = 1 ∨ n = 2 ∨ n = 3 ∨ n = 4 ∨ n = 5 ∨ n = 6 ∨ n = 7 ∨ n = 8 := by omega
  rcases this with rfl | rfl | rfl | rfl | rfl | rfl | rfl | rfl <;> decide
theorem pack_set (f : Int → Bool) {n : Int} (h : 1 ≤ n ∧ n ≤ 8) : pack f ||| 2 ^ n.toNat = pack (fset f n true) := by
  apply Nat.eq_of_testBit_eq
  intro j
  rw [Nat.testBit_or, testBit_pack, testBit_pack, Nat.testBit_two_pow]
  by_cases hj : n.toNat = j
  · have h1 : (j : Int) = n := by omega
    have h2 : j < 9 := by omega
    simp [fset, h1, h2, hj]
  · have h1 : ¬ (j : Int) = n := by omega
    simp [fset, h1, hj]
theorem pack_clear (f : Int → Bool) {n : Int} (h : 1 ≤ n ∧ n ≤ 8) : nandn (pack f) (2 ^ n.toNat) = pack (fset f n false) := by
  apply Nat.eq_of_testBit_eq
  intro j
  rw [testBit_nandn, testBit_pack, testBit_pack, Nat.testBit_two_pow]
  by_cases hj : n.toNat = j
  · have h1 : (j : Int) = n := by omega
    simp [fset, h1, hj]
  · have h1 : ¬ (j : Int) = n := by omega
    simp [fset, h1, hj]
structure BS where
  wait : Int → Bool
  held : Int → Bool
  how : Int → Int
def BS.init : BS := ⟨fun _ => false, fun _ => false, fun _ => 0⟩
def BS.does (s : BS) (n : Int) : Int := if n = 3 ∧ s.how n = 0 then 1 else s.how n
def BS.num (n : Int) : Bool := decide (1 ≤ n ∧ n ≤ 8)
def BS.send (s : BS) (n : Int) : Int × BS := if BS.num n then (0, if s.does n = 1 then s else { s with wait := fset s.wait n true }) else (1, s)
def BS.hold (s : BS) (n : Int) (on : Bool) : Int × BS := if BS.num n then (if n = 1 then (8, s) else (0, { s with held := fset s.held n on })) else (1, s)
def BS.set (s : BS) (n h : Int) : Int × BS :=
  if BS.num n = true ∧ 0 ≤ h ∧ h ≤ 2 then (if n = 1 then (8, s) else
    (0, if ({ s with how := fset s.how n h } : BS).does n = 1 then { wait := fset s.wait n false, held := s.held, how := fset s.how n h } else { s with how := fset s.how n h })) else (1, s)
def BS.first (s : BS) (h : Int) : Int := match firstN (fun k => s.wait k && (!s.held k && decide (s.how k = h))) 9 with
  | some k => k
  | none => 0
def BS.take (s : BS) : Int × BS := (s.first 2, { s with wait := fset s.wait (s.first 2) false })
def BS.child (s : BS) : BS := { s with wait := fun _ => false }
def tab32 (i : Nat) : Value := .int .u8 ((([0, 1, 28, 2, 29, 14, 24, 3, 30, 22, 20, 15, 25, 17, 4, 8, 31, 27, 13, 23, 21, 19, 16, 7, 26, 12, 18, 6, 11, 5, 10, 9] : List Int)[i]?).getD 0)
def encB (s : BS) (i : Nat) : Value :=
  if i = 0 then .int .u16 (((pack s.wait) : Nat) : Int) else
  if i = 1 then .int .u16 (((pack s.held) : Nat) : Int) else
  if 2 ≤ i ∧ (i - 2) % 1 = 0 ∧ (i - 2) / 1 < 9 then .int .i64 (s.how (((i - 2) / 1 : Nat) : Int)) else
  undef
theorem encB.ld_wait (s : BS) : (0 + 0) < 11 ∧ encB s (0 + 0) = .int .u16 (((pack s.wait) : Nat) : Int) := by
  refine ⟨by omega, ?_⟩
  unfold encB
  rw [if_pos (by omega)]
theorem encB.ld_held (s : BS) : (0 + 1) < 11 ∧ encB s (0 + 1) = .int .u16 (((pack s.held) : Nat) : Int) := by
  refine ⟨by omega, ?_⟩
  unfold encB
  rw [if_neg (by omega)]
  rw [if_pos (by omega)]
theorem encB.ld_how_I (s : BS) (z0 : Int) (q0 : 0 ≤ z0 ∧ z0 < 9) : ((0 + 2) + z0.toNat * 1) < 11 ∧ encB s ((0 + 2) + z0.toNat * 1) = .int .i64 (s.how z0) := by
  refine ⟨by omega, ?_⟩
  unfold encB
  rw [if_neg (by omega)]
  rw [if_neg (by omega)]
  rw [if_pos (by omega)]
  rw [show (((((0 + 2) + z0.toNat * 1) - 2) / 1 : Nat) : Int) = z0 from by omega]
theorem encB.st_how_I (s : BS) (z0 : Int) (q0 : 0 ≤ z0 ∧ z0 < 9) (v : Int) : ((0 + 2) + z0.toNat * 1) < 11 ∧ upd (encB s) ((0 + 2) + z0.toNat * 1) (.int .i64 (v)) = encB ({ s with how := fset s.how z0 v }) := by
  refine ⟨by omega, ?_⟩
  funext j
  unfold upd
  by_cases hj : j = ((0 + 2) + z0.toNat * 1)
  · rw [if_pos hj, hj, (encB.ld_how_I ({ s with how := fset s.how z0 v }) z0 q0).2]
    simp [fset, fset2]
  · rw [if_neg hj]
    unfold encB
    refine ite_both (fun c0 => ?_) (fun c0 => ?_)
    · first | rfl | simp [fset, fset2]
    refine ite_both (fun c1 => ?_) (fun c1 => ?_)
    · first | rfl | simp [fset, fset2]
    refine ite_both (fun c2 => ?_) (fun c2 => ?_)
    · have hne : ¬ ((((j - 2) / 1 : Nat) : Int) = z0) := by omega
      simp only [fset, fset2, hne, if_false, and_true, true_and]
    rfl

def encM (s : BS) (i : Nat) : Value :=
  if i % 1 = 0 ∧ i / 1 < 9 then .bool (s.wait ((i / 1 : Nat) : Int)) else
  if 9 ≤ i ∧ (i - 9) % 1 = 0 ∧ (i - 9) / 1 < 9 then .bool (s.held (((i - 9) / 1 : Nat) : Int)) else
  if 18 ≤ i ∧ (i - 18) % 1 = 0 ∧ (i - 18) / 1 < 9 then .int .i64 (s.how (((i - 18) / 1 : Nat) : Int)) else
  undef
theorem encM.ld_Wait_I (s : BS) (z0 : Int) (q0 : 0 ≤ z0 ∧ z0 < 9) : ((0 + 0) + z0.toNat * 1) < 27 ∧ encM s ((0 + 0) + z0.toNat * 1) = .bool (s.wait z0) := by
  refine ⟨by omega, ?_⟩
  unfold encM
  rw [if_pos (by omega)]
  rw [show ((((0 + 0) + z0.toNat * 1) / 1 : Nat) : Int) = z0 from by omega]
theorem encM.st_Wait_I (s : BS) (z0 : Int) (q0 : 0 ≤ z0 ∧ z0 < 9) (v : Bool) : ((0 + 0) + z0.toNat * 1) < 27 ∧ upd (encM s) ((0 + 0) + z0.toNat * 1) (.bool (v)) = encM ({ s with wait := fset s.wait z0 v }) := by
  refine ⟨by omega, ?_⟩
  funext j
  unfold upd
  by_cases hj : j = ((0 + 0) + z0.toNat * 1)
  · rw [if_pos hj, hj, (encM.ld_Wait_I ({ s with wait := fset s.wait z0 v }) z0 q0).2]
    simp [fset, fset2]
  · rw [if_neg hj]
    unfold encM
    refine ite_both (fun c0 => ?_) (fun c0 => ?_)
    · have hne : ¬ (((j / 1 : Nat) : Int) = z0) := by omega
      simp only [fset, fset2, hne, if_false, and_true, true_and]
    refine ite_both (fun c1 => ?_) (fun c1 => ?_)
    · first | rfl | simp [fset, fset2]
    refine ite_both (fun c2 => ?_) (fun c2 => ?_)
    · first | rfl | simp [fset, fset2]
    rfl
theorem encM.ld_Held_I (s : BS) (z0 : Int) (q0 : 0 ≤ z0 ∧ z0 < 9) : ((0 + 9) + z0.toNat * 1) < 27 ∧ encM s ((0 + 9) + z0.toNat * 1) = .bool (s.held z0) := by
  refine ⟨by omega, ?_⟩
  unfold encM
  rw [if_neg (by omega)]
  rw [if_pos (by omega)]
  rw [show (((((0 + 9) + z0.toNat * 1) - 9) / 1 : Nat) : Int) = z0 from by omega]
theorem encM.st_Held_I (s : BS) (z0 : Int) (q0 : 0 ≤ z0 ∧ z0 < 9) (v : Bool) : ((0 + 9) + z0.toNat * 1) < 27 ∧ upd (encM s) ((0 + 9) + z0.toNat * 1) (.bool (v)) = encM ({ s with held := fset s.held z0 v }) := by
  refine ⟨by omega, ?_⟩
  funext j
  unfold upd
  by_cases hj : j = ((0 + 9) + z0.toNat * 1)
  · rw [if_pos hj, hj, (encM.ld_Held_I ({ s with held := fset s.held z0 v }) z0 q0).2]
    simp [fset, fset2]
  · rw [if_neg hj]
    unfold encM
    refine ite_both (fun c0 => ?_) (fun c0 => ?_)
    · first | rfl | simp [fset, fset2]
    refine ite_both (fun c1 => ?_) (fun c1 => ?_)
    · have hne : ¬ ((((j - 9) / 1 : Nat) : Int) = z0) := by omega
      simp only [fset, fset2, hne, if_false, and_true, true_and]
    refine ite_both (fun c2 => ?_) (fun c2 => ?_)
    · first | rfl | simp [fset, fset2]
    rfl
theorem encM.ld_How_I (s : BS) (z0 : Int) (q0 : 0 ≤ z0 ∧ z0 < 9) : ((0 + 18) + z0.toNat * 1) < 27 ∧ encM s ((0 + 18) + z0.toNat * 1) = .int .i64 (s.how z0) := by
  refine ⟨by omega, ?_⟩
  unfold encM
  rw [if_neg (by omega)]
  rw [if_neg (by omega)]
  rw [if_pos (by omega)]
  rw [show (((((0 + 18) + z0.toNat * 1) - 18) / 1 : Nat) : Int) = z0 from by omega]
theorem encM.st_How_I (s : BS) (z0 : Int) (q0 : 0 ≤ z0 ∧ z0 < 9) (v : Int) : ((0 + 18) + z0.toNat * 1) < 27 ∧ upd (encM s) ((0 + 18) + z0.toNat * 1) (.int .i64 (v)) = encM ({ s with how := fset s.how z0 v }) := by
  refine ⟨by omega, ?_⟩
  funext j
  unfold upd
  by_cases hj : j = ((0 + 18) + z0.toNat * 1)
  · rw [if_pos hj, hj, (encM.ld_How_I ({ s with how := fset s.how z0 v }) z0 q0).2]
    simp [fset, fset2]
  · rw [if_neg hj]
    unfold encM
    refine ite_both (fun c0 => ?_) (fun c0 => ?_)
    · first | rfl | simp [fset, fset2]
    refine ite_both (fun c1 => ?_) (fun c1 => ?_)
    · first | rfl | simp [fset, fset2]
    refine ite_both (fun c2 => ?_) (fun c2 => ?_)
    · have hne : ¬ ((((j - 18) / 1 : Nat) : Int) = z0) := by omega
      simp only [fset, fset2, hne, if_false, and_true, true_and]
    rfl

theorem BS.num_iff (n : Int) : BS.num n = true ↔ 1 ≤ n ∧ n ≤ 8 := by simp [BS.num]
theorem BS.first_some {s : BS} {h k : Int} (h0 : 0 ≤ k ∧ k < 9) (hw : s.wait k = true) (hh : s.held k = false) (he : s.how k = h) (hn : ∀ j : Int, 0 ≤ j → j < k → ¬ (s.wait j = true ∧ s.held j = false ∧ s.how j = h)) : s.first h = k := by
  unfold BS.first
  rw [firstN_some (k := k) h0.1 (by omega) (by simp [hw, hh, he]) (fun j h1 h2 => by
    have := hn j h1 h2
    simp only [not_and] at this
    cases q1 : s.wait j <;> cases q2 : s.held j <;> simp
    exact this q1 q2)]
  show ((k.toNat : Nat) : Int) = k
  omega
theorem BS.first_none {s : BS} {h : Int} (hn : ∀ j : Int, 0 ≤ j → j < 9 → ¬ (s.wait j = true ∧ s.held j = false ∧ s.how j = h)) : s.first h = 0 := by
  unfold BS.first
  rw [firstN_none (fun j h1 h2 => by
    have := hn j h1 (by omega)
    simp only [not_and] at this
    cases q1 : s.wait j <;> cases q2 : s.held j <;> simp
    exact this q1 q2)]
theorem BS.first_cases (s : BS) (h : Int) (h0 : s.wait 0 = false) : s.first h = 0 ∨ (1 ≤ s.first h ∧ s.first h ≤ 8) := by
  unfold BS.first
  cases hf : firstN (fun k => s.wait k && (!s.held k && decide (s.how k = h))) 9 with
  | none => exact .inl rfl
  | some k =>
    right
    unfold firstN at hf
    have h1 := List.find?_some hf
    have h2 := List.mem_of_find?_eq_some hf
    simp at h2
    have : k ≠ 0 := by
      rintro rfl
      simp [h0] at h1
    show 1 ≤ (k : Int) ∧ (k : Int) ≤ 8
    omega
theorem tz_ok {t : Nat} (ht : t < 16) : IntKind.u32.wrap (((2 ^ t : Nat) : Int)) = ((2 ^ t : Nat) : Int) ∧
    IntKind.u32.wrap (((2 ^ t : Nat) : Int) * 125613361) = ((2 ^ t * 125613361 % 4294967296 : Nat) : Int) ∧
    (((2 ^ t * 125613361 % 4294967296 : Nat) : Int)).fdiv (2 ^ (min (27 : Int).toNat IntKind.u32.bits)) = ((2 ^ t * 125613361 % 4294967296 / 134217728 : Nat) : Int) ∧
    (2 ^ t * 125613361 % 4294967296 / 134217728) < 32 ∧ IntKind.i64.wrap (t : Int) = t := by
  have : t = 0 ∨ t = 1 ∨ t = 2 ∨ t = 3 ∨ t = 4 ∨ t = 5 ∨ t = 6 ∨ t = 7 ∨ t = 8 ∨ t = 9 ∨ t = 10 ∨ t = 11 ∨ t = 12 ∨ t = 13 ∨ t = 14 ∨ t = 15 := by omega
  rcases this with rfl | rfl | rfl | rfl | rfl | rfl | rfl | rfl | rfl | rfl | rfl | rfl | rfl | rfl | rfl | rfl <;> decide
theorem tz_tab {t : Nat} (ht : t < 16) : 0 + (((2 ^ t * 125613361 % 4294967296 / 134217728 : Nat) : Int)).toNat * 1 < 32 ∧ tab32 (0 + (((2 ^ t * 125613361 % 4294967296 / 134217728 : Nat) : Int)).toNat * 1) = .int .u8 (t : Int) := by
  have : t = 0 ∨ t = 1 ∨ t = 2 ∨ t = 3 ∨ t = 4 ∨ t = 5 ∨ t = 6 ∨ t = 7 ∨ t = 8 ∨ t = 9 ∨ t = 10 ∨ t = 11 ∨ t = 12 ∨ t = 13 ∨ t = 14 ∨ t = 15 := by omega
  rcases this with rfl | rfl | rfl | rfl | rfl | rfl | rfl | rfl | rfl | rfl | rfl | rfl | rfl | rfl | rfl | rfl <;> exact ⟨by decide, rfl⟩
theorem neg_u16 {x : Nat} (h : 0 < x ∧ x < 65536) : IntKind.u16.wrap (0 - (x : Int)) = ((2 ^ 16 - x : Nat) : Int) := by
  have : ((0 - (x : Int)) % (2 ^ 16 : Int)) = ((2 ^ 16 - x : Nat) : Int) := by
    have h2 : (2 : Int) ^ 16 = 65536 := by decide
    have h3 : (2 : Nat) ^ 16 = 65536 := by decide
    rw [h2, h3]; omega
  simpa [IntKind.wrap, IntKind.signed, IntKind.bits] using this
theorem sub_u16 {x : Nat} (h : 0 < x ∧ x < 65536) : IntKind.u16.wrap ((x : Int) - 1) = ((x - 1 : Nat) : Int) := by
  rw [show (x : Int) - 1 = ((x - 1 : Nat) : Int) from by omega]
  exact wrap_nat rfl (Nat.lt_of_le_of_lt (Nat.sub_le _ _) h.2)
theorem shr_u16 {n : Int} (h : 1 ≤ n ∧ n ≤ 8) (x : Nat) : (x : Int).fdiv (2 ^ (min n.toNat IntKind.u16.bits)) = ((x >>> n.toNat : Nat) : Int) := by
  have : min n.toNat IntKind.u16.bits = n.toNat := by show min n.toNat 16 = _; omega
  rw [this, Nat.shiftRight_eq_div_pow, Int.fdiv_eq_ediv_of_nonneg _ (by exact Int.le_of_lt (Int.pow_pos (by omega)))]
  simp
theorem bit_of_shr (x : Nat) (k : Nat) : (((x >>> k) &&& 1 : Nat) : Int) = if x.testBit k then 1 else 0 := by
  rw [Nat.testBit_eq_decide_div_mod_eq, Nat.shiftRight_eq_div_pow, Nat.and_one_is_mod]
  by_cases h : x / 2 ^ k % 2 = 1
  · simp [h]
  · have : x / 2 ^ k % 2 = 0 := by omega
    simp [this]
theorem encB_wait (s : BS) {x : Nat} {w' : Int → Bool} (h : x = pack w') : (0 + 0) < 11 ∧ upd (encB s) (0 + 0) (.int .u16 (x : Int)) = encB { s with wait := w' } := by
  subst h
  refine ⟨by omega, ?_⟩
  funext j
  unfold upd encB
  by_cases hj : j = 0
  · subst hj; simp
  · have : ¬ j = 0 + 0 := by omega
    simp [hj]
theorem encB_held (s : BS) {x : Nat} {w' : Int → Bool} (h : x = pack w') : (0 + 1) < 11 ∧ upd (encB s) (0 + 1) (.int .u16 (x : Int)) = encB { s with held := w' } := by
  subst h
  refine ⟨by omega, ?_⟩
  funext j
  unfold upd encB
  by_cases hj : j = 1
  · subst hj; simp
  · have : ¬ j = 0 + 1 := by omega
    simp [hj]
theorem encB_load (s : BS) : 0 + 11 ≤ 11 ∧ aggOf (encB s) 0 11 = .agg #[.int .u16 ((pack s.wait : Nat) : Int), .int .u16 ((pack s.held : Nat) : Int), .int .i64 (s.how 0), .int .i64 (s.how 1), .int .i64 (s.how 2), .int .i64 (s.how 3), .int .i64 (s.how 4), .int .i64 (s.how 5), .int .i64 (s.how 6), .int .i64 (s.how 7), .int .i64 (s.how 8)] := ⟨by omega, rfl⟩
theorem encB_put {C : Nat → Value} (hC : ∀ i, 11 ≤ i → C i = undef) (s : BS) : 0 + 11 ≤ 11 ∧ updL C 0 [.int .u16 ((pack s.wait : Nat) : Int), .int .u16 ((pack s.held : Nat) : Int), .int .i64 (s.how 0), .int .i64 (s.how 1), .int .i64 (s.how 2), .int .i64 (s.how 3), .int .i64 (s.how 4), .int .i64 (s.how 5), .int .i64 (s.how 6), .int .i64 (s.how 7), .int .i64 (s.how 8)] = encB s := by
  refine ⟨by omega, ?_⟩
  funext i
  match i with
  | 0 => rfl
  | 1 => rfl
  | 2 => rfl
  | 3 => rfl
  | 4 => rfl
  | 5 => rfl
  | 6 => rfl
  | 7 => rfl
  | 8 => rfl
  | 9 => rfl
  | 10 => rfl
  | k + 11 =>
    have e2 : encB s (k + 11) = undef := by
      unfold encB
      repeat rw [if_neg (by omega)]
    rw [e2]
    have := hC (k + 11) (by omega)
    simp [updL, upd, this]
theorem encM_clear (s : BS) : 0 + 0 + 9 ≤ 27 ∧ updL (encM s) (0 + 0) [.bool false, .bool false, .bool false, .bool false, .bool false, .bool false, .bool false, .bool false, .bool false] = encM s.child := by
  refine ⟨by omega, ?_⟩
  funext i
  match i with
  | 0 => rfl
  | 1 => rfl
  | 2 => rfl
  | 3 => rfl
  | 4 => rfl
  | 5 => rfl
  | 6 => rfl
  | 7 => rfl
  | 8 => rfl
  | k + 9 =>
    have e1 : updL (encM s) (0 + 0) [.bool false, .bool false, .bool false, .bool false, .bool false, .bool false, .bool false, .bool false, .bool false] (k + 9) = encM s (k + 9) := by
      simp [updL, upd]
    rw [e1]
    unfold encM
    refine ite_both (fun c => absurd c (by omega)) (fun _ => rfl)
theorem boxB_init : ∀ i, i < 11 → cellsOf (Value.agg #[.int .u16 0, .int .u16 0, .int .i64 0, .int .i64 0, .int .i64 0, .int .i64 0, .int .i64 0, .int .i64 0, .int .i64 0, .int .i64 0, .int .i64 0]).cells i = encB BS.init i := fun i hi => match i, hi with
  | 0, _ => rfl
  | 1, _ => rfl
  | 2, _ => rfl
  | 3, _ => rfl
  | 4, _ => rfl
  | 5, _ => rfl
  | 6, _ => rfl
  | 7, _ => rfl
  | 8, _ => rfl
  | 9, _ => rfl
  | 10, _ => rfl
  | k + 11, h => absurd h (by omega)
theorem BS.send_no {s : BS} {n : Int} (h : n < 1 ∨ n > 8) : s.send n = (1, s) := by
  unfold BS.send; rw [if_neg (by rw [BS.num_iff]; omega)]
theorem BS.send_ign {s : BS} {n : Int} (h : 1 ≤ n ∧ n ≤ 8) (hd : s.does n = 1) : s.send n = (0, s) := by
  unfold BS.send; rw [if_pos ((BS.num_iff n).2 h), if_pos hd]
theorem BS.send_ok {s : BS} {n : Int} (h : 1 ≤ n ∧ n ≤ 8) (hd : ¬ s.does n = 1) : s.send n = (0, { s with wait := fset s.wait n true }) := by
  unfold BS.send; rw [if_pos ((BS.num_iff n).2 h), if_neg hd]
theorem BS.hold_no {s : BS} {n : Int} {on : Bool} (h : n < 1 ∨ n > 8) : s.hold n on = (1, s) := by
  unfold BS.hold; rw [if_neg (by rw [BS.num_iff]; omega)]
theorem BS.hold_one {s : BS} {n : Int} {on : Bool} (h : n = 1) : s.hold n on = (8, s) := by
  subst h; rfl
theorem BS.hold_ok {s : BS} {n : Int} {on : Bool} (h : 1 ≤ n ∧ n ≤ 8) (h1 : ¬ n = 1) : s.hold n on = (0, { s with held := fset s.held n on }) := by
  unfold BS.hold; rw [if_pos ((BS.num_iff n).2 h), if_neg h1]
theorem BS.set_no {s : BS} {n h : Int} (q : n < 1 ∨ n > 8 ∨ h < 0 ∨ h > 2) : s.set n h = (1, s) := by
  unfold BS.set; rw [if_neg (by rw [BS.num_iff]; omega)]
theorem BS.set_one {s : BS} {n h : Int} (q : n = 1) (q2 : 0 ≤ h ∧ h ≤ 2) : s.set n h = (8, s) := by
  unfold BS.set; rw [if_pos ⟨(BS.num_iff n).2 (by omega), q2⟩, if_pos q]
theorem BS.set_ign {s : BS} {n h : Int} (q : 1 ≤ n ∧ n ≤ 8) (q2 : 0 ≤ h ∧ h ≤ 2) (q1 : ¬ n = 1) (hd : ({ s with how := fset s.how n h } : BS).does n = 1) : s.set n h = (0, { wait := fset s.wait n false, held := s.held, how := fset s.how n h }) := by
  unfold BS.set; rw [if_pos ⟨(BS.num_iff n).2 q, q2⟩, if_neg q1, if_pos hd]
theorem BS.set_ok {s : BS} {n h : Int} (q : 1 ≤ n ∧ n ≤ 8) (q2 : 0 ≤ h ∧ h ≤ 2) (q1 : ¬ n = 1) (hd : ¬ ({ s with how := fset s.how n h } : BS).does n = 1) : s.set n h = (0, { s with how := fset s.how n h }) := by
  unfold BS.set; rw [if_pos ⟨(BS.num_iff n).2 q, q2⟩, if_neg q1, if_neg hd]
theorem fset_same' {f : Int → Bool} {n : Int} (h : f n = false) : fset f n false = f := fset_same f h
theorem BS.take_some {s : BS} {k : Int} (h : s.first 2 = k) : s.take = (k, { s with wait := fset s.wait k false }) := by
  unfold BS.take; rw [h]
theorem BS.take_none {s : BS} (h : s.first 2 = 0) (h0 : s.wait 0 = false) : s.take = (0, s) := by
  unfold BS.take; rw [h, fset_same' h0]

theorem pack_lt9 (f : Int → Bool) : pack f < 512 := by
  have : pack f < 2 ^ 9 := by
    apply Nat.lt_pow_two_of_testBit
    intro i hi
    rw [testBit_pack]
    have : ¬ i < 9 := by omega
    simp [this]
  exact this
theorem encB_out {s : BS} : ∀ i, 11 ≤ i → encB s i = undef := by
  intro i h
  unfold encB
  repeat rw [if_neg (by omega)]

end Go.X
