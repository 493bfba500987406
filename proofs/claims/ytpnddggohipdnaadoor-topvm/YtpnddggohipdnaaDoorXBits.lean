import Derived.Test.YtpnddggohipdnaaDoorXVals
namespace Go.X
open Go

/-! ### bits of naturals -/
theorem low_form {x t : Nat} (ht : x.testBit t = true) (hl : ∀ j, j < t → x.testBit j = false) : x % 2 ^ (t + 1) = 2 ^ t := by
  apply Nat.eq_of_testBit_eq
  intro i
  rw [Nat.testBit_mod_two_pow, Nat.testBit_two_pow]
  by_cases h : i = t
  · subst h; simp [ht]
  · by_cases h2 : i < t
    · simp [hl i h2]; omega
    · have : ¬ i < t + 1 := by omega
      simp [this]; omega
theorem low_exists {x : Nat} (hx : x ≠ 0) : ∃ t, x.testBit t = true ∧ ∀ j, j < t → x.testBit j = false := by
  obtain ⟨i, hi⟩ := Nat.exists_testBit_of_ne_zero hx
  obtain ⟨t, h1, h2⟩ := exists_least (p := fun i => x.testBit i = true) ⟨i, hi⟩
  refine ⟨t, h1, fun j hj => ?_⟩
  cases hb : x.testBit j with
  | false => rfl
  | true => have := h2 j hb; omega
/-- the lowest bit struck -/
theorem low_clear {x t : Nat} (ht : x.testBit t = true) (hl : ∀ j, j < t → x.testBit j = false) (j : Nat) : (x &&& (x - 1)).testBit j = (x.testBit j && !decide (j = t)) := by
  have hm := low_form ht hl
  have hd := Nat.div_add_mod x (2 ^ (t + 1))
  rw [hm] at hd
  have hp : 0 < 2 ^ t := Nat.two_pow_pos t
  have hx1 : x - 1 = 2 ^ (t + 1) * (x / 2 ^ (t + 1)) + (2 ^ t - 1) := by omega
  have hlt : 2 ^ t < 2 ^ (t + 1) := Nat.pow_lt_pow_right (by omega) (by omega)
  rw [Nat.testBit_and]
  by_cases h1 : j < t
  · simp [hl j h1]
  · by_cases h2 : j = t
    · subst h2
      rw [hx1, Nat.testBit_two_pow_mul_add _ (by omega)]
      simp
    · have h3 : ¬ j < t + 1 := by omega
      have e1 : (x - 1).testBit j = x.testBit j := by
        rw [hx1, Nat.testBit_two_pow_mul_add _ (by omega)]
        conv => rhs; rw [← hd, Nat.testBit_two_pow_mul_add _ hlt]
        simp [h3]
      rw [e1]; simp [h2]
/-- the lowest bit alone -/
theorem low_bit {x t w : Nat} (ht : x.testBit t = true) (hl : ∀ j, j < t → x.testBit j = false) (hx : x < 2 ^ w) (hw : t < w) : x &&& (2 ^ w - x) = 2 ^ t := by
  have hm := low_form ht hl
  have hd := Nat.div_add_mod x (2 ^ (t + 1))
  rw [hm] at hd
  have hp : 0 < 2 ^ t := Nat.two_pow_pos t
  have hlt : 2 ^ t < 2 ^ (t + 1) := Nat.pow_lt_pow_right (by omega) (by omega)
  have hsucc : 2 ^ (t + 1) = 2 * 2 ^ t := by rw [Nat.pow_succ]; omega
  have hw2 : 2 ^ w = 2 ^ (t + 1) * 2 ^ (w - (t + 1)) := by rw [← Nat.pow_add]; congr 1; omega
  have hq : x / 2 ^ (t + 1) < 2 ^ (w - (t + 1)) := by
    rw [Nat.div_lt_iff_lt_mul (Nat.two_pow_pos _), Nat.mul_comm, ← hw2]; exact hx
  have hx1 : 2 ^ w - x = 2 ^ (t + 1) * (2 ^ (w - (t + 1)) - (x / 2 ^ (t + 1) + 1)) + 2 ^ t := by
    have e : 2 ^ (t + 1) * (2 ^ (w - (t + 1)) - (x / 2 ^ (t + 1) + 1)) = 2 ^ w - (2 ^ (t + 1) * (x / 2 ^ (t + 1)) + 2 ^ (t + 1)) := by
      rw [Nat.mul_sub, ← hw2, Nat.mul_add, Nat.mul_one]
    have hle : 2 ^ (t + 1) * (x / 2 ^ (t + 1)) + 2 ^ (t + 1) ≤ 2 ^ w := by
      rw [hw2, ← Nat.mul_succ]; exact Nat.mul_le_mul_left _ hq
    omega
  apply Nat.eq_of_testBit_eq
  intro j
  rw [Nat.testBit_and, hx1, Nat.testBit_two_pow_mul_add _ hlt, Nat.testBit_two_pow]
  by_cases h1 : j < t + 1
  · rw [if_pos h1]
    by_cases h2 : t = j
    · subst h2; simp [ht]
    · simp [h2]
  · rw [if_neg h1, Nat.testBit_two_pow_sub_succ hq]
    have e1 : x.testBit j = (x / 2 ^ (t + 1)).testBit (j - (t + 1)) := by
      conv => lhs; rw [← hd, Nat.testBit_two_pow_mul_add _ hlt]
      simp [h1]
    rw [e1]
    have : ¬ t = j := by omega
    simp [this]; try exact fun h _ => h

/-- a without b -/
def nandn (a b : Nat) : Nat := a &&& (a ^^^ b)
theorem testBit_nandn (a b j : Nat) : (nandn a b).testBit j = (a.testBit j && !b.testBit j) := by
  simp only [nandn, Nat.testBit_and, Nat.testBit_xor]
  cases a.testBit j <;> cases b.testBit j <;> rfl
theorem nandn_le (a b : Nat) : nandn a b ≤ a := Nat.and_le_left

/-! ### bits of the kinds without a sign -/
def unsig : IntKind → Bool
  | .u8 | .u16 | .u32 | .u64 => true
  | _ => false
theorem wrap_nat {k : IntKind} (hk : unsig k = true) {a : Nat} (h : a < 2 ^ k.bits) : k.wrap (a : Int) = a := by
  have hs : k.signed = false := by cases k <;> simp_all [unsig, IntKind.signed]
  have : ((a : Int) % (2 ^ k.bits : Int)) = a := Int.emod_eq_of_lt (by omega) (by exact_mod_cast h)
  simp [IntKind.wrap, hs, this]

section
variable {P : Program} {n : Fr} {L : PF} {ty : TypeId} {pos : String} {af : Array Edge} {d : Nat} {φ : World → Prop} {gd : Option (Nat × Bool)}
theorem run_bits {w : World} {op : BinOp} {k : IntKind} {a b r : Nat} (hk : unsig k = true) (ha : a < 2 ^ k.bits) (hb : b < 2 ^ k.bits)
    (hr : (match op with | .and => some (a &&& b) | .or => some (a ||| b) | .xor => some (a ^^^ b) | .andNot => some (nandn a b) | _ => none) = some r) :
    (Op.intBits op k (a : Int) (b : Int)).run P w = .ok (.int k r) w := by
  have e1 : (BitVec.ofInt k.bits (a : Int)) = BitVec.ofNat k.bits a := BitVec.ofInt_natCast _ _
  have e2 : (BitVec.ofInt k.bits (b : Int)) = BitVec.ofNat k.bits b := BitVec.ofInt_natCast _ _
  have n1 : (BitVec.ofNat k.bits a).toNat = a := by simp [Nat.mod_eq_of_lt ha]
  have n2 : (BitVec.ofNat k.bits b).toNat = b := by simp [Nat.mod_eq_of_lt hb]
  have key : ∀ (v : BitVec k.bits), k.wrap (v.toNat : Int) = v.toNat := fun v => wrap_nat hk v.isLt
  cases op <;> simp only [Option.some.injEq] at hr <;> (try cases hr) <;>
    simp only [Op.intBits, e1, e2, Sem.run_pure, key]
  · rw [BitVec.toNat_and, n1, n2]
  · rw [BitVec.toNat_or, n1, n2]
  · rw [BitVec.toNat_xor, n1, n2]
  · have : (BitVec.ofNat k.bits a &&& ~~~BitVec.ofNat k.bits b).toNat = nandn a b := by
      apply Nat.eq_of_testBit_eq
      intro j
      rw [testBit_nandn, BitVec.testBit_toNat, BitVec.getLsbD_and, BitVec.getLsbD_not, BitVec.getLsbD_ofNat, BitVec.getLsbD_ofNat]
      by_cases hj : j < k.bits
      · simp [hj]
      · have : a.testBit j = false := Nat.testBit_lt_two_pow (Nat.lt_of_lt_of_le ha (Nat.pow_le_pow_right (by omega) (by omega)))
        simp [hj, this]
    rw [this]
theorem V.bits {op : BinOp} {t t' : TypeId} {x y : Operand} {k : IntKind} {a b r : Nat} (hx : ev L x = some (.int k a)) (hy : ev L y = some (.int k b)) (hk : unsig k = true) (ha : a < 2 ^ k.bits) (hb : b < 2 ^ k.bits)
    (hr : (match op with | .and => some (a &&& b) | .or => some (a ||| b) | .xor => some (a ^^^ b) | .andNot => some (nandn a b) | _ => none) = some r) :
    RunsTo P n L φ ⟨some d, .binOp op t x y t', ty, pos, af, gd⟩ (.int k r) :=
  V.bin hx hy (fun w A hx hy => by
    have he := run_bits (P := P) (w := w) hk ha hb hr
    cases op <;> simp only [Option.some.injEq] at hr <;> (try cases hr) <;>
      simp [execOp, eqGuard, hx, hy, binOp, he])
theorem V.shl {t t' : TypeId} {x y : Operand} {k k' : IntKind} {a z : Int} (hx : ev L x = some (.int k a)) (hy : ev L y = some (.int k' z)) (hz : 0 ≤ z) (r : Int) (hr : k.wrap (a * 2 ^ (min z.toNat k.bits)) = r) :
    RunsTo P n L φ ⟨some d, .binOp .shl t x y t', ty, pos, af, gd⟩ (.int k r) :=
  V.bin hx hy (fun w A hx hy => by
    have h : ¬ z < 0 := by omega
    simp [execOp, eqGuard, hx, hy, binOp, Op.shift, h, hr])
theorem V.shr {t t' : TypeId} {x y : Operand} {k k' : IntKind} {a z : Int} (hx : ev L x = some (.int k a)) (hy : ev L y = some (.int k' z)) (hz : 0 ≤ z) (r : Int) (hr : a.fdiv (2 ^ (min z.toNat k.bits)) = r) :
    RunsTo P n L φ ⟨some d, .binOp .shr t x y t', ty, pos, af, gd⟩ (.int k r) :=
  V.bin hx hy (fun w A hx hy => by
    have h : ¬ z < 0 := by omega
    simp [execOp, eqGuard, hx, hy, binOp, Op.shift, h, hr])
theorem V.indexGl {t : TypeId} {x y : Operand} {g m sz : Nat} {k : IntKind} {z : Int} (hx : ev L x = some (.pointer (some ⟨g, 0, none⟩))) (hy : ev L y = some (.int k z)) (ht : arrOf P t = some (m, sz))
    (hz : 0 ≤ z ∧ z < m) :
    RunsTo P n L φ (⟨some d, .indexAddr t x y, ty, pos, af, gd⟩) (ptr g 0 (0 + z.toNat * sz)) :=
  V.indexArr (b := g) (o := 0) (i := 0) hx hy ht hz
theorem run_bitsW {w : World} {op : BinOp} {k : IntKind} {a b r : Nat} (hw : k.wrap (r : Int) = r) (ha : a < 2 ^ k.bits) (hb : b < 2 ^ k.bits)
    (hr : (match op with | .and => some (a &&& b) | .or => some (a ||| b) | .xor => some (a ^^^ b) | .andNot => some (nandn a b) | _ => none) = some r) :
    (Op.intBits op k (a : Int) (b : Int)).run P w = .ok (.int k r) w := by
  have e1 : (BitVec.ofInt k.bits (a : Int)) = BitVec.ofNat k.bits a := BitVec.ofInt_natCast _ _
  have e2 : (BitVec.ofInt k.bits (b : Int)) = BitVec.ofNat k.bits b := BitVec.ofInt_natCast _ _
  have n1 : (BitVec.ofNat k.bits a).toNat = a := by simp [Nat.mod_eq_of_lt ha]
  have n2 : (BitVec.ofNat k.bits b).toNat = b := by simp [Nat.mod_eq_of_lt hb]
  cases op <;> simp only [Option.some.injEq] at hr <;> (try cases hr) <;>
    simp only [Op.intBits, e1, e2, Sem.run_pure]
  · rw [BitVec.toNat_and, n1, n2, hw]
  · rw [BitVec.toNat_or, n1, n2, hw]
  · rw [BitVec.toNat_xor, n1, n2, hw]
  · have : (BitVec.ofNat k.bits a &&& ~~~BitVec.ofNat k.bits b).toNat = nandn a b := by
      apply Nat.eq_of_testBit_eq
      intro j
      rw [testBit_nandn, BitVec.testBit_toNat, BitVec.getLsbD_and, BitVec.getLsbD_not, BitVec.getLsbD_ofNat, BitVec.getLsbD_ofNat]
      by_cases hj : j < k.bits
      · simp [hj]
      · have : a.testBit j = false := Nat.testBit_lt_two_pow (Nat.lt_of_lt_of_le ha (Nat.pow_le_pow_right (by omega) (by omega)))
        simp [hj, this]
    rw [this, hw]
/-- bits of naturals that a signed kind holds -/
theorem V.bitsI {op : BinOp} {t t' : TypeId} {x y : Operand} {a b r : Nat} (hx : ev L x = some (.int .i64 a)) (hy : ev L y = some (.int .i64 b)) (ha : a < 9223372036854775808) (hb : b < 9223372036854775808) (hw : r < 9223372036854775808)
    (hr : (match op with | .and => some (a &&& b) | .or => some (a ||| b) | .xor => some (a ^^^ b) | .andNot => some (nandn a b) | _ => none) = some r) :
    RunsTo P n L φ ⟨some d, .binOp op t x y t', ty, pos, af, gd⟩ (.int .i64 r) :=
  V.bin hx hy (fun w A hx hy => by
    have he := run_bitsW (P := P) (w := w) (k := .i64) (IntWalk.i64_in _ (by omega)) (Nat.lt_of_lt_of_le ha (by decide)) (Nat.lt_of_lt_of_le hb (by decide)) hr
    cases op <;> simp only [Option.some.injEq] at hr <;> (try cases hr) <;>
      simp [execOp, eqGuard, hx, hy, binOp, he])
/-- bits of ints of 64 bits that are not below 0 -/
theorem V.bitsZ {op : BinOp} {t t' : TypeId} {x y : Operand} {a b z : Int} {r : Nat} (hx : ev L x = some (.int .i64 a)) (hy : ev L y = some (.int .i64 b)) (ha : 0 ≤ a ∧ a < 9223372036854775808) (hb : 0 ≤ b ∧ b < 9223372036854775808) (hz : 0 ≤ z ∧ z < 9223372036854775808)
    (hr : (match op with | .and => some (a.toNat &&& b.toNat) | .or => some (a.toNat ||| b.toNat) | .xor => some (a.toNat ^^^ b.toNat) | .andNot => some (nandn a.toNat b.toNat) | _ => none) = some r) (he : (r : Int) = z) :
    RunsTo P n L φ ⟨some d, .binOp op t x y t', ty, pos, af, gd⟩ (.int .i64 z) := by
  subst he
  have hx2 : ev L x = some (.int .i64 ((a.toNat : Nat) : Int)) := by rw [show ((a.toNat : Nat) : Int) = a from by omega]; exact hx
  have hy2 : ev L y = some (.int .i64 ((b.toNat : Nat) : Int)) := by rw [show ((b.toNat : Nat) : Int) = b from by omega]; exact hy
  exact V.bitsI hx2 hy2 (by omega) (by omega) (by omega) hr
theorem V.rem {t t' : TypeId} {x y : Operand} {k : IntKind} {a b : Int} (hx : ev L x = some (.int k a)) (hy : ev L y = some (.int k b)) (hb : b ≠ 0) (r : Int) (hr : a.tmod b = r) :
    RunsTo P n L φ ⟨some d, .binOp .rem t x y t', ty, pos, af, gd⟩ (.int k r) :=
  V.bin hx hy (fun w A hx hy => by simp [execOp, eqGuard, hx, hy, binOp, Op.intDiv, hb, hr])
theorem V.quo {t t' : TypeId} {x y : Operand} {k : IntKind} {a b : Int} (hx : ev L x = some (.int k a)) (hy : ev L y = some (.int k b)) (hb : b ≠ 0) (r : Int) (hr : k.wrap (a.tdiv b) = r) :
    RunsTo P n L φ ⟨some d, .binOp .quo t x y t', ty, pos, af, gd⟩ (.int k r) :=
  V.bin hx hy (fun w A hx hy => by simp [execOp, eqGuard, hx, hy, binOp, Op.intDiv, hb, hr])
theorem quo_nn {a b : Int} (ha : 0 ≤ a) (hb : 0 < b) (h : a ≤ 9223372036854775807) : IntKind.i64.wrap (a.tdiv b) = a / b := by
  rw [Int.tdiv_eq_ediv_of_nonneg ha]
  have h1 : 0 ≤ a / b := Int.ediv_nonneg ha (by omega)
  have h2 : a / b ≤ a := Int.ediv_le_self b ha
  exact IntWalk.i64_in _ (by omega)
end
end Go.X
