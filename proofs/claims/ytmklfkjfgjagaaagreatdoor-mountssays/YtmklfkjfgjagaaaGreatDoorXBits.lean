import Derived.Test.YtmklfkjfgjagaaaGreatDoorXVals
namespace Go.X
open Go

/-! ### bits of naturals -/
/-- a without b -/
def nandn (a b : Nat) : Nat := a &&& (a ^^^ b)
theorem testBit_nandn (a b j : Nat) : (nandn a b).testBit j = (a.testBit j && !b.testBit j) := by
  simp only [nandn, Nat.testBit_and, Nat.testBit_xor]
  cases a.testBit j <;> cases b.testBit j <;> rfl
/-! ### bits of the kinds without a sign -/
def unsig : IntKind → Bool
  | .u8 | .u16 | .u32 | .u64 => true
  | _ => false
theorem wrap_nat {k : IntKind} (hk : unsig k = true) {a : Nat} (h : a < 2 ^ k.bits) : k.wrap (a : Int) = a := by
  have hs : k.signed = false := by cases k <;> simp_all [unsig, IntKind.signed]
  have : ((a : Int) % (2 ^ k.bits : Int)) = a := Int.emod_eq_of_lt (by omega) (by exact_mod_cast h)
  simp [IntKind.wrap, hs, this]

section
variable {P : Program} {n : Fr} {L : PF} {ty : TypeId} {pos : String} {af : Array Edge} {d : Nat} {φ : World → Prop} {gd : Option (Nat × Bool)}
theorem run_bits {w : World} {op : BinOp} {k : IntKind} {a b r : Nat} (hk : unsig k = true) (ha : a < 2 ^ k.bits) (hb : b < 2 ^ k.bits)
    (hr : (match op with | .and => some (a &&& b) | .or => some (a ||| b) | .xor => some (a ^^^ b) | .andNot => some (nandn a b) | _ => none) = some r) :
    (Op.intBits op k (a : Int) (b : Int)).run P w = .ok (.int k r) w := by
  have e1 : (BitVec.ofInt k.bits (a : Int)) = BitVec.ofNat k.bits a := BitVec.ofInt_natCast _ _
  have e2 : (BitVec.ofInt k.bits (b : Int)) = BitVec.ofNat k.bits b := BitVec.ofInt_natCast _ _
  have n1 : (BitVec.ofNat k.bits a).toNat = a := by simp [Nat.mod_eq_of_lt ha]
  have n2 : (BitVec.ofNat k.bits b).toNat = b := by simp [Nat.mod_eq_of_lt hb]
  have key : ∀ (v : BitVec k.bits), k.wrap (v.toNat : Int) = v.toNat := fun v => wrap_nat hk v.isLt
  cases op <;> simp only [Option.some.injEq] at hr <;> (try cases hr) <;>
    simp only [Op.intBits, e1, e2, Sem.run_pure, key]
  · rw [BitVec.toNat_and, n1, n2]
  · rw [BitVec.toNat_or, n1, n2]
  · rw [BitVec.toNat_xor, n1, n2]
  · have : (BitVec.ofNat k.bits a &&& ~~~BitVec.ofNat k.bits b).toNat = nandn a b := by
      apply Nat.eq_of_testBit_eq
      intro j
      rw [testBit_nandn, BitVec.testBit_toNat, BitVec.getLsbD_and, BitVec.getLsbD_not, BitVec.getLsbD_ofNat, BitVec.getLsbD_ofNat]
      by_cases hj : j < k.bits
      · simp [hj]
      · have : a.testBit j = false := Nat.testBit_lt_two_pow (Nat.lt_of_lt_of_le ha (Nat.pow_le_pow_right (by omega) (by omega)))
        simp [hj, this]
    rw [this]
theorem V.bits {op : BinOp} {t t' : TypeId} {x y : Operand} {k : IntKind} {a b r : Nat} (hx : ev L x = some (.int k a)) (hy : ev L y = some (.int k b)) (hk : unsig k = true) (ha : a < 2 ^ k.bits) (hb : b < 2 ^ k.bits)
    (hr : (match op with | .and => some (a &&& b) | .or => some (a ||| b) | .xor => some (a ^^^ b) | .andNot => some (nandn a b) | _ => none) = some r) :
    RunsTo P n L φ ⟨some d, .binOp op t x y t', ty, pos, af, gd⟩ (.int k r) :=
  V.bin hx hy (fun w A hx hy => by
    have he := run_bits (P := P) (w := w) hk ha hb hr
    cases op <;> simp only [Option.some.injEq] at hr <;> (try cases hr) <;>
      simp [execOp, eqGuard, hx, hy, binOp, he])
theorem V.rem {t t' : TypeId} {x y : Operand} {k : IntKind} {a b : Int} (hx : ev L x = some (.int k a)) (hy : ev L y = some (.int k b)) (hb : b ≠ 0) (r : Int) (hr : a.tmod b = r) :
    RunsTo P n L φ ⟨some d, .binOp .rem t x y t', ty, pos, af, gd⟩ (.int k r) :=
  V.bin hx hy (fun w A hx hy => by simp [execOp, eqGuard, hx, hy, binOp, Op.intDiv, hb, hr])
end
end Go.X
