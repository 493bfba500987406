import Derived.Test.YtmklfkjfgjagaaaOW2
import Derived.Test.YtmklfkjfgjagaaaOTM
namespace Go.X
open Go
theorem boxP_init : ∀ i, i < 24 → cellsOf (Value.agg #[.string ⟨#[]⟩, .int .i64 0, .int .i64 0, .string ⟨#[]⟩, .int .i64 0, .int .i64 0, .string ⟨#[]⟩, .int .i64 0, .int .i64 0, .string ⟨#[]⟩, .int .i64 0, .int .i64 0, .string ⟨#[]⟩, .int .i64 0, .int .i64 0, .string ⟨#[]⟩, .int .i64 0, .int .i64 0, .string ⟨#[]⟩, .int .i64 0, .int .i64 0, .string ⟨#[]⟩, .int .i64 0, .int .i64 0]).cells i = encP PS.init i := fun i hi => match i, hi with
  | 0, _ => rfl
  | 1, _ => rfl
  | 2, _ => rfl
  | 3, _ => rfl
  | 4, _ => rfl
  | 5, _ => rfl
  | 6, _ => rfl
  | 7, _ => rfl
  | 8, _ => rfl
  | 9, _ => rfl
  | 10, _ => rfl
  | 11, _ => rfl
  | 12, _ => rfl
  | 13, _ => rfl
  | 14, _ => rfl
  | 15, _ => rfl
  | 16, _ => rfl
  | 17, _ => rfl
  | 18, _ => rfl
  | 19, _ => rfl
  | 20, _ => rfl
  | 21, _ => rfl
  | 22, _ => rfl
  | 23, _ => rfl
  | k + 24, h => absurd h (by omega)

def encSt (f : Int → ByteArray) (m : Nat) : Nat → Value := fun i => if i < m then .string (f i) else undef
theorem encSt.ld (f : Int → ByteArray) (m : Nat) (z : Int) (h : 0 ≤ z ∧ z < m) : 0 + z.toNat * 1 < m ∧ encSt f m (0 + z.toNat * 1) = .string (f z) := by
  refine ⟨by omega, ?_⟩
  unfold encSt
  rw [if_pos (by omega), show (((0 + z.toNat * 1 : Nat)) : Int) = z from by omega]

end Go.X
