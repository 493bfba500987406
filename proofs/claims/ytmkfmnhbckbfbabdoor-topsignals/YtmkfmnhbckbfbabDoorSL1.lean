import Derived.Test.YtmkfmnhbckbfbabDoorSM
namespace Go.X
open Go

/-! ### the plain law -/
theorem BS.send_w0 {s : BS} (h : s.wait 0 = false) (n : Int) : (s.send n).2.wait 0 = false := by
  unfold BS.send
  split
  · rename_i q
    rw [BS.num_iff] at q
    split
    · exact h
    · have : ¬ (0 : Int) = n := by omega
      simp [fset, this, h]
  · exact h
theorem BS.hold_w0 {s : BS} (h : s.wait 0 = false) (n : Int) (x : Bool) : (s.hold n x).2.wait 0 = false := by
  unfold BS.hold
  split
  · split <;> exact h
  · exact h
theorem BS.set_w0 {s : BS} (h : s.wait 0 = false) (n k : Int) : (s.set n k).2.wait 0 = false := by
  unfold BS.set
  split
  · split
    · exact h
    · dsimp only
      split
      · simp only [fset]; split
        · rfl
        · exact h
      · exact h
  · exact h
theorem BS.take_w0 {s : BS} (h : s.wait 0 = false) : s.take.2.wait 0 = false := by
  simp only [BS.take, fset]; split
  · rfl
  · exact h
theorem BS.send_nn (s : BS) (n : Int) : 0 ≤ (s.send n).1 := by unfold BS.send; split <;> simp
theorem BS.hold_nn (s : BS) (n : Int) (x : Bool) : 0 ≤ (s.hold n x).1 := by unfold BS.hold; split <;> (try split) <;> simp
theorem BS.set_nn (s : BS) (n k : Int) : 0 ≤ (s.set n k).1 := by unfold BS.set; split <;> (try split) <;> simp
theorem BS.first_pos {s : BS} (h0 : s.wait 0 = false) (h : Int) : decide (s.first h ≠ 0) = decide (s.first h > 0) := by
  have := s.first_cases h h0
  by_cases q : s.first h = 0
  · simp [q]
  · have : s.first h > 0 := by omega
    simp [q, this]
theorem first_eq {s : BS} (h0 : s.wait 0 = false) (h : Int) : (decide (s.first h ≠ 0) == decide (s.first h > 0)) = true := by
  rw [BS.first_pos h0]; simp
theorem waits_eq {s : BS} {n : Int} (h1 : n > 0) (h2 : n < 9) : (BS.num n && s.wait n) = s.wait (max 0 (min n 8)) := by
  rw [show max 0 (min n 8) = n from by omega, (BS.num_iff n).2 (by omega)]
  rfl
theorem waits_no {s : BS} {n : Int} (h : ¬ (n > 0 ∧ n < 9)) : (BS.num n && s.wait n) = false := by
  have : BS.num n = false := by simp [BS.num]; omega
  rw [this]; rfl
theorem boxM_init : ∀ i, i < 27 → cellsOf (Value.agg #[.bool false, .bool false, .bool false, .bool false, .bool false, .bool false, .bool false, .bool false, .bool false, .bool false, .bool false, .bool false, .bool false, .bool false, .bool false, .bool false, .bool false, .bool false, .int .i64 0, .int .i64 0, .int .i64 0, .int .i64 0, .int .i64 0, .int .i64 0, .int .i64 0, .int .i64 0, .int .i64 0]).cells i = encM BS.init i := fun i hi => match i, hi with
  | 0, _ => rfl
  | 1, _ => rfl
  | 2, _ => rfl
  | 3, _ => rfl
  | 4, _ => rfl
  | 5, _ => rfl
  | 6, _ => rfl
  | 7, _ => rfl
  | 8, _ => rfl
  | 9, _ => rfl
  | 10, _ => rfl
  | 11, _ => rfl
  | 12, _ => rfl
  | 13, _ => rfl
  | 14, _ => rfl
  | 15, _ => rfl
  | 16, _ => rfl
  | 17, _ => rfl
  | 18, _ => rfl
  | 19, _ => rfl
  | 20, _ => rfl
  | 21, _ => rfl
  | 22, _ => rfl
  | 23, _ => rfl
  | 24, _ => rfl
  | 25, _ => rfl
  | 26, _ => rfl
  | k + 27, h => absurd h (by omega)

end Go.X
