import Derived.Test.YtmkfmnhbckbfbabPM
namespace Go.X
open Go
theorem boxP_init : ∀ i, i < 24 → cellsOf (Value.agg #[.string ⟨#[]⟩, .int .i64 0, .int .i64 0, .string ⟨#[]⟩, .int .i64 0, .int .i64 0, .string ⟨#[]⟩, .int .i64 0, .int .i64 0, .string ⟨#[]⟩, .int .i64 0, .int .i64 0, .string ⟨#[]⟩, .int .i64 0, .int .i64 0, .string ⟨#[]⟩, .int .i64 0, .int .i64 0, .string ⟨#[]⟩, .int .i64 0, .int .i64 0, .string ⟨#[]⟩, .int .i64 0, .int .i64 0]).cells i = encP PS.init i := fun i hi => match i, hi with
  | 0, _ => rfl
  | 1, _ => rfl
  | 2, _ => rfl
  | 3, _ => rfl
  | 4, _ => rfl
  | 5, _ => rfl
  | 6, _ => rfl
  | 7, _ => rfl
  | 8, _ => rfl
  | 9, _ => rfl
  | 10, _ => rfl
  | 11, _ => rfl
  | 12, _ => rfl
  | 13, _ => rfl
  | 14, _ => rfl
  | 15, _ => rfl
  | 16, _ => rfl
  | 17, _ => rfl
  | 18, _ => rfl
  | 19, _ => rfl
  | 20, _ => rfl
  | 21, _ => rfl
  | 22, _ => rfl
  | 23, _ => rfl
  | k + 24, h => absurd h (by omega)
theorem boxR_init : ∀ i, i < 24 → cellsOf (Value.agg #[.string ⟨#[]⟩, .string ⟨#[]⟩, .string ⟨#[]⟩, .string ⟨#[]⟩, .string ⟨#[]⟩, .string ⟨#[]⟩, .string ⟨#[]⟩, .string ⟨#[]⟩, .int .i64 0, .int .i64 0, .int .i64 0, .int .i64 0, .int .i64 0, .int .i64 0, .int .i64 0, .int .i64 0, .int .i64 0, .int .i64 0, .int .i64 0, .int .i64 0, .int .i64 0, .int .i64 0, .int .i64 0, .int .i64 0]).cells i = encR PS.init i := fun i hi => match i, hi with
  | 0, _ => rfl
  | 1, _ => rfl
  | 2, _ => rfl
  | 3, _ => rfl
  | 4, _ => rfl
  | 5, _ => rfl
  | 6, _ => rfl
  | 7, _ => rfl
  | 8, _ => rfl
  | 9, _ => rfl
  | 10, _ => rfl
  | 11, _ => rfl
  | 12, _ => rfl
  | 13, _ => rfl
  | 14, _ => rfl
  | 15, _ => rfl
  | 16, _ => rfl
  | 17, _ => rfl
  | 18, _ => rfl
  | 19, _ => rfl
  | 20, _ => rfl
  | 21, _ => rfl
  | 22, _ => rfl
  | 23, _ => rfl
  | k + 24, h => absurd h (by omega)

/-! ### the plain law -/
theorem PS.make_inv {s : PS} {K : Int} (h : s.Inv K) (hK : 0 ≤ K) : (s.make).2.2.Inv (K + 1) := by
  unfold PS.make
  cases hf : firstN (fun k => s.e k 0 + s.e k 1 == 0) 8 with
  | none => exact h.mono (by omega)
  | some k =>
    have hz : s.e k 0 + s.e k 1 = 0 := by
      unfold firstN at hf
      have := List.find?_some hf
      simpa using this
    refine ⟨fun n => ?_, fun n => ?_, fun n hn => ?_, h.len⟩
    · have := h.e0 n
      simp only [fset2]; split <;> (try split) <;> omega
    · have := h.e1 n
      simp only [fset2]; split <;> (try split) <;> omega
    · simp only [fset2] at hn
      by_cases hnk : n = k
      · subst hnk; exact h.cl _ hz
      · refine h.cl n ?_
        simpa [hnk] using hn
theorem PS.turn_inv {s : PS} {K n d : Int} {w : Bool} (h : s.Inv K) (hd : d = 1 ∨ d = -1) : (s.turn n w d).2.Inv (K + 1) := by
  unfold PS.turn
  by_cases h1 : s.is n ≠ 0
  · rw [if_pos h1]; exact h.mono (by omega)
  rw [if_neg h1]
  by_cases h2 : s.e n (sel w) = 0
  · rw [if_pos h2]; exact h.mono (by omega)
  rw [if_neg h2]
  have b0 := h.e0
  have b1 := h.e1
  have hw : sel w = 0 ∨ sel w = 1 := by cases w <;> simp [sel]
  refine ⟨fun m => ?_, fun m => ?_, fun m hm => ?_, fun m => ?_⟩
  · have c0 := b0 m; have c1 := b1 m
    simp only [fset2]
    rcases hw with hw | hw <;> rw [hw] at h2 ⊢ <;> split
    · rename_i q; obtain ⟨rfl, _⟩ := q; omega
    · omega
    · rename_i q; simp at q
    · omega
  · have c0 := b0 m; have c1 := b1 m
    simp only [fset2]
    rcases hw with hw | hw <;> rw [hw] at h2 ⊢ <;> split
    · rename_i q; simp at q
    · omega
    · rename_i q; obtain ⟨rfl, _⟩ := q; omega
    · omega
  · simp only [fset2] at hm
    by_cases hmn : m = n
    · subst hmn
      have : s.e m 0 + s.e m 1 + d = 0 := by
        rcases hw with hw | hw <;> rw [hw] at hm <;> simp at hm <;> omega
      simp only [this, if_true, fset]
    · have : s.b m = ⟨#[]⟩ := h.cl m (by simpa [hmn] using hm)
      split
      · simp [fset, hmn, this]
      · exact this
  · have := h.len m
    split
    · simp only [fset]; split
      · simp [ByteArray.size]
      · exact this
    · exact this
theorem PS.read_inv {s : PS} {K n m : Int} (h : s.Inv K) : (s.read n m).2.2.Inv (K + 1) := by
  have hh := h.mono (show K ≤ K + 1 by omega)
  unfold PS.read
  split
  · exact hh
  · split
    · exact hh
    · split
      · exact hh
      · split
        · exact hh
        · refine ⟨hh.e0, hh.e1, fun j hj => ?_, fun j => ?_⟩
          · have := h.cl j hj
            simp only [fset]; split
            · rename_i q; subst q; rw [this]
              rw [str_empty]
              simp [ByteArray.size_extract]; simp [ByteArray.size]
            · exact this
          · have := h.len j
            simp only [fset]; split
            · rename_i q; subst q; rw [ByteArray.size_extract]; omega
            · exact this
theorem PS.write_inv {s : PS} {K n : Int} {t : ByteArray} (h : s.Inv K) : (s.write n t).2.2.Inv (K + 1) := by
  have hh := h.mono (show K ≤ K + 1 by omega)
  unfold PS.write
  split
  · exact hh
  · split
    · exact hh
    · rename_i h1
      split
      · exact hh
      · split
        · exact hh
        · refine ⟨hh.e0, hh.e1, fun j hj => ?_, fun j => ?_⟩
          · have := h.cl j hj
            simp only [fset]; split
            · rename_i q; subst q
              have := h.e0 j; have := h.e1 j
              simp only at hj
              omega
            · exact this
          · have := h.len j
            simp only [fset]; split
            · rename_i q; subst q
              rw [ByteArray.size_append, ByteArray.size_extract]
              omega
            · exact this
theorem PS.is_nn (s : PS) (n : Int) : 0 ≤ s.is n := by rcases PS.is_cases s n with q | q | q <;> omega
theorem PS.make_nn (s : PS) : 0 ≤ s.make.2.1 := by unfold PS.make; split <;> simp
theorem PS.turn_nn (s : PS) (n d : Int) (w : Bool) : 0 ≤ (s.turn n w d).1 := by
  have hi := s.is_nn n
  unfold PS.turn; split
  · exact hi
  · split <;> simp
theorem PS.read_nn (s : PS) (n m : Int) : 0 ≤ (s.read n m).2.1 := by
  have hi := s.is_nn n
  unfold PS.read; split
  · exact hi
  · repeat (split; · simp)
    simp
theorem PS.write_nn (s : PS) (n : Int) (t : ByteArray) : 0 ≤ (s.write n t).2.1 := by
  have hi := s.is_nn n
  unfold PS.write; split
  · exact hi
  · repeat (split; · simp)
    simp

end Go.X
