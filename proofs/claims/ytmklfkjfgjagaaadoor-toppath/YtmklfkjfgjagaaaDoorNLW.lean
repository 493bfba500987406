import Derived.Test.YtmklfkjfgjagaaaDoorNRO
import Derived.Test.YtmklfkjfgjagaaaDoorLM
namespace Go.X
open Go
/-! ### what the statement needs -/
namespace FF
theorem plantE_nn (s : FF) : 0 ≤ s.plantE := by unfold plantE; split <;> (try split) <;> omega
theorem makeE_nn (s : FF) (n : Int) (x : ByteArray) (k : Int) : 0 ≤ s.makeE n x k := by
  have := roomE_nn s n x
  unfold makeE; split
  · omega
  · split
    · exact this
    · split <;> omega
theorem linkE_nn (s : FF) (k n : Int) (x : ByteArray) : 0 ≤ s.linkE k n x := by
  have := roomE_nn s n x
  have h2 := isE_nn s k 1
  unfold linkE; split
  · exact h2
  · split
    · exact this
    · split <;> omega
theorem removeE_nn (s : FF) (n : Int) (x : ByteArray) : 0 ≤ s.removeE n x := by
  have := findE_nn s n x
  unfold removeE; split
  · exact this
  · split <;> omega
theorem moveE_nn (d : Int → Nat) (s : FF) (n : Int) (x : ByteArray) (to : Int) (y : ByteArray) : 0 ≤ s.moveE d n x to y := by
  have h1 := findE_nn s n x
  have h2 := isE_nn s to 2
  have h3 := roomE_nn (s.cutF n x) to y
  have h4 : 0 ≤ s.moveE0 d n x to := by
    unfold moveE0; split
    · exact h1
    · split
      · exact h2
      · split
        · omega
        · split <;> omega
  unfold moveE; split
  · exact h4
  · exact h3
theorem letE_nn (s : FF) (n : Int) : 0 ≤ s.letE n := by
  have := isE_nn s n 0
  unfold letE; split
  · exact this
  · split <;> omega
theorem readE_nn (s : FF) (n a m : Int) : 0 ≤ s.readE n a m := by
  have := isE_nn s n 1
  unfold readE; split
  · exact this
  · split <;> omega
theorem writeE_nn (s : FF) (n a : Int) (x : ByteArray) : 0 ≤ s.writeE n a x := by
  have := isE_nn s n 1
  unfold writeE; split
  · exact this
  · split
    · omega
    · split <;> omega
theorem clipE_nn (s : FF) (n z : Int) : 0 ≤ s.clipE n z := by
  have := isE_nn s n 1
  unfold clipE; split
  · exact this
  · split <;> omega
theorem rootE_nn (s : FF) (t : Int) : 0 ≤ s.rootE t := by unfold rootE; split <;> (try split) <;> omega
theorem gone_roots (s : FF) (n : Int) : (s.goneF n).roots = s.roots := by unfold goneF; split <;> rfl
theorem make_roots (s : FF) (n : Int) (x : ByteArray) (k : Int) : (s.make n x k).roots = s.roots := by unfold make; split <;> rfl
theorem link_roots (s : FF) (k n : Int) (x : ByteArray) : (s.link k n x).roots = s.roots := by unfold link; split <;> rfl
theorem remove_roots (s : FF) (n : Int) (x : ByteArray) : (s.remove n x).roots = s.roots := by
  unfold remove; split
  · rw [gone_roots]; rfl
  · rfl
theorem move_roots (d : Int → Nat) (s : FF) (n : Int) (x : ByteArray) (to : Int) (y : ByteArray) : (s.move d n x to y).roots = s.roots := by
  unfold move; split
  · rfl
  · split
    · rfl
    · split <;> rfl
theorem hold_roots (s : FF) (n : Int) : (s.hold n).roots = s.roots := by unfold hold; split <;> rfl
theorem letF_roots (s : FF) (n : Int) : (s.letF n).roots = s.roots := by
  unfold letF; split
  · rw [gone_roots]
  · rfl
theorem write_roots (s : FF) (n a : Int) (x : ByteArray) : (s.write n a x).roots = s.roots := by unfold write; split <;> rfl
theorem clip_roots (s : FF) (n z : Int) : (s.clip n z).roots = s.roots := by unfold clip; split <;> rfl
theorem ofV_eq {s : FF} {d : Int → Nat} (h : s.Inv d) (n : Int) : s.ofR n = s.ofV n := by
  unfold ofR ofV
  by_cases c : s.isE n 0 = 0
  · rw [if_pos c, if_pos c]
    obtain ⟨i1, i2, i3⟩ := isE_0 c
    obtain ⟨_, r2, _, _⟩ := h.rise n i1 i2
    obtain ⟨_, d2⟩ := h.data n i1 i2
    by_cases q : s.kind n = 2
    · rw [if_pos q, d2 (by omega)]
      congr 1
      rw [r2]
      show _ = max (0 : Int) _
      omega
    · obtain ⟨k0, n0⟩ := h.nokids i1 i2 q
      rw [if_neg q, k0]
      congr 1
      show _ = max _ (0 : Int)
      omega
  · rw [if_neg c, if_neg c]
theorem Ok.links1 {s : FF} {d : Int → Nat} (h : s.Inv d) {n : Int} {x : ByteArray} (h0 : s.findE n x = 0) : 1 ≤ s.links (s.findV n x) := by
  obtain ⟨i1, i2, i3, i4, i5, i6⟩ := Ok.kid h h0
  obtain ⟨k1, k2, _⟩ := h.kids n i1 i2 _ i4
  have a := (h.num _ k1 k2).2
  have b := cnt_kid ⟨i1, i2⟩ i4
  rw [if_neg (show ¬ s.findV n x = (-1 : Int) by omega)] at a
  omega
theorem Ok.links0 {s : FF} {d : Int → Nat} (h : s.Inv d) {n : Int} (h0 : s.isE n 0 = 0) : 0 ≤ s.links n := by
  obtain ⟨i1, i2, i3⟩ := isE_0 h0
  have a := (h.num _ i1 i2).2
  rw [if_neg (show ¬ n = (-1 : Int) by omega)] at a
  omega
theorem isE_20 {s : FF} {n k : Int} (h : s.isE n k = 0) : s.isE n 0 = 0 := by
  obtain ⟨i1, i2, i3, _⟩ := isE_k0 h
  unfold isE
  rw [if_neg (by omega), if_neg i3, if_neg (by omega)]
end FF
theorem NV.ints (g : NV) : ∀ i, i < 4 → ∃ v, g.arr[i]? = some (.int .i64 v) := fun i h => match i, h with
  | 0, _ => ⟨_, rfl⟩
  | 1, _ => ⟨_, rfl⟩
  | 2, _ => ⟨_, rfl⟩
  | 3, _ => ⟨_, rfl⟩
  | j + 4, h => absurd h (by omega)
theorem encNV_is {x y : NV} (h : y = x) : 0 + 4 ≤ 4 ∧ aggOf (encNV y) 0 4 = .agg x.arr := by subst h; exact encNV_agg y
theorem act_box (x : ActV) : ∀ i, i < 8 → cellsOf #[.string x.kind, .int .i64 x.a, .int .i64 x.b, .int .i64 x.c, .int .u64 x.key, .bool x.on, .string x.s, .string x.t] i = encAct x i := fun i hi => match i, hi with
  | 0, _ => rfl
  | 1, _ => rfl
  | 2, _ => rfl
  | 3, _ => rfl
  | 4, _ => rfl
  | 5, _ => rfl
  | 6, _ => rfl
  | 7, _ => rfl
  | k + 8, h => absurd h (by omega)

end Go.X
