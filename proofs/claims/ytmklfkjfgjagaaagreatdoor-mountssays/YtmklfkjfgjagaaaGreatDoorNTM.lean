import Derived.Test.YtmklfkjfgjagaaaGreatDoorXLay
import Derived.Test.YtmklfkjfgjagaaaGreatDoorNRO
namespace Go.X
open Go

/-! ### acts -/
structure ActV where
  kind : ByteArray
  a : Int
  b : Int
  c : Int
  key : Int
  on : Bool
  s : ByteArray
  t : ByteArray
def actZero : Array Value := #[.string ⟨#[]⟩, .int .i64 0, .int .i64 0, .int .i64 0, .int .u64 0, .bool false, .string ⟨#[]⟩, .string ⟨#[]⟩]
def encAct (x : ActV) (i : Nat) : Value :=
  if i = 0 then .string (x.kind) else
  if i = 1 then .int .i64 (x.a) else
  if i = 2 then .int .i64 (x.b) else
  if i = 3 then .int .i64 (x.c) else
  if i = 4 then .int .u64 (x.key) else
  if i = 5 then .bool (x.on) else
  if i = 6 then .string (x.s) else
  if i = 7 then .string (x.t) else
  undef
theorem encAct.ld_Kind (x : ActV) : (0 + 0) < 8 ∧ encAct x (0 + 0) = .string (x.kind) := by
  refine ⟨by omega, ?_⟩
  unfold encAct
  rw [if_pos (by omega)]
theorem encAct.ld_A (x : ActV) : (0 + 1) < 8 ∧ encAct x (0 + 1) = .int .i64 (x.a) := by
  refine ⟨by omega, ?_⟩
  unfold encAct
  rw [if_neg (by omega)]
  rw [if_pos (by omega)]
theorem encAct.ld_B (x : ActV) : (0 + 2) < 8 ∧ encAct x (0 + 2) = .int .i64 (x.b) := by
  refine ⟨by omega, ?_⟩
  unfold encAct
  rw [if_neg (by omega)]
  rw [if_neg (by omega)]
  rw [if_pos (by omega)]
theorem encAct.ld_C (x : ActV) : (0 + 3) < 8 ∧ encAct x (0 + 3) = .int .i64 (x.c) := by
  refine ⟨by omega, ?_⟩
  unfold encAct
  rw [if_neg (by omega)]
  rw [if_neg (by omega)]
  rw [if_neg (by omega)]
  rw [if_pos (by omega)]
theorem encAct.ld_S (x : ActV) : (0 + 6) < 8 ∧ encAct x (0 + 6) = .string (x.s) := by
  refine ⟨by omega, ?_⟩
  unfold encAct
  rw [if_neg (by omega)]
  rw [if_neg (by omega)]
  rw [if_neg (by omega)]
  rw [if_neg (by omega)]
  rw [if_neg (by omega)]
  rw [if_neg (by omega)]
  rw [if_pos (by omega)]
theorem encAct.ld_T (x : ActV) : (0 + 7) < 8 ∧ encAct x (0 + 7) = .string (x.t) := by
  refine ⟨by omega, ?_⟩
  unfold encAct
  rw [if_neg (by omega)]
  rw [if_neg (by omega)]
  rw [if_neg (by omega)]
  rw [if_neg (by omega)]
  rw [if_neg (by omega)]
  rw [if_neg (by omega)]
  rw [if_neg (by omega)]
  rw [if_pos (by omega)]

structure ActV.ok (x : ActV) : Prop where
  a : -9223372036854775808 ≤ x.a ∧ x.a ≤ 9223372036854775807
  b : -9223372036854775808 ≤ x.b ∧ x.b ≤ 9223372036854775807
  c : -9223372036854775808 ≤ x.c ∧ x.c ≤ 9223372036854775807
  key : 0 ≤ x.key ∧ x.key ≤ 18446744073709551615
  s : x.s.size ≤ 9223372036854775807
  t : x.t.size ≤ 9223372036854775807
  kind : x.kind.size ≤ 9223372036854775807

def encActs (A : Int → ActV) (i : Nat) : Value := encAct (A ((i / 8 : Nat) : Int)) (i % 8)
theorem acts_load (A : Int → ActV) (len : Nat) (z : Int) (q : 0 ≤ z ∧ z < len) : 0 + z.toNat * 8 + 8 ≤ 8 * len ∧ aggOf (encActs A) (0 + z.toNat * 8) 8 =
    .agg #[.string (A z).kind, .int .i64 (A z).a, .int .i64 (A z).b, .int .i64 (A z).c, .int .u64 (A z).key, .bool (A z).on, .string (A z).s, .string (A z).t] := by
  refine ⟨by omega, ?_⟩
  have h : ∀ j, j < 8 → encActs A (0 + z.toNat * 8 + j) = encAct (A z) j := fun j hj => by
    unfold encActs
    rw [show (((0 + z.toNat * 8 + j) / 8 : Nat) : Int) = z from by omega, show (0 + z.toNat * 8 + j) % 8 = j from by omega]
  simp only [aggOf, List.range, List.range.loop, List.map_cons, List.map_nil]
  rw [h 0 (by omega), h 1 (by omega), h 2 (by omega), h 3 (by omega), h 4 (by omega), h 5 (by omega), h 6 (by omega), h 7 (by omega)]
  rfl
theorem acts_store (x : ActV) : 0 + 8 ≤ 8 ∧ updL (cellsOf actZero) 0 [.string x.kind, .int .i64 x.a, .int .i64 x.b, .int .i64 x.c, .int .u64 x.key, .bool x.on, .string x.s, .string x.t] = encAct x := by
  refine ⟨by omega, ?_⟩
  funext i
  match i with
  | 0 => rfl
  | 1 => rfl
  | 2 => rfl
  | 3 => rfl
  | 4 => rfl
  | 5 => rfl
  | 6 => rfl
  | 7 => rfl
  | k + 8 =>
    have e1 : updL (cellsOf actZero) 0 [.string x.kind, .int .i64 x.a, .int .i64 x.b, .int .i64 x.c, .int .u64 x.key, .bool x.on, .string x.s, .string x.t] (k + 8) = undef := by
      simp [updL, upd, cellsOf, actZero]
    have e2 : encAct x (k + 8) = undef := by simp [encAct]
    rw [e1, e2]

theorem acts_at (A : Int → ActV) (z : Int) (q : 0 ≤ z) (j : Nat) (hj : j < 8) : encActs A (0 + z.toNat * 8 + j) = encAct (A z) j := by
  unfold encActs
  rw [show (((0 + z.toNat * 8 + j) / 8 : Nat) : Int) = z from by omega, show (0 + z.toNat * 8 + j) % 8 = j from by omega]
theorem acts_ld_S (A : Int → ActV) (len : Nat) (z : Int) (q : 0 ≤ z ∧ z < len) : 0 + z.toNat * 8 + 6 < 8 * len ∧ encActs A (0 + z.toNat * 8 + 6) = .string (A z).s :=
  ⟨by omega, (acts_at A z q.1 6 (by omega)).trans (encAct.ld_S (A z)).2⟩
theorem acts_ld_T (A : Int → ActV) (len : Nat) (z : Int) (q : 0 ≤ z ∧ z < len) : 0 + z.toNat * 8 + 7 < 8 * len ∧ encActs A (0 + z.toNat * 8 + 7) = .string (A z).t :=
  ⟨by omega, (acts_at A z q.1 7 (by omega)).trans (encAct.ld_T (A z)).2⟩

end Go.X

namespace Go.X
open Go
/-! ### what the statement needs -/
namespace FF
theorem plantE_nn (s : FF) : 0 ≤ s.plantE := by unfold plantE; split <;> (try split) <;> omega
theorem makeE_nn (s : FF) (n : Int) (x : ByteArray) (k : Int) : 0 ≤ s.makeE n x k := by
  have := roomE_nn s n x
  unfold makeE; split
  · omega
  · split
    · exact this
    · split <;> omega
theorem linkE_nn (s : FF) (k n : Int) (x : ByteArray) : 0 ≤ s.linkE k n x := by
  have := roomE_nn s n x
  have h2 := isE_nn s k 1
  unfold linkE; split
  · exact h2
  · split
    · exact this
    · split <;> omega
theorem removeE_nn (s : FF) (n : Int) (x : ByteArray) : 0 ≤ s.removeE n x := by
  have := findE_nn s n x
  unfold removeE; split
  · exact this
  · split <;> omega
theorem moveE_nn (d : Int → Nat) (s : FF) (n : Int) (x : ByteArray) (to : Int) (y : ByteArray) : 0 ≤ s.moveE d n x to y := by
  have h1 := findE_nn s n x
  have h2 := isE_nn s to 2
  have h3 := roomE_nn (s.cutF n x) to y
  have h4 : 0 ≤ s.moveE0 d n x to := by
    unfold moveE0; split
    · exact h1
    · split
      · exact h2
      · split
        · omega
        · split <;> omega
  unfold moveE; split
  · exact h4
  · exact h3
theorem letE_nn (s : FF) (n : Int) : 0 ≤ s.letE n := by
  have := isE_nn s n 0
  unfold letE; split
  · exact this
  · split <;> omega
theorem readE_nn (s : FF) (n a m : Int) : 0 ≤ s.readE n a m := by
  have := isE_nn s n 1
  unfold readE; split
  · exact this
  · split <;> omega
theorem writeE_nn (s : FF) (n a : Int) (x : ByteArray) : 0 ≤ s.writeE n a x := by
  have := isE_nn s n 1
  unfold writeE; split
  · exact this
  · split
    · omega
    · split <;> omega
theorem clipE_nn (s : FF) (n z : Int) : 0 ≤ s.clipE n z := by
  have := isE_nn s n 1
  unfold clipE; split
  · exact this
  · split <;> omega
theorem rootE_nn (s : FF) (t : Int) : 0 ≤ s.rootE t := by unfold rootE; split <;> (try split) <;> omega
theorem gone_roots (s : FF) (n : Int) : (s.goneF n).roots = s.roots := by unfold goneF; split <;> rfl
theorem make_roots (s : FF) (n : Int) (x : ByteArray) (k : Int) : (s.make n x k).roots = s.roots := by unfold make; split <;> rfl
theorem link_roots (s : FF) (k n : Int) (x : ByteArray) : (s.link k n x).roots = s.roots := by unfold link; split <;> rfl
theorem remove_roots (s : FF) (n : Int) (x : ByteArray) : (s.remove n x).roots = s.roots := by
  unfold remove; split
  · rw [gone_roots]; rfl
  · rfl
theorem move_roots (d : Int → Nat) (s : FF) (n : Int) (x : ByteArray) (to : Int) (y : ByteArray) : (s.move d n x to y).roots = s.roots := by
  unfold move; split
  · rfl
  · split
    · rfl
    · split <;> rfl
theorem hold_roots (s : FF) (n : Int) : (s.hold n).roots = s.roots := by unfold hold; split <;> rfl
theorem letF_roots (s : FF) (n : Int) : (s.letF n).roots = s.roots := by
  unfold letF; split
  · rw [gone_roots]
  · rfl
theorem write_roots (s : FF) (n a : Int) (x : ByteArray) : (s.write n a x).roots = s.roots := by unfold write; split <;> rfl
theorem clip_roots (s : FF) (n z : Int) : (s.clip n z).roots = s.roots := by unfold clip; split <;> rfl
theorem ofV_eq {s : FF} {d : Int → Nat} (h : s.Inv d) (n : Int) : s.ofR n = s.ofV n := by
  unfold ofR ofV
  by_cases c : s.isE n 0 = 0
  · rw [if_pos c, if_pos c]
    obtain ⟨i1, i2, i3⟩ := isE_0 c
    obtain ⟨_, r2, _, _⟩ := h.rise n i1 i2
    obtain ⟨_, d2⟩ := h.data n i1 i2
    by_cases q : s.kind n = 2
    · rw [if_pos q, d2 (by omega)]
      congr 1
      rw [r2]
      show _ = max (0 : Int) _
      omega
    · obtain ⟨k0, n0⟩ := h.nokids i1 i2 q
      rw [if_neg q, k0]
      congr 1
      show _ = max _ (0 : Int)
      omega
  · rw [if_neg c, if_neg c]
theorem Ok.links1 {s : FF} {d : Int → Nat} (h : s.Inv d) {n : Int} {x : ByteArray} (h0 : s.findE n x = 0) : 1 ≤ s.links (s.findV n x) := by
  obtain ⟨i1, i2, i3, i4, i5, i6⟩ := Ok.kid h h0
  obtain ⟨k1, k2, _⟩ := h.kids n i1 i2 _ i4
  have a := (h.num _ k1 k2).2
  have b := cnt_kid ⟨i1, i2⟩ i4
  rw [if_neg (show ¬ s.findV n x = (-1 : Int) by omega)] at a
  omega
theorem Ok.links0 {s : FF} {d : Int → Nat} (h : s.Inv d) {n : Int} (h0 : s.isE n 0 = 0) : 0 ≤ s.links n := by
  obtain ⟨i1, i2, i3⟩ := isE_0 h0
  have a := (h.num _ i1 i2).2
  rw [if_neg (show ¬ n = (-1 : Int) by omega)] at a
  omega
theorem isE_20 {s : FF} {n k : Int} (h : s.isE n k = 0) : s.isE n 0 = 0 := by
  obtain ⟨i1, i2, i3, _⟩ := isE_k0 h
  unfold isE
  rw [if_neg (by omega), if_neg i3, if_neg (by omega)]
end FF
theorem NV.ints (g : NV) : ∀ i, i < 4 → ∃ v, g.arr[i]? = some (.int .i64 v) := fun i h => match i, h with
  | 0, _ => ⟨_, rfl⟩
  | 1, _ => ⟨_, rfl⟩
  | 2, _ => ⟨_, rfl⟩
  | 3, _ => ⟨_, rfl⟩
  | j + 4, h => absurd h (by omega)
theorem encNV_is {x y : NV} (h : y = x) : 0 + 4 ≤ 4 ∧ aggOf (encNV y) 0 4 = .agg x.arr := by subst h; exact encNV_agg y
theorem act_box (x : ActV) : ∀ i, i < 8 → cellsOf #[.string x.kind, .int .i64 x.a, .int .i64 x.b, .int .i64 x.c, .int .u64 x.key, .bool x.on, .string x.s, .string x.t] i = encAct x i := fun i hi => match i, hi with
  | 0, _ => rfl
  | 1, _ => rfl
  | 2, _ => rfl
  | 3, _ => rfl
  | 4, _ => rfl
  | 5, _ => rfl
  | 6, _ => rfl
  | 7, _ => rfl
  | k + 8, h => absurd h (by omega)

end Go.X

namespace Go.X
open Go
/-! ### what is counted -/
theorem pig : ∀ (N : Nat) (L : List Int), L.Nodup → (∀ y ∈ L, 0 ≤ y ∧ y < (N : Int)) → L.length ≤ N
  | 0, L, _, h => by
    cases L with
    | nil => exact Nat.le_refl _
    | cons a r => have := h a (by simp); omega
  | N + 1, L, hn, h => by
    by_cases c : (N : Int) ∈ L
    · have h1 := pig N (L.erase (N : Int)) (hn.erase _) (fun y hy => by
        have h2 := hn.mem_erase_iff.1 hy
        have h3 := h y h2.2
        have h4 := h2.1
        omega)
      have h2 := List.length_erase_of_mem c
      omega
    · have := pig N L hn (fun y hy => by
        have h3 := h y hy
        have h4 : y ≠ N := fun e => c (e ▸ hy)
        omega)
      omega
namespace FF
/-- names[k] when the first t roots are told -/
def rootW (s : FF) (t : Int) (k : Int) : Int := ((s.roots.take t.toNat).count k : Int)
/-- and when those of the first n nodes are -/
def kidW (s : FF) (n : Int) (k : Int) : Int := (s.roots.count k : Int) + (sumK s.kids k n.toNat : Int)
def kidW2 (s : FF) (n i : Int) (k : Int) : Int := s.kidW n k + (((s.kids n).take i.toNat).count k : Int)
theorem ofV_ok {s : FF} {n : Int} (h : s.isE n 0 = 0) : (s.ofV n).kind = s.kind n ∧ (s.ofV n).links = s.links n ∧ (s.ofV n).held = s.held n := by
  unfold ofV; rw [if_pos h]; exact ⟨rfl, rfl, rfl⟩
/-- on the way up no node is met twice -/
structure Way (s : FF) (d : Int → Nat) (a k : Int) : Prop where
  nn : 0 ≤ k
  rng : 0 ≤ a ∧ a < 40
  dir : s.kind a = 2
  list : ∃ L : List Int, (L.length : Int) = k ∧ L.Nodup ∧ ∀ z ∈ L, (0 ≤ z ∧ z < 40) ∧ d a < d z
theorem Way.start {s : FF} {d : Int → Nat} {n : Int} (h1 : 0 ≤ n) (h2 : n < 40) (h : s.kind n = 2) : s.Way d n 0 := ⟨by omega, ⟨h1, h2⟩, h, [], rfl, List.nodup_nil, fun z hz => by cases hz⟩
theorem Way.step {s : FF} {d : Int → Nat} {a k : Int} (h : s.Way d a k) : ((a :: h.list.choose).length : Int) = k + 1 ∧ (a :: h.list.choose).Nodup ∧ ∀ z ∈ a :: h.list.choose, 0 ≤ z ∧ z < 40 := by
  obtain ⟨l1, l2, l3⟩ := h.list.choose_spec
  refine ⟨by rw [List.length_cons]; omega, List.nodup_cons.2 ⟨fun q => ?_, l2⟩, fun z hz => ?_⟩
  · have := (l3 a q).2; omega
  · rcases List.mem_cons.1 hz with rfl | hz
    · exact h.rng
    · exact (l3 z hz).1
theorem Way.short {s : FF} {d : Int → Nat} {a k : Int} (h : s.Way d a k) : k < 40 := by
  obtain ⟨l1, l2, l3⟩ := h.step
  have := pig 40 _ l2 l3
  omega
theorem Way.next {s : FF} {d : Int → Nat} {a k : Int} (hI : s.Inv d) (h : s.Way d a k) (hu : s.up a ≠ a) : s.Way d (s.up a) (k + 1) ∧ d (s.up a) < d a := by
  have hk := h.nn
  rcases hI.up a h.rng.1 h.rng.2 h.dir (by have := h.rng; omega) (by have := h.rng; omega) with g | ⟨g1, g2, g3, g4, g5⟩
  · exact absurd g.2 hu
  · obtain ⟨l1, l2, l3⟩ := h.step
    refine ⟨⟨by omega, ⟨g1, g2⟩, g3, a :: h.list.choose, l1, l2, fun z hz => ⟨l3 z hz, ?_⟩⟩, g5⟩
    rcases List.mem_cons.1 hz with rfl | hz
    · exact g5
    · have := (h.list.choose_spec.2.2 z hz).2; omega
end FF
end Go.X
