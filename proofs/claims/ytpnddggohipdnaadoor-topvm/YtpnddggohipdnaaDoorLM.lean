import Derived.Test.YtpnddggohipdnaaDoorXLay
namespace Go.X
open Go

/-! ### acts -/
structure ActV where
  kind : ByteArray
  a : Int
  b : Int
  c : Int
  key : Int
  on : Bool
  s : ByteArray
  t : ByteArray
def actZero : Array Value := #[.string ⟨#[]⟩, .int .i64 0, .int .i64 0, .int .i64 0, .int .u64 0, .bool false, .string ⟨#[]⟩, .string ⟨#[]⟩]
def encAct (x : ActV) (i : Nat) : Value :=
  if i = 0 then .string (x.kind) else
  if i = 1 then .int .i64 (x.a) else
  if i = 2 then .int .i64 (x.b) else
  if i = 3 then .int .i64 (x.c) else
  if i = 4 then .int .u64 (x.key) else
  if i = 5 then .bool (x.on) else
  if i = 6 then .string (x.s) else
  if i = 7 then .string (x.t) else
  undef
theorem encAct.ld_Kind (x : ActV) : (0 + 0) < 8 ∧ encAct x (0 + 0) = .string (x.kind) := by
  refine ⟨by omega, ?_⟩
  unfold encAct
  rw [if_pos (by omega)]
theorem encAct.ld_A (x : ActV) : (0 + 1) < 8 ∧ encAct x (0 + 1) = .int .i64 (x.a) := by
  refine ⟨by omega, ?_⟩
  unfold encAct
  rw [if_neg (by omega)]
  rw [if_pos (by omega)]
theorem encAct.ld_B (x : ActV) : (0 + 2) < 8 ∧ encAct x (0 + 2) = .int .i64 (x.b) := by
  refine ⟨by omega, ?_⟩
  unfold encAct
  rw [if_neg (by omega)]
  rw [if_neg (by omega)]
  rw [if_pos (by omega)]
theorem encAct.ld_C (x : ActV) : (0 + 3) < 8 ∧ encAct x (0 + 3) = .int .i64 (x.c) := by
  refine ⟨by omega, ?_⟩
  unfold encAct
  rw [if_neg (by omega)]
  rw [if_neg (by omega)]
  rw [if_neg (by omega)]
  rw [if_pos (by omega)]
theorem encAct.ld_Key (x : ActV) : (0 + 4) < 8 ∧ encAct x (0 + 4) = .int .u64 (x.key) := by
  refine ⟨by omega, ?_⟩
  unfold encAct
  rw [if_neg (by omega)]
  rw [if_neg (by omega)]
  rw [if_neg (by omega)]
  rw [if_neg (by omega)]
  rw [if_pos (by omega)]
theorem encAct.ld_On (x : ActV) : (0 + 5) < 8 ∧ encAct x (0 + 5) = .bool (x.on) := by
  refine ⟨by omega, ?_⟩
  unfold encAct
  rw [if_neg (by omega)]
  rw [if_neg (by omega)]
  rw [if_neg (by omega)]
  rw [if_neg (by omega)]
  rw [if_neg (by omega)]
  rw [if_pos (by omega)]
theorem encAct.ld_S (x : ActV) : (0 + 6) < 8 ∧ encAct x (0 + 6) = .string (x.s) := by
  refine ⟨by omega, ?_⟩
  unfold encAct
  rw [if_neg (by omega)]
  rw [if_neg (by omega)]
  rw [if_neg (by omega)]
  rw [if_neg (by omega)]
  rw [if_neg (by omega)]
  rw [if_neg (by omega)]
  rw [if_pos (by omega)]
theorem encAct.ld_T (x : ActV) : (0 + 7) < 8 ∧ encAct x (0 + 7) = .string (x.t) := by
  refine ⟨by omega, ?_⟩
  unfold encAct
  rw [if_neg (by omega)]
  rw [if_neg (by omega)]
  rw [if_neg (by omega)]
  rw [if_neg (by omega)]
  rw [if_neg (by omega)]
  rw [if_neg (by omega)]
  rw [if_neg (by omega)]
  rw [if_pos (by omega)]

structure ActV.ok (x : ActV) : Prop where
  a : -9223372036854775808 ≤ x.a ∧ x.a ≤ 9223372036854775807
  b : -9223372036854775808 ≤ x.b ∧ x.b ≤ 9223372036854775807
  c : -9223372036854775808 ≤ x.c ∧ x.c ≤ 9223372036854775807
  key : 0 ≤ x.key ∧ x.key ≤ 18446744073709551615
  s : x.s.size ≤ 9223372036854775807
  t : x.t.size ≤ 9223372036854775807
  kind : x.kind.size ≤ 9223372036854775807

def encActs (A : Int → ActV) (i : Nat) : Value := encAct (A ((i / 8 : Nat) : Int)) (i % 8)
theorem acts_load (A : Int → ActV) (len : Nat) (z : Int) (q : 0 ≤ z ∧ z < len) : 0 + z.toNat * 8 + 8 ≤ 8 * len ∧ aggOf (encActs A) (0 + z.toNat * 8) 8 =
    .agg #[.string (A z).kind, .int .i64 (A z).a, .int .i64 (A z).b, .int .i64 (A z).c, .int .u64 (A z).key, .bool (A z).on, .string (A z).s, .string (A z).t] := by
  refine ⟨by omega, ?_⟩
  have h : ∀ j, j < 8 → encActs A (0 + z.toNat * 8 + j) = encAct (A z) j := fun j hj => by
    unfold encActs
    rw [show (((0 + z.toNat * 8 + j) / 8 : Nat) : Int) = z from by omega, show (0 + z.toNat * 8 + j) % 8 = j from by omega]
  simp only [aggOf, List.range, List.range.loop, List.map_cons, List.map_nil]
  rw [h 0 (by omega), h 1 (by omega), h 2 (by omega), h 3 (by omega), h 4 (by omega), h 5 (by omega), h 6 (by omega), h 7 (by omega)]
  rfl
theorem acts_store (x : ActV) : 0 + 8 ≤ 8 ∧ updL (cellsOf actZero) 0 [.string x.kind, .int .i64 x.a, .int .i64 x.b, .int .i64 x.c, .int .u64 x.key, .bool x.on, .string x.s, .string x.t] = encAct x := by
  refine ⟨by omega, ?_⟩
  funext i
  match i with
  | 0 => rfl
  | 1 => rfl
  | 2 => rfl
  | 3 => rfl
  | 4 => rfl
  | 5 => rfl
  | 6 => rfl
  | 7 => rfl
  | k + 8 =>
    have e1 : updL (cellsOf actZero) 0 [.string x.kind, .int .i64 x.a, .int .i64 x.b, .int .i64 x.c, .int .u64 x.key, .bool x.on, .string x.s, .string x.t] (k + 8) = undef := by
      simp [updL, upd, cellsOf, actZero]
    have e2 : encAct x (k + 8) = undef := by simp [encAct]
    rw [e1, e2]

theorem acts_at (A : Int → ActV) (z : Int) (q : 0 ≤ z) (j : Nat) (hj : j < 8) : encActs A (0 + z.toNat * 8 + j) = encAct (A z) j := by
  unfold encActs
  rw [show (((0 + z.toNat * 8 + j) / 8 : Nat) : Int) = z from by omega, show (0 + z.toNat * 8 + j) % 8 = j from by omega]
theorem acts_ld_Kind (A : Int → ActV) (len : Nat) (z : Int) (q : 0 ≤ z ∧ z < len) : 0 + z.toNat * 8 + 0 < 8 * len ∧ encActs A (0 + z.toNat * 8 + 0) = .string (A z).kind :=
  ⟨by omega, (acts_at A z q.1 0 (by omega)).trans (encAct.ld_Kind (A z)).2⟩
theorem acts_ld_A (A : Int → ActV) (len : Nat) (z : Int) (q : 0 ≤ z ∧ z < len) : 0 + z.toNat * 8 + 1 < 8 * len ∧ encActs A (0 + z.toNat * 8 + 1) = .int .i64 (A z).a :=
  ⟨by omega, (acts_at A z q.1 1 (by omega)).trans (encAct.ld_A (A z)).2⟩
theorem acts_ld_B (A : Int → ActV) (len : Nat) (z : Int) (q : 0 ≤ z ∧ z < len) : 0 + z.toNat * 8 + 2 < 8 * len ∧ encActs A (0 + z.toNat * 8 + 2) = .int .i64 (A z).b :=
  ⟨by omega, (acts_at A z q.1 2 (by omega)).trans (encAct.ld_B (A z)).2⟩
theorem acts_ld_C (A : Int → ActV) (len : Nat) (z : Int) (q : 0 ≤ z ∧ z < len) : 0 + z.toNat * 8 + 3 < 8 * len ∧ encActs A (0 + z.toNat * 8 + 3) = .int .i64 (A z).c :=
  ⟨by omega, (acts_at A z q.1 3 (by omega)).trans (encAct.ld_C (A z)).2⟩
theorem acts_ld_Key (A : Int → ActV) (len : Nat) (z : Int) (q : 0 ≤ z ∧ z < len) : 0 + z.toNat * 8 + 4 < 8 * len ∧ encActs A (0 + z.toNat * 8 + 4) = .int .u64 (A z).key :=
  ⟨by omega, (acts_at A z q.1 4 (by omega)).trans (encAct.ld_Key (A z)).2⟩
theorem acts_ld_On (A : Int → ActV) (len : Nat) (z : Int) (q : 0 ≤ z ∧ z < len) : 0 + z.toNat * 8 + 5 < 8 * len ∧ encActs A (0 + z.toNat * 8 + 5) = .bool (A z).on :=
  ⟨by omega, (acts_at A z q.1 5 (by omega)).trans (encAct.ld_On (A z)).2⟩
theorem acts_ld_S (A : Int → ActV) (len : Nat) (z : Int) (q : 0 ≤ z ∧ z < len) : 0 + z.toNat * 8 + 6 < 8 * len ∧ encActs A (0 + z.toNat * 8 + 6) = .string (A z).s :=
  ⟨by omega, (acts_at A z q.1 6 (by omega)).trans (encAct.ld_S (A z)).2⟩
theorem acts_ld_T (A : Int → ActV) (len : Nat) (z : Int) (q : 0 ≤ z ∧ z < len) : 0 + z.toNat * 8 + 7 < 8 * len ∧ encActs A (0 + z.toNat * 8 + 7) = .string (A z).t :=
  ⟨by omega, (acts_at A z q.1 7 (by omega)).trans (encAct.ld_T (A z)).2⟩

end Go.X
