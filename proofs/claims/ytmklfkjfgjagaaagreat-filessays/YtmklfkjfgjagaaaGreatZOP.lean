import Derived.Test.YtmklfkjfgjagaaaGreatXLay
import Derived.Test.YtmklfkjfgjagaaaGreatXVals
namespace Go.X
open Go

/-! ### pipes: the state of both programs -/
structure PS where
  b : Int → ByteArray
  e : Int → Int → Int
structure PS.Inv (K : Int) (s : PS) : Prop where
  e0 : ∀ n, 0 ≤ s.e n 0 ∧ s.e n 0 ≤ K
  e1 : ∀ n, 0 ≤ s.e n 1 ∧ s.e n 1 ≤ K
  cl : ∀ n, s.e n 0 + s.e n 1 = 0 → s.b n = ⟨#[]⟩
  len : ∀ n, (s.b n).size ≤ 12
theorem PS.Inv.mono {K K' : Int} {s : PS} (h : s.Inv K) (hk : K ≤ K') : s.Inv K' :=
  ⟨fun n => ⟨(h.e0 n).1, by have := (h.e0 n).2; omega⟩, fun n => ⟨(h.e1 n).1, by have := (h.e1 n).2; omega⟩, h.cl, h.len⟩
def PS.init : PS := ⟨fun _ => ⟨#[]⟩, fun _ _ => 0⟩
theorem PS.Inv.init : PS.init.Inv 0 := ⟨fun _ => by simp [PS.init], fun _ => by simp [PS.init], fun _ _ => rfl, fun _ => by simp [PS.init, ByteArray.size]⟩
def PS.is (s : PS) (n : Int) : Int := if n < 0 ∨ 8 ≤ n then 1 else if s.e n 0 + s.e n 1 = 0 then 2 else 0
def PS.make (s : PS) : Int × Int × PS := match firstN (fun k => s.e k 0 + s.e k 1 == 0) 8 with
  | some k => (k, 0, { s with e := fset2 (fset2 s.e k 0 1) k 1 1 })
  | none => (0, 4, s)
def sel (w : Bool) : Int := if w then 1 else 0
def PS.turn (s : PS) (n : Int) (w : Bool) (d : Int) : Int × PS :=
  if s.is n ≠ 0 then (s.is n, s) else if s.e n (sel w) = 0 then (8, s) else
    (0, { b := if s.e n 0 + s.e n 1 + d = 0 then fset s.b n ⟨#[]⟩ else s.b, e := fset2 s.e n (sel w) (s.e n (sel w) + d) })
def PS.read (s : PS) (n m : Int) : ByteArray × Int × PS :=
  if s.is n ≠ 0 then (⟨#[]⟩, s.is n, s) else if s.e n 0 = 0 then (⟨#[]⟩, 8, s) else if m < 0 then (⟨#[]⟩, 1, s) else
  if s.b n = ⟨#[]⟩ ∧ s.e n 1 > 0 ∧ m > 0 then (⟨#[]⟩, 13, s) else
    ((s.b n).extract 0 (min m (s.b n).size).toNat, 0, { s with b := fset s.b n ((s.b n).extract (min m (s.b n).size).toNat (s.b n).size) })
def PS.write (s : PS) (n : Int) (t : ByteArray) : Int × Int × PS :=
  if s.is n ≠ 0 then (0, s.is n, s) else if s.e n 1 = 0 then (0, 8, s) else if s.e n 0 = 0 then (0, 12, s) else
  if min (t.size : Int) (12 - (s.b n).size) = 0 ∧ t.size > 0 then (0, 13, s) else
    (min (t.size : Int) (12 - (s.b n).size), 0, { s with b := fset s.b n (s.b n ++ t.extract 0 (min (t.size : Int) (12 - (s.b n).size)).toNat) })
def cntN (f : Int → Bool) : Nat → Int
  | 0 => 0
  | n + 1 => cntN f n + if f n then 1 else 0
theorem cntN_le (f : Int → Bool) (n : Nat) : 0 ≤ cntN f n ∧ cntN f n ≤ n := by
  induction n with
  | zero => simp [cntN]
  | succ n ih => simp only [cntN]; split <;> omega
def PS.open (s : PS) : Int := cntN (fun i => decide (s.e i 0 + s.e i 1 > 0)) 8
def encR (s : PS) (i : Nat) : Value :=
  if i % 1 = 0 ∧ i / 1 < 8 then .string (s.b ((i / 1 : Nat) : Int)) else
  if 8 ≤ i ∧ (i - 8) / 2 < 8 ∧ ((i - 8) % 2) % 1 = 0 ∧ ((i - 8) % 2) / 1 < 2 then .int .i64 (s.e (((i - 8) / 2 : Nat) : Int) ((((i - 8) % 2) / 1 : Nat) : Int)) else
  undef
theorem encR.ld_B_I (s : PS) (z0 : Int) (q0 : 0 ≤ z0 ∧ z0 < 8) : ((0 + 0) + z0.toNat * 1) < 24 ∧ encR s ((0 + 0) + z0.toNat * 1) = .string (s.b z0) := by
  refine ⟨by omega, ?_⟩
  unfold encR
  rw [if_pos (by omega)]
  rw [show ((((0 + 0) + z0.toNat * 1) / 1 : Nat) : Int) = z0 from by omega]
theorem encR.st_B_I (s : PS) (z0 : Int) (q0 : 0 ≤ z0 ∧ z0 < 8) (v : ByteArray) : ((0 + 0) + z0.toNat * 1) < 24 ∧ upd (encR s) ((0 + 0) + z0.toNat * 1) (.string (v)) = encR ({ s with b := fset s.b z0 v }) := by
  refine ⟨by omega, ?_⟩
  funext j
  unfold upd
  by_cases hj : j = ((0 + 0) + z0.toNat * 1)
  · rw [if_pos hj, hj, (encR.ld_B_I ({ s with b := fset s.b z0 v }) z0 q0).2]
    all_goals simp [fset, fset2]
  · rw [if_neg hj]
    unfold encR
    refine ite_both (fun c0 => ?_) (fun c0 => ?_)
    · have hne : ¬ (((j / 1 : Nat) : Int) = z0) := by omega
      simp only [fset, fset2, hne, if_false, and_true, true_and]
    refine ite_both (fun c1 => ?_) (fun c1 => ?_)
    · first | rfl | simp [fset, fset2]
    rfl
theorem encR.ld_Ends_I_I (s : PS) (z0 : Int) (z1 : Int) (q0 : 0 ≤ z0 ∧ z0 < 8) (q1 : 0 ≤ z1 ∧ z1 < 2) : (((0 + 8) + z0.toNat * 2) + z1.toNat * 1) < 24 ∧ encR s (((0 + 8) + z0.toNat * 2) + z1.toNat * 1) = .int .i64 (s.e z0 z1) := by
  refine ⟨by omega, ?_⟩
  unfold encR
  rw [if_neg (by omega)]
  rw [if_pos (by omega)]
  rw [show ((((((0 + 8) + z0.toNat * 2) + z1.toNat * 1) - 8) / 2 : Nat) : Int) = z0 from by omega]
  rw [show (((((((0 + 8) + z0.toNat * 2) + z1.toNat * 1) - 8) % 2) / 1 : Nat) : Int) = z1 from by omega]
theorem encR.st_Ends_I_I (s : PS) (z0 : Int) (z1 : Int) (q0 : 0 ≤ z0 ∧ z0 < 8) (q1 : 0 ≤ z1 ∧ z1 < 2) (v : Int) : (((0 + 8) + z0.toNat * 2) + z1.toNat * 1) < 24 ∧ upd (encR s) (((0 + 8) + z0.toNat * 2) + z1.toNat * 1) (.int .i64 (v)) = encR ({ s with e := fset2 s.e z0 z1 v }) := by
  refine ⟨by omega, ?_⟩
  funext j
  unfold upd
  by_cases hj : j = (((0 + 8) + z0.toNat * 2) + z1.toNat * 1)
  · rw [if_pos hj, hj, (encR.ld_Ends_I_I ({ s with e := fset2 s.e z0 z1 v }) z0 z1 q0 q1).2]
    all_goals simp [fset, fset2]
  · rw [if_neg hj]
    unfold encR
    refine ite_both (fun c0 => ?_) (fun c0 => ?_)
    · first | rfl | simp [fset, fset2]
    refine ite_both (fun c1 => ?_) (fun c1 => ?_)
    · have hne : ¬ ((((j - 8) / 2 : Nat) : Int) = z0 ∧ ((((j - 8) % 2) / 1 : Nat) : Int) = z1) := by omega
      simp only [fset, fset2, hne, if_false, and_true, true_and]
    rfl

def encP (s : PS) (i : Nat) : Value :=
  if i % 3 = 0 ∧ i / 3 < 8 then .string (s.b ((i / 3 : Nat) : Int)) else
  if 1 ≤ i ∧ (i - 1) % 3 = 0 ∧ (i - 1) / 3 < 8 then .int .i64 (s.e (((i - 1) / 3 : Nat) : Int) 0) else
  if 2 ≤ i ∧ (i - 2) % 3 = 0 ∧ (i - 2) / 3 < 8 then .int .i64 (s.e (((i - 2) / 3 : Nat) : Int) 1) else
  undef
theorem encP.ld_p_I_b (s : PS) (z0 : Int) (q0 : 0 ≤ z0 ∧ z0 < 8) : (((0 + 0) + z0.toNat * 3) + 0) < 24 ∧ encP s (((0 + 0) + z0.toNat * 3) + 0) = .string (s.b z0) := by
  refine ⟨by omega, ?_⟩
  unfold encP
  rw [if_pos (by omega)]
  rw [show (((((0 + 0) + z0.toNat * 3) + 0) / 3 : Nat) : Int) = z0 from by omega]
theorem encP.st_p_I_b (s : PS) (z0 : Int) (q0 : 0 ≤ z0 ∧ z0 < 8) (v : ByteArray) : (((0 + 0) + z0.toNat * 3) + 0) < 24 ∧ upd (encP s) (((0 + 0) + z0.toNat * 3) + 0) (.string (v)) = encP ({ s with b := fset s.b z0 v }) := by
  refine ⟨by omega, ?_⟩
  funext j
  unfold upd
  by_cases hj : j = (((0 + 0) + z0.toNat * 3) + 0)
  · rw [if_pos hj, hj, (encP.ld_p_I_b ({ s with b := fset s.b z0 v }) z0 q0).2]
    all_goals simp [fset, fset2]
  · rw [if_neg hj]
    unfold encP
    refine ite_both (fun c0 => ?_) (fun c0 => ?_)
    · have hne : ¬ (((j / 3 : Nat) : Int) = z0) := by omega
      simp only [fset, fset2, hne, if_false, and_true, true_and]
    refine ite_both (fun c1 => ?_) (fun c1 => ?_)
    · first | rfl | simp [fset, fset2]
    refine ite_both (fun c2 => ?_) (fun c2 => ?_)
    · first | rfl | simp [fset, fset2]
    rfl
theorem encP.ld_p_I_reads (s : PS) (z0 : Int) (q0 : 0 ≤ z0 ∧ z0 < 8) : (((0 + 0) + z0.toNat * 3) + 1) < 24 ∧ encP s (((0 + 0) + z0.toNat * 3) + 1) = .int .i64 (s.e z0 0) := by
  refine ⟨by omega, ?_⟩
  unfold encP
  rw [if_neg (by omega)]
  rw [if_pos (by omega)]
  rw [show ((((((0 + 0) + z0.toNat * 3) + 1) - 1) / 3 : Nat) : Int) = z0 from by omega]
theorem encP.st_p_I_reads (s : PS) (z0 : Int) (q0 : 0 ≤ z0 ∧ z0 < 8) (v : Int) : (((0 + 0) + z0.toNat * 3) + 1) < 24 ∧ upd (encP s) (((0 + 0) + z0.toNat * 3) + 1) (.int .i64 (v)) = encP ({ s with e := fset2 s.e z0 0 v }) := by
  refine ⟨by omega, ?_⟩
  funext j
  unfold upd
  by_cases hj : j = (((0 + 0) + z0.toNat * 3) + 1)
  · rw [if_pos hj, hj, (encP.ld_p_I_reads ({ s with e := fset2 s.e z0 0 v }) z0 q0).2]
    all_goals simp [fset, fset2]
  · rw [if_neg hj]
    unfold encP
    refine ite_both (fun c0 => ?_) (fun c0 => ?_)
    · first | rfl | simp [fset, fset2]
    refine ite_both (fun c1 => ?_) (fun c1 => ?_)
    · have hne : ¬ ((((j - 1) / 3 : Nat) : Int) = z0) := by omega
      simp only [fset, fset2, hne, if_false, and_true, true_and]
    refine ite_both (fun c2 => ?_) (fun c2 => ?_)
    · first | rfl | simp [fset, fset2]
    rfl
theorem encP.ld_p_I_writes (s : PS) (z0 : Int) (q0 : 0 ≤ z0 ∧ z0 < 8) : (((0 + 0) + z0.toNat * 3) + 2) < 24 ∧ encP s (((0 + 0) + z0.toNat * 3) + 2) = .int .i64 (s.e z0 1) := by
  refine ⟨by omega, ?_⟩
  unfold encP
  rw [if_neg (by omega)]
  rw [if_neg (by omega)]
  rw [if_pos (by omega)]
  rw [show ((((((0 + 0) + z0.toNat * 3) + 2) - 2) / 3 : Nat) : Int) = z0 from by omega]
theorem encP.st_p_I_writes (s : PS) (z0 : Int) (q0 : 0 ≤ z0 ∧ z0 < 8) (v : Int) : (((0 + 0) + z0.toNat * 3) + 2) < 24 ∧ upd (encP s) (((0 + 0) + z0.toNat * 3) + 2) (.int .i64 (v)) = encP ({ s with e := fset2 s.e z0 1 v }) := by
  refine ⟨by omega, ?_⟩
  funext j
  unfold upd
  by_cases hj : j = (((0 + 0) + z0.toNat * 3) + 2)
  · rw [if_pos hj, hj, (encP.ld_p_I_writes ({ s with e := fset2 s.e z0 1 v }) z0 q0).2]
    all_goals simp [fset, fset2]
  · rw [if_neg hj]
    unfold encP
    refine ite_both (fun c0 => ?_) (fun c0 => ?_)
    · first | rfl | simp [fset, fset2]
    refine ite_both (fun c1 => ?_) (fun c1 => ?_)
    · first | rfl | simp [fset, fset2]
    refine ite_both (fun c2 => ?_) (fun c2 => ?_)
    · have hne : ¬ ((((j - 2) / 3 : Nat) : Int) = z0) := by omega
      simp only [fset, fset2, hne, if_false, and_true, true_and]
    rfl

theorem PS.turn_err {s : PS} {n d : Int} {w : Bool} (h : s.is n ≠ 0) : s.turn n w d = (s.is n, s) := by simp [PS.turn, h]
theorem PS.turn_state {s : PS} {n d : Int} {w : Bool} (h : s.is n = 0) (he : s.e n (sel w) = 0) : s.turn n w d = (8, s) := by simp [PS.turn, h, he]
theorem PS.turn_ok {s : PS} {n d : Int} {w : Bool} (h : s.is n = 0) (he : ¬ s.e n (sel w) = 0) (hz : ¬ s.e n 0 + s.e n 1 + d = 0) : s.turn n w d = (0, { s with e := fset2 s.e n (sel w) (s.e n (sel w) + d) }) := by
  simp [PS.turn, h, he, hz]
theorem PS.turn_zero {s : PS} {n d : Int} {w : Bool} (h : s.is n = 0) (he : ¬ s.e n (sel w) = 0) (hz : s.e n 0 + s.e n 1 + d = 0) : s.turn n w d = (0, { b := fset s.b n ⟨#[]⟩, e := fset2 s.e n (sel w) (s.e n (sel w) + d) }) := by
  simp [PS.turn, h, he, hz]
theorem PS.is_cases (s : PS) (n : Int) : (s.is n = 0 ∧ 0 ≤ n ∧ n < 8 ∧ ¬ s.e n 0 + s.e n 1 = 0) ∨ (s.is n = 1 ∧ (n < 0 ∨ 8 ≤ n)) ∨ (s.is n = 2 ∧ 0 ≤ n ∧ n < 8 ∧ s.e n 0 + s.e n 1 = 0) := by
  unfold PS.is; split
  · exact .inr (.inl ⟨rfl, by assumption⟩)
  · split
    · exact .inr (.inr ⟨rfl, by omega, by omega, by assumption⟩)
    · exact .inl ⟨rfl, by omega, by omega, by assumption⟩

theorem drop_eq {g : Int → Int → Int} {n : Int} (h0 : g n 0 = 0) (h1 : g n 1 = 0) : fset2 (fset2 g n 0 0) n 1 0 = g := by
  rw [fset2_same g h0, fset2_same g h1]
theorem PS.read_err {s : PS} {n m : Int} (h : s.is n ≠ 0) : s.read n m = (⟨#[]⟩, s.is n, s) := by simp [PS.read, h]
theorem PS.read_state {s : PS} {n m : Int} (h : s.is n = 0) (h0 : s.e n 0 = 0) : s.read n m = (⟨#[]⟩, 8, s) := by simp [PS.read, h, h0]
theorem PS.read_bound {s : PS} {n m : Int} (h : s.is n = 0) (h0 : ¬ s.e n 0 = 0) (hm : m < 0) : s.read n m = (⟨#[]⟩, 1, s) := by simp [PS.read, h, h0, hm]
theorem PS.read_again {s : PS} {n m : Int} (h : s.is n = 0) (h0 : ¬ s.e n 0 = 0) (hm : ¬ m < 0) (ha : s.b n = ⟨#[]⟩ ∧ s.e n 1 > 0 ∧ m > 0) : s.read n m = (⟨#[]⟩, 13, s) := by
  unfold PS.read; rw [if_neg (by simp [h]), if_neg h0, if_neg hm, if_pos ha]
theorem PS.read_ok {s : PS} {n m : Int} (h : s.is n = 0) (h0 : ¬ s.e n 0 = 0) (hm : ¬ m < 0) (ha : ¬ (s.b n = ⟨#[]⟩ ∧ s.e n 1 > 0 ∧ m > 0)) :
    s.read n m = ((s.b n).extract 0 (min m (s.b n).size).toNat, 0, { s with b := fset s.b n ((s.b n).extract (min m (s.b n).size).toNat (s.b n).size) }) := by
  unfold PS.read; rw [if_neg (by simp [h]), if_neg h0, if_neg hm, if_neg ha]
theorem PS.write_err {s : PS} {n : Int} {t : ByteArray} (h : s.is n ≠ 0) : s.write n t = (0, s.is n, s) := by simp [PS.write, h]
theorem PS.write_state {s : PS} {n : Int} {t : ByteArray} (h : s.is n = 0) (h0 : s.e n 1 = 0) : s.write n t = (0, 8, s) := by simp [PS.write, h, h0]
theorem PS.write_broken {s : PS} {n : Int} {t : ByteArray} (h : s.is n = 0) (h0 : ¬ s.e n 1 = 0) (h1 : s.e n 0 = 0) : s.write n t = (0, 12, s) := by simp [PS.write, h, h0, h1]
theorem PS.write_again {s : PS} {n : Int} {t : ByteArray} (h : s.is n = 0) (h0 : ¬ s.e n 1 = 0) (h1 : ¬ s.e n 0 = 0) (ha : min (t.size : Int) (12 - (s.b n).size) = 0 ∧ t.size > 0) : s.write n t = (0, 13, s) := by
  unfold PS.write; rw [if_neg (by simp [h]), if_neg h0, if_neg h1, if_pos ha]
theorem PS.write_ok {s : PS} {n : Int} {t : ByteArray} (h : s.is n = 0) (h0 : ¬ s.e n 1 = 0) (h1 : ¬ s.e n 0 = 0) (ha : ¬ (min (t.size : Int) (12 - (s.b n).size) = 0 ∧ t.size > 0)) :
    s.write n t = (min (t.size : Int) (12 - (s.b n).size), 0, { s with b := fset s.b n (s.b n ++ t.extract 0 (min (t.size : Int) (12 - (s.b n).size)).toNat) }) := by
  unfold PS.write; rw [if_neg (by simp [h]), if_neg h0, if_neg h1, if_neg ha]
theorem write_step (s : PS) (n : Int) (t : ByteArray) (k : Int) (hk : 0 ≤ k) :
    ({ b := fset ({ s with b := fset s.b n (s.b n ++ t.extract 0 k.toNat) } : PS).b n (({ s with b := fset s.b n (s.b n ++ t.extract 0 k.toNat) } : PS).b n ++ t.extract k.toNat (k + 1).toNat), e := s.e } : PS) = { s with b := fset s.b n (s.b n ++ t.extract 0 (k + 1).toNat) } := by
  congr 1
  funext j
  by_cases h : j = n
  · subst h
    simp only [fset, if_true]
    rw [ByteArray.append_assoc, ← ByteArray.extract_eq_extract_append_extract k.toNat (by omega) (by omega)]
  · simp [fset, h]
theorem PS.make_some {s : PS} {k : Int} (h0 : 0 ≤ k ∧ k < 8) (hp : s.e k 0 + s.e k 1 = 0) (hn : ∀ j : Int, 0 ≤ j → j < k → s.e j 0 + s.e j 1 ≠ 0) :
    s.make = (k, 0, { s with e := fset2 (fset2 s.e k 0 1) k 1 1 }) := by
  unfold PS.make
  rw [firstN_some h0.1 h0.2 (by simpa using hp) (fun j h1 h2 => by simpa using hn j h1 h2)]
  simp only []
  rw [show ((k.toNat : Nat) : Int) = k from by omega]
theorem PS.make_none {s : PS} (hn : ∀ j : Int, 0 ≤ j → j < 8 → s.e j 0 + s.e j 1 ≠ 0) : s.make = (0, 4, s) := by
  unfold PS.make
  rw [firstN_none (fun j h1 h2 => by simpa using hn j h1 h2)]
theorem encP_make {s : PS} {K : Int} (hI : s.Inv K) {k : Int} (h0 : 0 ≤ k ∧ k < 8) (hp : s.e k 0 + s.e k 1 = 0) :
    0 + 0 + k.toNat * 3 + 3 ≤ 24 ∧ updL (encP s) (0 + 0 + k.toNat * 3) [.string ⟨#[]⟩, .int .i64 1, .int .i64 1] = encP { s with e := fset2 (fset2 s.e k 0 1) k 1 1 } := by
  refine ⟨by omega, ?_⟩
  have e1 := (encP.st_p_I_b s k h0 ⟨#[]⟩).2
  have hb : fset s.b k ⟨#[]⟩ = s.b := by
    funext j; unfold fset; split
    · subst_vars; exact (hI.cl _ hp).symm
    · rfl
  rw [hb] at e1
  have e2 := (encP.st_p_I_reads s k h0 1).2
  have e3 := (encP.st_p_I_writes { s with e := fset2 s.e k 0 1 } k h0 1).2
  simp only [updL, Nat.add_zero] at *
  rw [e1, e2, e3]
theorem encP_drop (s : PS) {k : Int} (h0 : 0 ≤ k ∧ k < 8) :
    0 + 0 + k.toNat * 3 + 3 ≤ 24 ∧ updL (encP s) (0 + 0 + k.toNat * 3) [.string ⟨#[]⟩, .int .i64 0, .int .i64 0] = encP { b := fset s.b k ⟨#[]⟩, e := fset2 (fset2 s.e k 0 0) k 1 0 } := by
  refine ⟨by omega, ?_⟩
  have e1 := (encP.st_p_I_b s k h0 ⟨#[]⟩).2
  have e2 := (encP.st_p_I_reads { s with b := fset s.b k ⟨#[]⟩ } k h0 0).2
  have e3 := (encP.st_p_I_writes { b := fset s.b k ⟨#[]⟩, e := fset2 s.e k 0 0 } k h0 0).2
  simp only [updL, Nat.add_zero] at *
  rw [e1, e2, e3]
theorem encR_make (s : PS) {k : Int} (h0 : 0 ≤ k ∧ k < 8) :
    0 + 8 + k.toNat * 2 + 2 ≤ 24 ∧ updL (encR s) (0 + 8 + k.toNat * 2) [.int .i64 1, .int .i64 1] = encR { s with e := fset2 (fset2 s.e k 0 1) k 1 1 } := by
  refine ⟨by omega, ?_⟩
  have e2 := (encR.st_Ends_I_I s k 0 h0 (by omega) 1).2
  have e3 := (encR.st_Ends_I_I { s with e := fset2 s.e k 0 1 } k 1 h0 (by omega) 1).2
  simp only [updL, Nat.add_zero, Int.toNat_zero, Nat.zero_mul, Int.toNat_one, Nat.one_mul] at *
  rw [e2, e3]

end Go.X
