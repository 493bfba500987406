import Derived.Test.YtmkfmnhbckbfbabDoorSL1
namespace Go.X
open Go
def encF (f : Int → Bool) (i : Nat) : Value :=
  if i % 1 = 0 ∧ i / 1 < 9 then .bool (f ((i / 1 : Nat) : Int)) else
  undef
theorem encF.ld_I (f : Int → Bool) (z0 : Int) (q0 : 0 ≤ z0 ∧ z0 < 9) : (0 + z0.toNat * 1) < 9 ∧ encF f (0 + z0.toNat * 1) = .bool (f z0) := by
  refine ⟨by omega, ?_⟩
  unfold encF
  rw [if_pos (by omega)]
  rw [show (((0 + z0.toNat * 1) / 1 : Nat) : Int) = z0 from by omega]
theorem encF.st_I (f : Int → Bool) (z0 : Int) (q0 : 0 ≤ z0 ∧ z0 < 9) (v : Bool) : (0 + z0.toNat * 1) < 9 ∧ upd (encF f) (0 + z0.toNat * 1) (.bool (v)) = encF (fset f z0 v) := by
  refine ⟨by omega, ?_⟩
  funext j
  unfold upd
  by_cases hj : j = (0 + z0.toNat * 1)
  · rw [if_pos hj, hj, (encF.ld_I (fset f z0 v) z0 q0).2]
    simp [fset, fset2]
  · rw [if_neg hj]
    unfold encF
    refine ite_both (fun c0 => ?_) (fun c0 => ?_)
    · have hne : ¬ (((j / 1 : Nat) : Int) = z0) := by omega
      simp only [fset, fset2, hne, if_false, and_true, true_and]
    rfl
theorem boxF_init : ∀ i, i < 9 → cellsOf (Value.agg #[.bool false, .bool false, .bool false, .bool false, .bool false, .bool false, .bool false, .bool false, .bool false]).cells i = encF (fun _ => false) i := fun i hi => match i, hi with
  | 0, _ => rfl
  | 1, _ => rfl
  | 2, _ => rfl
  | 3, _ => rfl
  | 4, _ => rfl
  | 5, _ => rfl
  | 6, _ => rfl
  | 7, _ => rfl
  | 8, _ => rfl
  | k + 9, h => absurd h (by omega)

/-! ### TopSignals -/
structure TInv (x : BS × (Int → Bool) × (Int → Bool)) : Prop where
  w0 : x.1.wait 0 = false
  wt : ∀ k, 1 ≤ k → k ≤ 8 → x.1.wait k = true → x.2.2 k = true
  hd : ∀ k, 1 ≤ k → k ≤ 8 → x.2.1 k = x.1.held k
theorem BS.send_zero {s : BS} {n : Int} (h : (s.send n).1 = 0) : 1 ≤ n ∧ n ≤ 8 := by
  by_cases q : BS.num n = true
  · exact (BS.num_iff n).1 q
  · simp [BS.send, q] at h
theorem BS.hold_zero {s : BS} {n : Int} {x : Bool} (h : (s.hold n x).1 = 0) : (1 ≤ n ∧ n ≤ 8) ∧ ¬ n = 1 := by
  by_cases q : BS.num n = true
  · refine ⟨(BS.num_iff n).1 q, fun q2 => ?_⟩
    unfold BS.hold at h
    rw [if_pos q, if_pos q2] at h
    cases h
  · simp [BS.hold, q] at h
theorem BS.set_zero {s : BS} {n k : Int} (h : (s.set n k).1 = 0) : ((1 ≤ n ∧ n ≤ 8) ∧ ¬ n = 1) ∧ 0 ≤ k ∧ k ≤ 2 := by
  by_cases q : BS.num n = true ∧ 0 ≤ k ∧ k ≤ 2
  · refine ⟨⟨(BS.num_iff n).1 q.1, fun q2 => ?_⟩, q.2⟩
    subst q2
    unfold BS.set at h
    rw [if_pos q, if_pos rfl] at h
    cases h
  · unfold BS.set at h
    rw [if_neg q] at h
    cases h
theorem BS.send_held (s : BS) (n : Int) : (s.send n).2.held = s.held := by unfold BS.send; split <;> (try split) <;> rfl
theorem BS.set_held (s : BS) (n k : Int) : (s.set n k).2.held = s.held := by unfold BS.set; split <;> (try split) <;> (try dsimp only) <;> (try split) <;> rfl
theorem BS.hold_wait (s : BS) (n : Int) (x : Bool) : (s.hold n x).2.wait = s.wait := by unfold BS.hold; split <;> (try split) <;> rfl
theorem BS.set_wait {s : BS} {n k j : Int} (h : (s.set n k).2.wait j = true) : s.wait j = true := by
  unfold BS.set at h
  split at h
  · split at h
    · exact h
    · dsimp only at h
      split at h
      · simp only [fset] at h
        split at h
        · cases h
        · exact h
      · exact h
  · exact h
theorem BS.set_clear1 {s : BS} {n : Int} (h : (s.set n 1).1 = 0) : (s.set n 1).2.wait n = false := by
  obtain ⟨⟨q, q1⟩, q2⟩ := BS.set_zero h
  rw [BS.set_ign q q2 q1 (by simp [BS.does, fset])]
  simp [fset]
theorem BS.set_clearK {s : BS} {n k : Int} (h : (s.set n k).1 = 0) (hk : k = 1) : (s.set n k).2.wait n = false := by
  subst hk; exact BS.set_clear1 h
theorem BS.set_clear3 {s : BS} : (s.set 3 0).2.wait 3 = false := by
  rw [BS.set_ign (by omega) (by omega) (by omega) (by simp [BS.does, fset])]
  simp [fset]
theorem BS.send_wait {s : BS} {n j : Int} (h : (s.send n).2.wait j = true) (hj : ¬ j = n) : s.wait j = true := by
  unfold BS.send at h
  split at h
  · split at h
    · exact h
    · simpa [fset, hj] using h
  · exact h
theorem BS.send_bad {s : BS} {n : Int} (h : ¬ (s.send n).1 = 0) : (s.send n).2 = s := by
  unfold BS.send at h ⊢
  split
  · rename_i q; rw [if_pos q] at h; exact absurd rfl h
  · rfl
theorem BS.hold_bad {s : BS} {n : Int} {x : Bool} (h : ¬ (s.hold n x).1 = 0) : (s.hold n x).2 = s := by
  unfold BS.hold at h ⊢
  split
  · rename_i q; rw [if_pos q] at h
    split
    · rfl
    · rename_i q2; rw [if_neg q2] at h; exact absurd rfl h
  · rfl
theorem TInv.send {s : BS} {hd wt : Int → Bool} {n : Int} {b : Bool} (h : TInv (s, hd, wt)) (hb : (s.send n).2.wait n = true → b = true) : TInv ((s.send n).2, hd, fset wt n b) := by
  refine ⟨BS.send_w0 h.w0 n, fun k h1 h2 h3 => ?_, fun k h1 h2 => ?_⟩
  · simp only [fset]; split
    · rename_i q; subst q; exact hb h3
    · rename_i q; exact h.wt k h1 h2 (BS.send_wait h3 q)
  · show hd k = (s.send n).2.held k
    rw [BS.send_held]; exact h.hd k h1 h2
theorem TInv.hold {s : BS} {hd wt : Int → Bool} {n : Int} {x : Bool} (h : TInv (s, hd, wt)) (hn : (s.hold n x).1 = 0) : TInv ((s.hold n x).2, fset hd n x, wt) := by
  obtain ⟨q, q1⟩ := BS.hold_zero hn
  rw [BS.hold_ok q q1]
  refine ⟨h.w0, h.wt, fun k h1 h2 => ?_⟩
  simp only [fset]; split
  · rfl
  · exact h.hd k h1 h2
theorem TInv.set {s : BS} {hd wt wt' : Int → Bool} {n k : Int} (h : TInv (s, hd, wt)) (hw : ∀ j, wt' j = wt j ∨ (s.set n k).2.wait j = false) : TInv ((s.set n k).2, hd, wt') := by
  refine ⟨BS.set_w0 h.w0 n k, fun j h1 h2 h3 => ?_, fun j h1 h2 => ?_⟩
  · rcases hw j with q | q
    · show wt' j = true
      rw [q]; exact h.wt j h1 h2 (BS.set_wait h3)
    · have h3 : (s.set n k).2.wait j = true := h3
      rw [q] at h3; cases h3
  · show hd j = (s.set n k).2.held j
    rw [BS.set_held]; exact h.hd j h1 h2
theorem fset_wt {s : BS} {wt : Int → Bool} {n : Int} (h : s.wait n = false) (j : Int) : fset wt n false j = wt j ∨ s.wait j = false := by
  by_cases q : j = n
  · subst q; exact .inr h
  · exact .inl (fset_ne _ _ q)
theorem BS.take_clear (s : BS) : s.take.2.wait s.take.1 = false := by simp [BS.take, fset]
theorem TInv.take {s : BS} {hd wt : Int → Bool} (h : TInv (s, hd, wt)) : TInv (s.take.2, hd, fset wt s.take.1 false) := by
  refine ⟨BS.take_w0 h.w0, fun k h1 h2 h3 => ?_, h.hd⟩
  have h3 : s.take.2.wait k = true := h3
  simp only [fset]; split
  · rename_i q; rw [q, BS.take_clear] at h3; cases h3
  · rename_i q
    refine h.wt k h1 h2 ?_
    have q : ¬ k = s.first 2 := q
    simpa [BS.take, fset, q] using h3
theorem BS.first_says {s : BS} {h : Int} (h0 : s.first h ≠ 0) : s.wait (s.first h) = true ∧ s.held (s.first h) = false := by
  unfold BS.first at h0 ⊢
  cases hf : firstN (fun k => s.wait k && (!s.held k && decide (s.how k = h))) 9 with
  | none => rw [hf] at h0; exact absurd rfl h0
  | some k =>
    unfold firstN at hf
    have h1 := List.find?_some hf
    simp at h1
    exact ⟨h1.1, h1.2.1⟩
theorem waits_false {s : BS} {n : Int} (h : s.wait n = false) : (BS.num n && s.wait n) = false := by rw [h]; cases BS.num n <;> rfl

end Go.X
