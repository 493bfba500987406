import Derived.Test.YtfpdkhncfkefhaaFTF
namespace Go.X
open Go
def dQ : Int → Nat := fun i => if i = 0 then 0 else if i = 1 then 1 else if i = 2 then 2 else 3
namespace SF
theorem dQ_le (n : Int) : dQ n ≤ 3 := by unfold dQ; split <;> (try split) <;> (try split) <;> omega
theorem dQ_3 {x : Int} (h : 3 ≤ x) : dQ x = 3 := by unfold dQ; rw [if_neg (by omega), if_neg (by omega), if_neg (by omega)]
theorem dQ_2 {g : Int} (h : 0 ≤ g ∧ g ≤ 2) : dQ g ≤ 2 := by unfold dQ; split <;> (try split) <;> (try split) <;> omega
theorem refN_keeps (d : Int → Nat) (s : SF) : ∀ k : Nat, (refN d s k).here = s.here ∧ (refN d s k).par = s.par ∧ (refN d s k).wt = s.wt ∧ (refN d s k).awake = s.awake ∧ (refN d s k).frz = s.frz ∧ (refN d s k).quota = s.quota ∧ (refN d s k).period = s.period ∧ (refN d s k).now = s.now ∧
    ∀ m, (refN d s k).used m = if (1 ≤ m ∧ m ≤ k) ∧ s.here m = true ∧ 0 < s.quota m ∧ s.now % s.period m = 0 then 0 else s.used m
  | 0 => ⟨rfl, rfl, rfl, rfl, rfl, rfl, rfl, rfl, fun m => by rw [if_neg (by omega)]; rfl⟩
  | k + 1 => by
    obtain ⟨a1, a2, a3, a4, a5, a6, a7, a8, a9⟩ := refN_keeps d s k
    have e : refN d s (k + 1) = refill d (refN d s k) ((k : Int) + 1) := rfl
    rw [e]
    unfold refill
    split
    · rename_i c
      obtain ⟨b1, b2, b3, b4, b5, b6, b7, b8, b9, b10, b11⟩ := lookF_keeps (d ((k : Int) + 1) + 1) { refN d s k with used := fset (refN d s k).used ((k : Int) + 1) 0 } ((k : Int) + 1)
      rw [a1, a6, a7, a8] at c
      unfold look
      refine ⟨b1.trans a1, b2.trans a2, b3.trans a3, b5.trans a4, b7.trans a5, b8.trans a6, b9.trans a7, b11.trans a8, fun m => ?_⟩
      rw [b10]
      show fset (refN d s k).used ((k : Int) + 1) 0 m = _
      by_cases q : m = (k : Int) + 1
      · subst q; rw [fset_eq, if_pos ⟨⟨by omega, by push_cast; omega⟩, c⟩]
      · rw [fset_ne _ _ q, a9 m]
        by_cases r : (1 ≤ m ∧ m ≤ (k : Int)) ∧ s.here m = true ∧ 0 < s.quota m ∧ s.now % s.period m = 0
        · rw [if_pos r, if_pos ⟨⟨r.1.1, by push_cast; omega⟩, r.2⟩]
        · rw [if_neg r, if_neg (fun z => r ⟨⟨z.1.1, by have := z.1.2; push_cast at this; omega⟩, z.2⟩)]
    · rename_i c
      rw [a1, a6, a7, a8] at c
      refine ⟨a1, a2, a3, a4, a5, a6, a7, a8, fun m => ?_⟩
      rw [a9 m]
      by_cases q : m = (k : Int) + 1
      · subst q; rw [if_neg (by omega), if_neg (fun z => c z.2)]
      · by_cases r : (1 ≤ m ∧ m ≤ (k : Int)) ∧ s.here m = true ∧ 0 < s.quota m ∧ s.now % s.period m = 0
        · rw [if_pos r, if_pos ⟨⟨r.1.1, by push_cast; omega⟩, r.2⟩]
        · rw [if_neg r, if_neg (fun z => r ⟨⟨z.1.1, by have := z.1.2; push_cast at this; omega⟩, z.2⟩)]
structure TQ (s : SF) (m q p : Int) (aw fr : Int → Bool) (U T : Int) : Prop where
  ok : s.Ok dQ 3 T
  m0 : 0 ≤ m ∧ m ≤ 6
  here : ∀ i, 0 < i → i < 30 → (s.here i = true ↔ (1 ≤ i ∧ i ≤ 2) ∨ (10 ≤ i ∧ i < 10 + m))
  g1 : s.par 1 = 0 ∧ s.quota 1 = q ∧ s.period 1 = p ∧ s.frz 1 = fr 1
  g2 : s.par 2 = 1 ∧ s.quota 2 = 0 ∧ s.frz 2 = fr 2
  tk : ∀ x, 0 ≤ x → x < m → s.par (10 + x) = x % 3 ∧ s.awake (10 + x) = aw x
  used : s.used 1 = U
  U0 : 0 ≤ U ∧ U ≤ T
end SF
def Q2 : SF := (SF.init.newU 1 0 5 true).newU 2 1 5 true
theorem qA : SF.init.addGE 1 0 5 = 0 := by decide +kernel
theorem qB : (SF.init.newU 1 0 5 true).addGE 2 1 5 = 0 := by decide +kernel
theorem q1e : SF.init.addG 1 0 5 = SF.init.newU 1 0 5 true := by unfold SF.addG; rw [if_pos qA]
theorem q2e : (SF.init.newU 1 0 5 true).addG 2 1 5 = Q2 := by unfold SF.addG; rw [if_pos qB]; rfl
theorem Q1_ok : (SF.init.newU 1 0 5 true).Ok dQ 3 0 := (SF.init_okd SF.dQ_le).addD (by omega) (z := 1) (p := 0) ⟨by omega, by omega⟩ (by decide +kernel) ⟨by omega, by omega, by decide +kernel⟩ (by omega) (by decide)
theorem Q2_ok : Q2.Ok dQ 3 0 := Q1_ok.addD (by omega) (z := 2) (p := 1) ⟨by omega, by omega⟩ (by decide +kernel) ⟨by omega, by omega, by decide +kernel⟩ (by omega) (by decide)
theorem Q2_here (i : Int) (h0 : 0 < i) : Q2.here i = true ↔ (1 ≤ i ∧ i ≤ 2) := by
  show fset (fset (fset (fun _ : Int => false) 0 true) 1 true) 2 true i = true ↔ _
  unfold fset
  split
  · simp; omega
  · split
    · simp; omega
    · rw [if_neg (by omega)]; simp; omega
namespace SF
theorem quo_bad {q p : Int} (h : Q2.quoE 1 q p ≠ 0) : q < 0 ∨ p < 1 ∨ 100 < p ∨ p < q := by
  unfold quoE at h
  rw [show Q2.grE 1 = 0 from by decide +kernel, if_neg (by omega), if_neg (by omega)] at h
  split at h
  · assumption
  · exact absurd rfl h
theorem quo_good {q p : Int} (h : Q2.quoE 1 q p = 0) : 0 ≤ q ∧ 1 ≤ p ∧ p ≤ 100 ∧ q ≤ p := by
  unfold quoE at h
  rw [show Q2.grE 1 = 0 from by decide +kernel, if_neg (by omega), if_neg (by omega)] at h
  split at h
  · omega
  · omega
theorem TQ.start {q p : Int} (h : Q2.quoE 1 q p = 0) : (Q2.setQ dQ 1 q p).TQ 0 q p (fun _ => false) (fun _ => false) 0 0 := by
  have ho := Q2_ok.setQ (by omega) 1 q p
  have e : Q2.setQ dQ 1 q p = look dQ (Q2.quo1 1 q p) 1 := by unfold setQ; rw [if_pos h]
  obtain ⟨b1, b2, b3, b4, b5, b6, b7, b8, b9, b10, b11⟩ := lookF_keeps (dQ 1 + 1) (Q2.quo1 1 q p) 1
  rw [e] at ho ⊢
  unfold look at ho ⊢
  refine ⟨ho, by omega, fun i a b => ?_, ⟨?_, ?_, ?_, ?_⟩, ⟨?_, ?_, ?_⟩, fun x a b => by omega, ?_, by omega⟩
  · rw [b1]
    show Q2.here i = true ↔ _
    rw [Q2_here i a]; omega
  · rw [b2]; rfl
  · rw [b8]; exact fset_eq Q2.quota 1 q
  · rw [b9]; exact fset_eq Q2.period 1 p
  · rw [b7]; rfl
  · rw [b2]; rfl
  · rw [b8]
    show fset Q2.quota 1 q 2 = 0
    rw [fset_ne _ _ (by omega)]; rfl
  · rw [b7]; rfl
  · rw [b10]; exact fset_eq Q2.used 1 0
theorem TQ.add {s : SF} {m q p : Int} {aw fr : Int → Bool} {U T : Int} (h : s.TQ m q p aw fr U T) (hT : 0 ≤ T) (hm : m < 6) (ha : aw m = false) : s.addTE m (m % 3) (10 + m) = 0 ∧ (s.addT m (m % 3) (10 + m)).TQ (m + 1) q p aw fr U T := by
  have hm0 := h.m0
  have hh : s.here (10 + m) = false := by
    cases c : s.here (10 + m) with
    | false => rfl
    | true => have := (h.here _ (by omega) (by omega)).1 c; omega
  have hg : s.here (m % 3) = true := by
    by_cases c : m % 3 = 0
    · rw [c]; exact h.ok.inv.h0
    · exact (h.here _ (by omega) (by omega)).2 (by omega)
  have hE : s.addTE m (m % 3) (10 + m) = 0 := by
    unfold addTE
    rw [if_neg (by omega), if_neg (by rw [hh]; simp)]
    exact grE_of (by omega) (by omega) hg
  have e : s.addT m (m % 3) (10 + m) = s.newU (10 + m) (m % 3) (10 + m) true := by unfold SF.addT; rw [if_pos hE]
  rw [e]
  have h2 := dQ_2 (g := m % 3) (by omega)
  have h3 := dQ_3 (x := 10 + m) (by omega)
  refine ⟨hE, h.ok.addD hT (z := 10 + m) (p := m % 3) ⟨by omega, by omega⟩ hh ⟨by omega, by omega, hg⟩ (by omega) (by omega), by omega, fun i a b => ?_, ?_, ?_, fun x a b => ?_, ?_, h.U0⟩
  · show fset s.here (10 + m) true i = true ↔ _
    by_cases c : i = 10 + m
    · subst c; rw [fset_eq]; simp; omega
    · rw [fset_ne _ _ c, h.here i a b]; omega
  · show fset s.par (10 + m) (m % 3) 1 = 0 ∧ fset s.quota (10 + m) 0 1 = q ∧ fset s.period (10 + m) 0 1 = p ∧ fset s.frz (10 + m) false 1 = fr 1
    rw [fset_ne _ _ (by omega), fset_ne _ _ (by omega), fset_ne _ _ (by omega), fset_ne _ _ (by omega)]; exact h.g1
  · show fset s.par (10 + m) (m % 3) 2 = 1 ∧ fset s.quota (10 + m) 0 2 = 0 ∧ fset s.frz (10 + m) false 2 = fr 2
    rw [fset_ne _ _ (by omega), fset_ne _ _ (by omega), fset_ne _ _ (by omega)]; exact h.g2
  · show fset s.par (10 + m) (m % 3) (10 + x) = x % 3 ∧ fset s.awake (10 + m) false (10 + x) = aw x
    by_cases c : x = m
    · subst c; rw [fset_eq, fset_eq]; exact ⟨rfl, ha.symm⟩
    · rw [fset_ne _ _ (by omega), fset_ne _ _ (by omega)]; exact h.tk x a (by omega)
  · show fset s.used (10 + m) 0 1 = U
    rw [fset_ne _ _ (by omega)]; exact h.used
theorem TQ.more {s : SF} {m q p : Int} {aw fr : Int → Bool} {U T T' : Int} (h : s.TQ m q p aw fr U T) (hT : T ≤ T') : s.TQ m q p aw fr U T' :=
  ⟨h.ok.mono (Nat.le_refl _) hT, h.m0, h.here, h.g1, h.g2, h.tk, h.used, by have := h.U0; omega⟩
theorem TQ.tkE {s : SF} {m q p : Int} {aw fr : Int → Bool} {U T : Int} (h : s.TQ m q p aw fr U T) {x : Int} (hE : s.tkE x = 0) : 0 ≤ x ∧ x < m := by
  obtain ⟨i1, i2, i3⟩ := tkE_0 hE
  have := (h.here (10 + x) (by omega) (by omega)).1 i3
  omega
theorem TQ.frzE {s : SF} {m q p : Int} {aw fr : Int → Bool} {U T : Int} (h : s.TQ m q p aw fr U T) {x : Int} (hE : s.frzE x = 0) : 1 ≤ x ∧ x ≤ 2 := by
  have hg := s.grE_nn x
  unfold SF.frzE at hE
  split at hE
  · omega
  · split at hE
    · omega
    · obtain ⟨i1, i2, i3⟩ := grE_0 (show s.grE x = 0 by omega)
      have := (h.here x (by omega) (by omega)).1 i3
      omega
theorem TQ.wake {s : SF} {m q p : Int} {aw fr : Int → Bool} {U T : Int} (h : s.TQ m q p aw fr U T) {x : Int} (on : Bool) (hE : s.tkE x = 0) : (s.wake dQ x on).TQ m q p (fset aw x on) fr U T := by
  have hx := h.tkE hE
  have ho := h.ok.wake x on
  rw [wake_eq hE] at ho ⊢
  obtain ⟨b1, b2, b3, b4, b5, b6, b7, b8, b9, b10, b11⟩ := lookF_keeps (dQ (10 + x) + 1) { s with awake := fset s.awake (10 + x) on } (10 + x)
  unfold look at ho ⊢
  refine ⟨ho, h.m0, by rw [b1]; exact h.here, by rw [b2, b8, b9, b7]; exact h.g1, by rw [b2, b8, b7]; exact h.g2, fun y a b => ?_, by rw [b10]; exact h.used, h.U0⟩
  rw [b2, b5]
  show s.par (10 + y) = y % 3 ∧ fset s.awake (10 + x) on (10 + y) = fset aw x on y
  obtain ⟨t1, t2⟩ := h.tk y a b
  by_cases c : y = x
  · subst c; rw [fset_eq, fset_eq]; exact ⟨t1, rfl⟩
  · rw [fset_ne _ _ c, fset_ne _ _ (by omega)]; exact ⟨t1, t2⟩
theorem TQ.freeze {s : SF} {m q p : Int} {aw fr : Int → Bool} {U T : Int} (h : s.TQ m q p aw fr U T) {x : Int} (on : Bool) (hE : s.frzE x = 0) : (s.freeze dQ x on).TQ m q p aw (fset fr x on) U T := by
  have hx := h.frzE hE
  have ho := h.ok.freeze x on
  have e : s.freeze dQ x on = look dQ { s with frz := fset s.frz x on } x := by unfold SF.freeze; rw [if_pos hE]
  rw [e] at ho ⊢
  obtain ⟨b1, b2, b3, b4, b5, b6, b7, b8, b9, b10, b11⟩ := lookF_keeps (dQ x + 1) { s with frz := fset s.frz x on } x
  unfold look at ho ⊢
  refine ⟨ho, h.m0, by rw [b1]; exact h.here, ?_, ?_, fun y a b => by rw [b2, b5]; exact h.tk y a b, by rw [b10]; exact h.used, h.U0⟩
  · rw [b2, b8, b9, b7]
    refine ⟨h.g1.1, h.g1.2.1, h.g1.2.2.1, ?_⟩
    show fset s.frz x on 1 = fset fr x on 1
    by_cases c : (1 : Int) = x
    · subst c; rw [fset_eq, fset_eq]
    · rw [fset_ne _ _ c, fset_ne _ _ c]; exact h.g1.2.2.2
  · rw [b2, b8, b7]
    refine ⟨h.g2.1, h.g2.2.1, ?_⟩
    show fset s.frz x on 2 = fset fr x on 2
    by_cases c : (2 : Int) = x
    · subst c; rw [fset_eq, fset_eq]
    · rw [fset_ne _ _ c, fset_ne _ _ c]; exact h.g2.2.2
theorem nofreeze {s : SF} {x : Int} {on : Bool} (hE : s.frzE x ≠ 0) (d : Int → Nat) : s.freeze d x on = s := by unfold SF.freeze; rw [if_neg hE]
end SF
def stopB (fr : Int → Bool) (q U x : Int) : Bool := (decide (0 < x % 3) && (fr 1 || decide (q ≤ U))) || (decide (x % 3 = 2) && fr 2)
theorem stop_a {fr : Int → Bool} {q u x : Int} (h : 0 < x % 3) (f : fr 1 = true) : true = stopB fr q u x := by unfold stopB; rw [decide_eq_true h, f]; rfl
theorem stop_b {fr : Int → Bool} {q u x : Int} (h : 0 < x % 3) (f : q ≤ u) : true = stopB fr q u x := by unfold stopB; rw [decide_eq_true h, decide_eq_true f]; simp
theorem stop_c {fr : Int → Bool} {q u x : Int} (h : x % 3 = 2) (f : fr 1 = false) (hu : ¬ q ≤ u) : fr 2 = stopB fr q u x := by unfold stopB; rw [decide_eq_true h, f, decide_eq_false hu]; simp
theorem stop_d {fr : Int → Bool} {q u x : Int} (h : ¬ x % 3 = 2) (f : fr 1 = false) (hu : ¬ q ≤ u) : false = stopB fr q u x := by unfold stopB; rw [decide_eq_false h, f, decide_eq_false hu]; simp
theorem stop_e {fr : Int → Bool} {q u x : Int} (h : ¬ 0 < x % 3) : false = stopB fr q u x := by unfold stopB; rw [decide_eq_false h, decide_eq_false (by omega : ¬ x % 3 = 2)]; rfl
namespace SF
theorem TQ.tick {s : SF} {q p : Int} {aw fr : Int → Bool} {U T V : Int} (h : s.TQ 6 q p aw fr U T) (hq : 0 < q) (hp : 1 ≤ p) (hT : 0 ≤ T) (hV : V = if s.now % p = 0 then 0 else U) :
    (-1 ≤ (s.tick dQ).1 ∧ (s.tick dQ).1 ≤ 5) ∧ (∀ x, 0 ≤ x → x < 6 → aw x = true → stopB fr q V x = false → 0 ≤ (s.tick dQ).1) ∧
    (0 ≤ (s.tick dQ).1 → aw (s.tick dQ).1 = true ∧ stopB fr q V (s.tick dQ).1 = false) ∧
    (s.tick dQ).2.TQ 6 q p aw fr (if 0 ≤ (s.tick dQ).1 ∧ 0 < (s.tick dQ).1 % 3 then V + 1 else V) (T + 1) := by
  have h0 := h.ok.tick0 hT
  have hO := h.ok.tick hT (by omega)
  obtain ⟨k1, k2, k3, k4, k5, k6, k7, k8, k9⟩ := refN_keeps dQ s 9
  have hhere : ∀ i, 0 < i → i < 30 → ((s.tick0 dQ).here i = true ↔ (1 ≤ i ∧ i ≤ 2) ∨ (10 ≤ i ∧ i < 10 + 6)) := fun i a b => by
    show (refN dQ s 9).here i = true ↔ _
    rw [k1]; exact h.here i a b
  obtain ⟨a1, a2, a3, a4⟩ := h.g1
  obtain ⟨c1, c2, c3⟩ := h.g2
  have u1 : (s.tick0 dQ).used 1 = V := by
    show (refN dQ s 9).used 1 = V
    rw [k9 1, hV, a2, a3, h.used]
    by_cases c : s.now % p = 0
    · rw [if_pos ⟨by omega, (h.here 1 (by omega) (by omega)).2 (by omega), hq, c⟩, if_pos c]
    · rw [if_neg (fun z => c z.2.2.2), if_neg c]
  have p1 : (s.tick0 dQ).par 1 = 0 := by show (refN dQ s 9).par 1 = 0; rw [k2]; exact a1
  have p2 : (s.tick0 dQ).par 2 = 1 := by show (refN dQ s 9).par 2 = 1; rw [k2]; exact c1
  have px : ∀ x, 0 ≤ x → x < 6 → (s.tick0 dQ).par (10 + x) = x % 3 := fun x a b => by show (refN dQ s 9).par (10 + x) = _; rw [k2]; exact (h.tk x a b).1
  have ax : ∀ x, 0 ≤ x → x < 6 → (s.tick0 dQ).was (10 + x) = aw x := fun x a b => by
    rw [h0.was_tk (by omega) (by omega) ((hhere _ (by omega) (by omega)).2 (by omega))]
    show (refN dQ s 9).awake (10 + x) = _
    rw [k4]; exact (h.tk x a b).2
  have w1 : (s.tick0 dQ).was 1 = ((s.tick0 dQ).kid 1 && !fr 1 && decide (V < q)) := by
    rw [h0.set 1 (by omega) (by omega) ((hhere 1 (by omega) (by omega)).2 (by omega))]
    unfold ready
    rw [if_neg (by omega), u1]
    rw [show (s.tick0 dQ).frz 1 = fr 1 from by show (refN dQ s 9).frz 1 = _; rw [k5]; exact a4, show (s.tick0 dQ).quota 1 = q from by show (refN dQ s 9).quota 1 = _; rw [k6]; exact a2]
    rw [show decide (q = 0) = false from by simp; omega, Bool.false_or]
  have w2 : (s.tick0 dQ).was 2 = ((s.tick0 dQ).kid 2 && !fr 2) := by
    rw [h0.set 2 (by omega) (by omega) ((hhere 2 (by omega) (by omega)).2 (by omega))]
    unfold ready
    rw [if_neg (by omega)]
    rw [show (s.tick0 dQ).frz 2 = fr 2 from by show (refN dQ s 9).frz 2 = _; rw [k5]; exact c3, show (s.tick0 dQ).quota 2 = 0 from by show (refN dQ s 9).quota 2 = _; rw [k6]; exact c2]
    simp
  have stop : ∀ x, 0 ≤ x → x < 6 → (stopB fr q V x = false ↔ (x % 3 = 0 ∨ (x % 3 = 1 ∧ fr 1 = false ∧ V < q) ∨ (x % 3 = 2 ∧ fr 1 = false ∧ V < q ∧ fr 2 = false))) := fun x a b => by
    unfold stopB
    have hc : x % 3 = 0 ∨ x % 3 = 1 ∨ x % 3 = 2 := by omega
    rcases hc with e | e | e <;> rw [e] <;> simp <;> (try constructor) <;> (try (rintro ⟨⟨r1, r2⟩, r3⟩; exact ⟨r1, r2, r3⟩)) <;> (try (rintro ⟨r1, r2, r3⟩; exact ⟨⟨r1, r2⟩, r3⟩))
  have keep : ∀ t : SF, t.Ok dQ 3 (T + 1) → t.here = (s.tick0 dQ).here → t.par = (s.tick0 dQ).par → t.awake = (s.tick0 dQ).awake → t.frz = (s.tick0 dQ).frz → t.quota = (s.tick0 dQ).quota → t.period = (s.tick0 dQ).period → ∀ W, t.used 1 = W → 0 ≤ W → W ≤ T + 1 → t.TQ 6 q p aw fr W (T + 1) := fun t to t1 t2 t3 t4 t5 t6 W t7 t8 t9 =>
    ⟨to, by omega, by rw [t1]; exact hhere, by rw [t2, t4, t5, t6]; exact ⟨p1, by show (refN dQ s 9).quota 1 = _; rw [k6]; exact a2, by show (refN dQ s 9).period 1 = _; rw [k7]; exact a3, by show (refN dQ s 9).frz 1 = _; rw [k5]; exact a4⟩,
      by rw [t2, t4, t5]; exact ⟨p2, by show (refN dQ s 9).quota 2 = _; rw [k6]; exact c2, by show (refN dQ s 9).frz 2 = _; rw [k5]; exact c3⟩, fun x a b => by rw [t2, t3]; exact ⟨px x a b, by show (refN dQ s 9).awake (10 + x) = _; rw [k4]; exact (h.tk x a b).2⟩, t7, by omega⟩
  have hVb : 0 ≤ V ∧ V ≤ T := by have := h.U0; rw [hV]; split <;> omega
  by_cases hw : who dQ s < 0
  · obtain ⟨e, hno⟩ := tick_no h0 hw
    rw [e] at hO ⊢
    refine ⟨⟨by show (-1 : Int) ≤ -1; omega, by show (-1 : Int) ≤ 5; omega⟩, fun x x0 x1 x2 x3 => ?_, fun z => absurd z (by show ¬ (0 : Int) ≤ -1; omega), ?_⟩
    · exfalso
      have hwx : (s.tick0 dQ).was (10 + x) = true := by rw [ax x x0 x1]; exact x2
      have go1 : (s.tick0 dQ).kid 1 = true → fr 1 = false → V < q → False := fun z1 z2 z3 => hno 1 (by rw [w1, z1, z2]; simp; exact z3) p1
      rcases (stop x x0 x1).1 x3 with r | ⟨r1, r2, r3⟩ | ⟨r1, r2, r3, r4⟩
      · exact hno _ hwx (by rw [px x x0 x1]; exact r)
      · exact go1 ((kid_true _ 1).2 ⟨10 + x, by omega, by omega, hwx, by rw [px x x0 x1]; exact r1⟩) r2 r3
      · have hk2 : (s.tick0 dQ).kid 2 = true := (kid_true _ 2).2 ⟨10 + x, by omega, by omega, hwx, by rw [px x x0 x1]; exact r1⟩
        have hw2 : (s.tick0 dQ).was 2 = true := by rw [w2, hk2, r4]; rfl
        exact go1 ((kid_true _ 1).2 ⟨2, by omega, by omega, hw2, p2⟩) r2 r3
    · rw [if_neg (fun z => absurd z.1 (by show ¬ (0 : Int) ≤ -1; omega))]
      exact keep _ hO rfl rfl rfl rfl rfl rfl V u1 hVb.1 (by omega)
  · obtain ⟨⟨b1, b2, b3⟩, hu, e⟩ := tick_yes h0 hw
    have hbn := (hhere _ (by omega) b2).1 b3
    obtain ⟨hB, hu1⟩ := upB_is (by omega) hu
    obtain ⟨x, hx⟩ : ∃ x, who dQ s = 10 + x := ⟨who dQ s - 10, by omega⟩
    rw [hx] at hB hu1 e
    have x0 : 0 ≤ x := by omega
    have x1 : x < 6 := by omega
    have hpx := px x x0 x1
    rw [show 10 + x - 10 = x by omega] at e
    have hk := chgF_keeps (dQ (10 + x) + 1) (s.tick0 dQ) (10 + x)
    have ha := (fun m => chgF_at (dQ (10 + x) + 1) (s.tick0 dQ) (10 + x) m h0.inv (.inr ⟨by omega, by omega, by rw [← hx]; exact b3⟩)) 1
    have hd3 := dQ_3 (x := 10 + x) (by omega)
    have hone : x % 3 = 1 ∨ x % 3 = 2 → (s.tick0 dQ).was 1 = true := fun r => by
      rcases r with r | r
      · rw [hpx, r] at hu1
        have := (upB_is (n := 1) (by omega) hu1).1.1
        exact this
      · rw [hpx, r] at hu1
        obtain ⟨_, hu2⟩ := upB_is (n := 2) (by omega) hu1
        rw [p2] at hu2
        exact (upB_is (n := 1) (by omega) hu2).1.1
    have htwo : x % 3 = 2 → (s.tick0 dQ).was 2 = true := fun r => by
      rw [hpx, r] at hu1
      exact (upB_is (n := 2) (by omega) hu1).1.1
    have hon2 : (s.tick0 dQ).was 1 = true → fr 1 = false ∧ V < q := fun r => by
      rw [w1] at r
      simp at r
      exact ⟨r.1.2, r.2⟩
    have htw2 : (s.tick0 dQ).was 2 = true → fr 2 = false := fun r => by
      rw [w2] at r
      simp at r
      exact r.2
    have hns : stopB fr q V x = false := (stop x x0 x1).2 (by
      have hc : x % 3 = 0 ∨ x % 3 = 1 ∨ x % 3 = 2 := by omega
      rcases hc with r | r | r
      · exact .inl r
      · exact .inr (.inl ⟨r, hon2 (hone (.inl r))⟩)
      · obtain ⟨z1, z2⟩ := hon2 (hone (.inr r))
        exact .inr (.inr ⟨r, z1, z2, htw2 (htwo r)⟩))
    have hup : up (s.tick0 dQ).par (dQ (10 + x) + 1) (10 + x) 1 ↔ 0 < x % 3 := by
      have hc : x % 3 = 0 ∨ x % 3 = 1 ∨ x % 3 = 2 := by omega
      rcases hc with r | r | r
      · rw [up_one (by omega) (by rw [hpx]; exact r)]; omega
      · rw [up_two (by omega) (by rw [hpx]; omega) (by rw [hpx, r]; exact p1) (by omega), hpx]; omega
      · rw [hd3]
        show 0 < 10 + x ∧ (1 = 10 + x ∨ up (s.tick0 dQ).par (2 + 1) ((s.tick0 dQ).par (10 + x)) 1) ↔ _
        rw [hpx, r, up_two (by omega) (by rw [p2]; omega) (by rw [p2]; exact p1) (by omega), p2]; omega
    rw [e] at hO ⊢
    refine ⟨⟨by show -1 ≤ x; omega, by show x ≤ 5; omega⟩, fun _ _ _ _ _ => x0, fun _ => ⟨by rw [← ax x x0 x1]; exact hB.1, hns⟩, ?_⟩
    show (SF.chgF (dQ (10 + x) + 1) (s.tick0 dQ) (10 + x)).TQ 6 q p aw fr (if 0 ≤ x ∧ 0 < x % 3 then V + 1 else V) (T + 1)
    by_cases r : 0 < x % 3
    · rw [if_pos ⟨x0, r⟩]
      refine keep _ hO hk.1 hk.2.1 hk.2.2.2.1 hk.2.2.2.2.1 hk.2.2.2.2.2.1 hk.2.2.2.2.2.2.1 (V + 1) ?_ (by omega) (by omega)
      rw [(ha.1 (hup.2 r)).2.2, if_pos (by show 0 < (refN dQ s 9).quota 1; rw [k6, a2]; exact hq), u1]
    · rw [if_neg (fun z => r z.2)]
      refine keep _ hO hk.1 hk.2.1 hk.2.2.2.1 hk.2.2.2.2.1 hk.2.2.2.2.2.1 hk.2.2.2.2.2.2.1 V ?_ hVb.1 (by omega)
      rw [(ha.2 (fun z => r (hup.1 z))).2.2, u1]
end SF

end Go.X
