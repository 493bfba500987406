import Derived.Test.YtfpdkhncfkefhaaFLM
namespace Go.X
open Go
namespace SF
/-- awake ones are not behind their group's floor; nobody is ahead of it by more than a step -/
def AB (s : SF) : Prop := ∀ n, 0 < n → n < 30 → s.here n = true → (s.was n = true → s.floor (s.par n) ≤ s.v n) ∧ s.v n ≤ s.floor (s.par n) + 1048576 / s.wt n
theorem step_nn {s : SF} {d : Int → Nat} (hI : s.Inv d) {n : Int} (n0 : 0 < n) (n1 : n < 30) (n2 : s.here n = true) : 0 ≤ 1048576 / s.wt n := by
  have := hI.wt n (by omega) n1 n2
  exact Int.ediv_nonneg (by omega) (by omega)
theorem AB.stp {s : SF} {d : Int → Nat} (hI : s.Inv d) (h : s.AB) {n : Int} (n0 : 0 < n) (n1 : n < 30) (n2 : s.here n = true) : (s.stp n).AB := fun m m0 m1 m2 => by
  obtain ⟨a, b⟩ := h m m0 m1 m2
  have hst := step_nn hI m0 m1 m2
  show (fset s.was n (s.ready n) m = true → s.floor (s.par m) ≤ fset s.v n (if s.ready n = true ∧ s.was n = false then max (s.v n) (s.floor (s.par n)) else s.v n) m) ∧ fset s.v n (if s.ready n = true ∧ s.was n = false then max (s.v n) (s.floor (s.par n)) else s.v n) m ≤ s.floor (s.par m) + 1048576 / s.wt m
  by_cases c : m = n
  · subst c
    rw [fset_eq, fset_eq]
    by_cases q : s.ready m = true ∧ s.was m = false
    · rw [if_pos q]; exact ⟨fun _ => by omega, by omega⟩
    · rw [if_neg q]
      refine ⟨fun hr => a ?_, b⟩
      cases hw : s.was m with
      | true => rfl
      | false => exact absurd ⟨hr, hw⟩ q
  · rw [fset_ne _ _ c, fset_ne _ _ c]; exact ⟨a, b⟩
theorem AB.lookF {d : Int → Nat} : ∀ (k : Nat) (s : SF) (n : Int), s.Inv d → s.AB → (n = 0 ∨ (0 < n ∧ n < 30 ∧ s.here n = true)) → (SF.lookF k s n).AB
  | 0, s, n, _, h, _ => h
  | k + 1, s, n, hI, h, hn => by
    rcases hn with rfl | ⟨n0, n1, n2⟩
    · rw [lookF_stop _ _ (by omega)]; exact h
    · rw [lookF_go _ _ n0]
      exact AB.lookF k (s.stp n) (s.par n) (hI.stp n0 n1 n2) (h.stp hI n0 n1 n2) (hI.next n0 n1 n2)
theorem AB.look {s : SF} {d : Int → Nat} (hI : s.Inv d) (h : s.AB) {n : Int} (hn : 0 < n ∧ n < 30 ∧ s.here n = true) : (SF.look d s n).AB := AB.lookF _ _ _ hI h (.inr hn)
theorem AB.chg {s : SF} {d : Int → Nat} (hI : s.Inv d) (h : s.AB) {n : Int} (n0 : 0 < n) (n1 : n < 30) (n2 : s.here n = true) (hB : s.IsB (s.par n) n) : (s.chg n).AB := fun m m0 m1 m2 => by
  obtain ⟨a, b⟩ := h m m0 m1 m2
  obtain ⟨an, bn⟩ := h n n0 n1 n2
  have hst := step_nn hI m0 m1 m2
  have an2 := an hB.1
  show (fset s.was n ((s.chg1 n).ready n) m = true → fset s.floor (s.par n) (max (s.floor (s.par n)) (s.v n)) (s.par m) ≤ fset s.v n (s.v n + 1048576 / s.wt n) m) ∧ fset s.v n (s.v n + 1048576 / s.wt n) m ≤ fset s.floor (s.par n) (max (s.floor (s.par n)) (s.v n)) (s.par m) + 1048576 / s.wt m
  by_cases c : m = n
  · subst c
    rw [fset_eq, fset_eq, fset_eq]
    exact ⟨fun _ => by omega, by omega⟩
  · rw [fset_ne _ _ c, fset_ne _ _ c]
    by_cases e : s.par m = s.par n
    · rw [e, fset_eq]
      rw [e] at a b
      refine ⟨fun hw => ?_, by omega⟩
      have h1 := hB.2.2 m hw e
      have h2 := a hw
      unfold lt2 at h1
      omega
    · rw [fset_ne _ _ e]; exact ⟨a, b⟩
/-- from here up each is first in its group -/
def upB (s : SF) : Nat → Int → Prop
  | 0, n => n ≤ 0
  | k + 1, n => n ≤ 0 ∨ (s.IsB (s.par n) n ∧ upB s k (s.par n))
theorem upB_chg {s : SF} {d : Int → Nat} (hI : s.Inv d) {n : Int} : ∀ (k : Nat) (m : Int), (m = 0 ∨ (0 < m ∧ m < 30 ∧ s.here m = true)) → d m ≤ d (s.par n) → d (s.par n) < d n → upB s k m → upB (s.chg n) k m
  | 0, m, _, _, _, hu => hu
  | k + 1, m, hm, hd, hd2, hu => by
    rcases hu with hu | ⟨hu1, hu2⟩
    · exact .inl hu
    · rcases hm with rfl | ⟨m0, m1, m2⟩
      · exact .inl (Int.le_refl _)
      · obtain ⟨p0, p1, p2, p3⟩ := hI.up m m0 m1 m2
        have hmn : ¬ m = n := fun e => by subst e; omega
        refine .inr ⟨⟨?_, rfl, fun i hi hp => ?_⟩, upB_chg hI k (s.par m) (hI.next m0 m1 m2) (by omega) hd2 hu2⟩
        · show fset s.was n _ m = true
          rw [fset_ne _ _ hmn]; exact hu1.1
        · have hi2 : fset s.was n ((s.chg1 n).ready n) i = true := hi
          have hp2 : s.par i = s.par m := hp
          have hin : ¬ i = n := fun e => by subst e; rw [hp2] at hd; omega
          rw [fset_ne _ _ hin] at hi2
          show ¬ lt2 (fset s.v n _ i) i (fset s.v n _ m) m
          rw [fset_ne _ _ hin, fset_ne _ _ hmn]
          exact hu1.2.2 i hi2 hp2
theorem AB.chgF {d : Int → Nat} : ∀ (k : Nat) (s : SF) (n : Int), s.Inv d → s.AB → (n = 0 ∨ (0 < n ∧ n < 30 ∧ s.here n = true)) → (∃ j, upB s j n) → (SF.chgF k s n).AB
  | 0, s, n, _, h, _, _ => h
  | k + 1, s, n, hI, h, hn, hu => by
    rcases hn with rfl | ⟨n0, n1, n2⟩
    · rw [chgF_stop _ _ (by omega)]; exact h
    · rw [chgF_go _ _ n0]
      obtain ⟨p0, p1, p2, p3⟩ := hI.up n n0 n1 n2
      obtain ⟨j, hu⟩ := hu
      obtain ⟨j2, hB, hu2⟩ : ∃ j2, s.IsB (s.par n) n ∧ upB s j2 (s.par n) := by
        cases j with
        | zero => have : n ≤ 0 := hu; omega
        | succ j =>
          rcases hu with q | ⟨q1, q2⟩
          · omega
          · exact ⟨j, q1, q2⟩
      exact AB.chgF k (s.chg n) (s.par n) (hI.chg n0 n1 n2) (h.chg hI n0 n1 n2 hB) (hI.next n0 n1 n2) ⟨j2, upB_chg hI j2 _ (hI.next n0 n1 n2) (Nat.le_refl _) p3 hu2⟩
theorem AB.refN {s : SF} {d : Int → Nat} {m : Nat} {t : Int} (h : s.Ok d m t) (ht : 0 ≤ t) (ha : s.AB) : ∀ k : Nat, k ≤ 9 → (SF.refN d s k).AB
  | 0, _ => ha
  | k + 1, hk => by
    have h1 := (h.refN ht k (by omega)).1
    have h2 := AB.refN h ht ha k (by omega)
    show (refill d (SF.refN d s k) ((k : Int) + 1)).AB
    unfold refill
    split
    · rename_i c
      exact AB.look (s := { SF.refN d s k with used := fset (SF.refN d s k).used ((k : Int) + 1) 0 }) (d := d) ⟨h1.inv.h0, h1.inv.up, h1.inv.was, h1.inv.quo, h1.inv.wt⟩ h2 ⟨by omega, by omega, c.1⟩
    · exact h2
theorem dsc_upB {s : SF} {d : Int → Nat} (hI : s.Inv d) : ∀ (k : Nat) (a : Int), (∃ j, upB s j a) → 0 ≤ dsc s k a → ∃ j, upB s j (dsc s k a)
  | 0, a, hu, _ => hu
  | k + 1, a, hu, h0 => by
    by_cases c : 10 ≤ a
    · rw [dsc_end _ _ c]; exact hu
    · by_cases hb : s.best a < 0
      · rw [dsc_no _ _ c hb] at h0; omega
      · rw [dsc_go _ _ c hb] at h0 ⊢
        obtain ⟨hB, b4, b5⟩ := best_is (fun i hi => ⟨(hI.was i hi).1, (hI.was i hi).2.1⟩) hb
        obtain ⟨j, hu⟩ := hu
        refine dsc_upB hI k _ ⟨j + 1, .inr ⟨?_, ?_⟩⟩ h0
        · rw [hB.2.1]; exact hB
        · rw [hB.2.1]; exact hu
/-- nobody is found just if nobody stands in the root -/
theorem dsc_neg {s : SF} {d : Int → Nat} (hI : s.Inv d) (hs : s.Settled) : ∀ (k : Nat) (a : Int), 0 < a → s.was a = true → ¬ dsc s k a < 0
  | 0, a, h0, _ => by show ¬ a < 0; omega
  | k + 1, a, h0, hw => by
    by_cases c : 10 ≤ a
    · rw [dsc_end _ _ c]; omega
    · have hb := best_some hI hs h0 (by omega) hw
      rw [dsc_go _ _ c hb]
      obtain ⟨hB, b4, b5⟩ := best_is (fun i hi => ⟨(hI.was i hi).1, (hI.was i hi).2.1⟩) hb
      exact dsc_neg hI hs k _ b4 hB.1
theorem who_neg {s : SF} {d : Int → Nat} {m : Nat} {t : Int} (h : (s.tick0 d).Ok d m t) : who d s < 0 ↔ (s.tick0 d).best 0 < 0 := by
  unfold who
  constructor
  · intro q
    apply Classical.byContradiction
    intro hb
    rw [dsc_go _ _ (by omega) hb] at q
    obtain ⟨hB, b4, b5⟩ := best_is (fun i hi => ⟨(h.inv.was i hi).1, (h.inv.was i hi).2.1⟩) hb
    exact dsc_neg h.inv h.set _ _ b4 hB.1 q
  · intro hb
    rw [dsc_no _ _ (by omega) hb]; omega
theorem tick_no {s : SF} {d : Int → Nat} {m : Nat} {t : Int} (h : (s.tick0 d).Ok d m t) (hw : who d s < 0) : s.tick d = (-1, s.tick0 d) ∧ ∀ i, (s.tick0 d).was i = true → (s.tick0 d).par i ≠ 0 := by
  refine ⟨by unfold tick; rw [if_pos hw], ?_⟩
  exact best_no (fun i hi => ⟨(h.inv.was i hi).1, (h.inv.was i hi).2.1⟩) ((who_neg h).1 hw)
theorem tick_yes {s : SF} {d : Int → Nat} {m : Nat} {t : Int} (h : (s.tick0 d).Ok d m t) (hw : ¬ who d s < 0) : (10 ≤ who d s ∧ who d s < 30 ∧ (s.tick0 d).here (who d s) = true) ∧ (∃ j, upB (s.tick0 d) j (who d s)) ∧ s.tick d = (who d s - 10, SF.chgF (d (who d s) + 1) (s.tick0 d) (who d s)) := by
  refine ⟨who_is h.inv hw, ?_, by unfold tick; rw [if_neg hw]⟩
  unfold who at hw ⊢
  exact dsc_upB h.inv _ 0 ⟨0, Int.le_refl _⟩ (by omega)
theorem upB_is {s : SF} {n : Int} (hn : 0 < n) (h : ∃ j, upB s j n) : s.IsB (s.par n) n ∧ ∃ j, upB s j (s.par n) := by
  obtain ⟨j, hu⟩ := h
  cases j with
  | zero => have : n ≤ 0 := hu; omega
  | succ j =>
    rcases hu with q | ⟨q1, q2⟩
    · omega
    · exact ⟨q1, j, q2⟩
theorem AB.tick {s : SF} {d : Int → Nat} {m : Nat} {t : Int} (h : s.Ok d m t) (ht : 0 ≤ t) (ha : s.AB) : (s.tick d).2.AB := by
  have h0 := h.tick0 ht
  have h1 : (s.tick0 d).AB := AB.refN h ht ha 9 (Nat.le_refl _)
  by_cases hw : who d s < 0
  · rw [(tick_no h0 hw).1]; exact h1
  · obtain ⟨a, b, c⟩ := tick_yes h0 hw
    rw [c]
    exact AB.chgF _ _ _ h0.inv h1 (.inr ⟨by omega, a.2⟩) b
theorem AB.wake {s : SF} {d : Int → Nat} (hI : s.Inv d) (h : s.AB) (n : Int) (on : Bool) : (s.wake d n on).AB := by
  by_cases c : s.tkE n = 0
  · obtain ⟨i1, i2, i3⟩ := tkE_0 c
    rw [wake_eq c]
    exact AB.look (s := { s with awake := fset s.awake (10 + n) on }) (d := d) ⟨hI.h0, hI.up, hI.was, hI.quo, hI.wt⟩ h ⟨by omega, by omega, i3⟩
  · unfold SF.wake; rw [if_neg c]; exact h
theorem AB.add {s : SF} {d : Int → Nat} {m : Nat} {t : Int} (h : s.Ok d m t) (ha : s.AB) {z p w : Int} (hn : s.here z = false) (hp : 0 ≤ p ∧ p < 10 ∧ s.here p = true) (hw : 1 ≤ w) : (s.newU z p w true).AB := fun i a b c => by
  have c2 : fset s.here z true i = true := c
  show (fset s.was z false i = true → fset s.floor z 0 (fset s.par z p i) ≤ fset s.v z 0 i) ∧ fset s.v z 0 i ≤ fset s.floor z 0 (fset s.par z p i) + 1048576 / fset s.wt z w i
  by_cases e : i = z
  · subst e
    have hpz : ¬ p = i := fun e => by rw [e, hn] at hp; exact absurd hp.2.2 (by simp)
    rw [fset_eq, fset_eq, fset_eq, fset_eq, fset_ne _ _ hpz]
    have h1 := h.small p hp.1 (by omega)
    have h2 : 0 ≤ 1048576 / w := Int.ediv_nonneg (by omega) (by omega)
    exact ⟨fun q => (by cases q), by omega⟩
  · rw [fset_ne _ _ e] at c2
    have hpi : ¬ s.par i = z := fun q => by
      have := (h.inv.up i a b c2).2.2.1
      rw [q, hn] at this; cases this
    rw [fset_ne _ _ e, fset_ne _ _ e, fset_ne _ _ e, fset_ne _ _ e, fset_ne _ _ hpi]
    exact ha i a b c2
theorem AB.init : SF.init.AB := fun n n0 n1 n2 => by
  have h2 : fset (fun _ : Int => false) 0 true n = true := n2
  rw [fset_ne _ _ (by omega)] at h2; cases h2
/-- who is on the way up -/
def up (p : Int → Int) : Nat → Int → Int → Prop
  | 0, _, _ => False
  | k + 1, n, m => 0 < n ∧ (m = n ∨ up p k (p n) m)
theorem up_d {s : SF} {d : Int → Nat} (hI : s.Inv d) : ∀ (k : Nat) (a m : Int), (a = 0 ∨ (0 < a ∧ a < 30 ∧ s.here a = true)) → up s.par k a m → d m ≤ d a
  | 0, a, m, _, h => h.elim
  | k + 1, a, m, ha, h => by
    obtain ⟨h0, h⟩ := h
    rcases ha with rfl | ⟨a0, a1, a2⟩
    · omega
    · rcases h with rfl | h
      · exact Nat.le_refl _
      · have := up_d hI k (s.par a) m (hI.next a0 a1 a2) h
        have := (hI.up a a0 a1 a2).2.2.2
        omega
theorem chgF_keeps : ∀ (k : Nat) (s : SF) (n : Int), (chgF k s n).here = s.here ∧ (chgF k s n).par = s.par ∧ (chgF k s n).wt = s.wt ∧ (chgF k s n).awake = s.awake ∧ (chgF k s n).frz = s.frz ∧ (chgF k s n).quota = s.quota ∧ (chgF k s n).period = s.period ∧ (chgF k s n).now = s.now
  | 0, s, n => ⟨rfl, rfl, rfl, rfl, rfl, rfl, rfl, rfl⟩
  | k + 1, s, n => by
    by_cases h : n ≤ 0
    · rw [chgF_stop _ _ h]; exact ⟨rfl, rfl, rfl, rfl, rfl, rfl, rfl, rfl⟩
    · rw [chgF_go _ _ (by omega)]
      exact chgF_keeps k (s.chg n) (s.par n)
theorem chgF_at {d : Int → Nat} : ∀ (k : Nat) (s : SF) (n m : Int), s.Inv d → (n = 0 ∨ (0 < n ∧ n < 30 ∧ s.here n = true)) →
    (up s.par k n m → (chgF k s n).v m = s.v m + 1048576 / s.wt m ∧ (chgF k s n).ran m = s.ran m + 1 ∧ (chgF k s n).used m = if 0 < s.quota m then s.used m + 1 else s.used m) ∧
    (¬ up s.par k n m → (chgF k s n).v m = s.v m ∧ (chgF k s n).ran m = s.ran m ∧ (chgF k s n).used m = s.used m)
  | 0, s, n, m, _, _ => ⟨fun h => h.elim, fun _ => ⟨rfl, rfl, rfl⟩⟩
  | k + 1, s, n, m, hI, hn => by
    rcases hn with rfl | ⟨n0, n1, n2⟩
    · rw [chgF_stop _ _ (by omega)]
      exact ⟨fun h => absurd h.1 (by omega), fun _ => ⟨rfl, rfl, rfl⟩⟩
    · rw [chgF_go _ _ n0]
      obtain ⟨p0, p1, p2, p3⟩ := hI.up n n0 n1 n2
      obtain ⟨h1, h2⟩ := chgF_at k (s.chg n) (s.par n) m (hI.chg n0 n1 n2) (hI.next n0 n1 n2)
      have e4 : (s.chg n).used m = if m = n ∧ 0 < s.quota n then s.used n + 1 else s.used m := by
        show (if 0 < s.quota n then fset s.used n (s.used n + 1) else s.used) m = _
        by_cases c : m = n
        · subst c
          by_cases q : 0 < s.quota m
          · rw [if_pos q, if_pos ⟨rfl, q⟩, fset_eq]
          · rw [if_neg q, if_neg (fun x => q x.2)]
        · rw [if_neg (fun (x : m = n ∧ 0 < s.quota n) => c x.1)]
          by_cases q : 0 < s.quota n
          · rw [if_pos q, fset_ne _ _ c]
          · rw [if_neg q]
      by_cases c : m = n
      · subst c
        have hno : ¬ up s.par k (s.par m) m := fun q => by
          have := up_d hI k _ m (hI.next n0 n1 n2) q
          omega
        obtain ⟨a1, a2, a3⟩ := h2 hno
        have e1 : (s.chg m).v m = s.v m + 1048576 / s.wt m := fset_eq _ _ _
        have e2 : (s.chg m).ran m = s.ran m + 1 := fset_eq _ _ _
        refine ⟨fun _ => ⟨by rw [a1, e1], by rw [a2, e2], ?_⟩, fun q => absurd ⟨n0, .inl rfl⟩ q⟩
        rw [a3, e4]
        by_cases q : 0 < s.quota m
        · rw [if_pos ⟨rfl, q⟩, if_pos q]
        · rw [if_neg (fun x => q x.2), if_neg q]
      · have e1 : (s.chg n).v m = s.v m := fset_ne _ _ c
        have e2 : (s.chg n).ran m = s.ran m := fset_ne _ _ c
        rw [if_neg (fun (x : m = n ∧ 0 < s.quota n) => c x.1)] at e4
        rw [e1, e2, e4] at h1 h2
        refine ⟨fun q => ?_, fun q => ?_⟩
        · rcases q.2 with q | q
          · exact absurd q c
          · exact h1 q
        · exact h2 (fun x => q ⟨n0, .inr x⟩)
theorem up_one {p : Int → Int} {b : Int} (hb : 0 < b) (hp : p b = 0) (k : Nat) (m : Int) : up p (k + 1) b m ↔ m = b := by
  constructor
  · rintro ⟨_, h⟩
    rcases h with h | h
    · exact h
    · rw [hp] at h
      cases k with
      | zero => exact h.elim
      | succ k => exact absurd h.1 (by omega)
  · intro h; exact ⟨hb, .inl h⟩
theorem up_two {p : Int → Int} {b : Int} (hb : 0 < b) (hg : 0 < p b) (hp : p (p b) = 0) {k : Nat} (hk : 1 ≤ k) (m : Int) : up p (k + 1) b m ↔ m = b ∨ m = p b := by
  obtain ⟨k, rfl⟩ : ∃ j, k = j + 1 := ⟨k - 1, by omega⟩
  show 0 < b ∧ (m = b ∨ up p (k + 1) (p b) m) ↔ _
  rw [up_one hg hp]
  exact ⟨fun h => h.2, fun h => ⟨hb, h⟩⟩
theorem refN_flat {s : SF} {d : Int → Nat} (h : ∀ n, 1 ≤ n → n ≤ 9 → s.here n = true → s.quota n = 0) : ∀ k : Nat, k ≤ 9 → refN d s k = s
  | 0, _ => rfl
  | k + 1, hk => by
    show refill d (refN d s k) ((k : Int) + 1) = s
    rw [refN_flat h k (by omega)]
    unfold refill
    rw [if_neg (fun q => by have := h ((k : Int) + 1) (by omega) (by omega) q.1; omega)]
/-- no quota: a tick begins with nothing -/
theorem tick0_flat {s : SF} {d : Int → Nat} (h : ∀ n, 1 ≤ n → n ≤ 9 → s.here n = true → s.quota n = 0) : s.tick0 d = { s with now := s.now + 1 } := by
  unfold tick0
  rw [refN_flat h 9 (Nat.le_refl _)]
/-! who wakes -/
structure Flat (s : SF) (n : Int) : Prop where
  n0 : 0 ≤ n ∧ n ≤ 20
  here : ∀ i, 0 < i → i < 30 → (s.here i = true ↔ 10 ≤ i ∧ i < 10 + n)
  par : ∀ i, 10 ≤ i → i < 10 + n → s.par i = 0
theorem Flat.tkE {s : SF} {n : Int} (h : s.Flat n) (x : Int) (hx : s.tkE x = 0) : 0 ≤ x ∧ x < n := by
  obtain ⟨i1, i2, i3⟩ := tkE_0 hx
  have := (h.here (10 + x) (by omega) (by omega)).1 i3
  omega
theorem Flat.q0 {s : SF} {n : Int} (h : s.Flat n) : ∀ i, 1 ≤ i → i ≤ 9 → s.here i = true → s.quota i = 0 := fun i a b c => by
  have := (h.here i (by omega) (by omega)).1 c; omega
theorem init_flat : SF.init.Flat 0 := ⟨by omega, fun i a b => ⟨fun c => (by
  have h2 : fset (fun _ : Int => false) 0 true i = true := c
  rw [fset_ne _ _ (by omega)] at h2; cases h2), fun c => by omega⟩, fun i a b => by omega⟩
theorem Flat.add {s : SF} {n : Int} (h : s.Flat n) (hn : n < 20) (w : Int) : (s.newU (10 + n) 0 w true).Flat (n + 1) := by
  refine ⟨by have := h.n0; omega, fun i a b => ?_, fun i a b => ?_⟩
  · show fset s.here (10 + n) true i = true ↔ _
    have hn0 := h.n0
    by_cases e : i = 10 + n
    · subst e; rw [fset_eq]; simp; omega
    · rw [fset_ne _ _ e, h.here i a b]; omega
  · show fset s.par (10 + n) 0 i = 0
    by_cases e : i = 10 + n
    · subst e; rw [fset_eq]
    · rw [fset_ne _ _ e]; exact h.par i a (by omega)
theorem wake_keeps {s : SF} {d : Int → Nat} {x : Int} {on : Bool} : (s.wake d x on).here = s.here ∧ (s.wake d x on).par = s.par ∧ (s.wake d x on).wt = s.wt ∧ (s.wake d x on).floor = s.floor ∧ (s.wake d x on).quota = s.quota ∧ (s.wake d x on).frz = s.frz ∧ (s.wake d x on).ran = s.ran := by
  unfold wake
  split
  · obtain ⟨a1, a2, a3, a4, a5, a6, a7, a8, a9, a10, a11⟩ := lookF_keeps (d (10 + x) + 1) { s with awake := fset s.awake (10 + x) on } (10 + x)
    exact ⟨a1, a2, a3, a6, a8, a7, a4⟩
  · exact ⟨rfl, rfl, rfl, rfl, rfl, rfl, rfl⟩
theorem wake_awake {s : SF} {d : Int → Nat} {x : Int} {on : Bool} (h : s.tkE x = 0) : (s.wake d x on).awake = fset s.awake (10 + x) on := by
  rw [wake_eq h]
  exact (lookF_keeps (d (10 + x) + 1) { s with awake := fset s.awake (10 + x) on } (10 + x)).2.2.2.2.1
/-- who wakes changes nobody else's time -/
theorem Flat.wake_v {s : SF} {d : Int → Nat} {n : Int} (h : s.Flat n) (hI : s.Inv d) (hs : s.Settled) {x : Int} {on : Bool} (hx : s.tkE x = 0) : (∀ m, m ≠ 10 + x → (s.wake d x on).v m = s.v m) ∧ (s.awake (10 + x) = true ∨ on = false → (s.wake d x on).v (10 + x) = s.v (10 + x)) := by
  obtain ⟨i1, i2, i3⟩ := tkE_0 hx
  have hr := hs (10 + x) (by omega) (by omega) i3
  have hr2 : s.was (10 + x) = s.awake (10 + x) := by rw [hr]; unfold ready; rw [if_pos (by omega)]
  have hp := h.par (10 + x) (by omega) (by have := h.tkE x hx; omega)
  have e : s.wake d x on = SF.stp { s with awake := fset s.awake (10 + x) on } (10 + x) := by
    rw [wake_eq hx]
    unfold look
    rw [lookF_go _ _ (by omega)]
    refine lookF_stop _ _ ?_
    show s.par (10 + x) ≤ 0
    omega
  have hrd : SF.ready { s with awake := fset s.awake (10 + x) on } (10 + x) = on := by
    unfold ready; rw [if_pos (by omega)]; exact fset_eq _ _ _
  rw [e]
  refine ⟨fun m hm => fset_ne _ _ hm, fun ho => ?_⟩
  show fset s.v (10 + x) (if SF.ready { s with awake := fset s.awake (10 + x) on } (10 + x) = true ∧ s.was (10 + x) = false then max (s.v (10 + x)) (s.floor (s.par (10 + x))) else s.v (10 + x)) (10 + x) = s.v (10 + x)
  rw [fset_eq, hrd, hr2, if_neg]
  rintro ⟨q1, q2⟩
  rcases ho with q | q
  · rw [q] at q2; cases q2
  · rw [q] at q1; cases q1
theorem Flat.keep {s t : SF} {n : Int} (h : s.Flat n) (h1 : t.here = s.here) (h2 : t.par = s.par) : t.Flat n := ⟨h.n0, by rw [h1]; exact h.here, by rw [h2]; exact h.par⟩
theorem Ok.was_tk {s : SF} {d : Int → Nat} {m : Nat} {t : Int} (h : s.Ok d m t) {x : Int} (h0 : 10 ≤ x) (h1 : x < 30) (h2 : s.here x = true) : s.was x = s.awake x := by
  rw [h.set x (by omega) h1 h2]; unfold ready; rw [if_pos h0]
/-- a tick of a flat one, somebody being awake -/
theorem Flat.tick {s : SF} {d : Int → Nat} {n : Int} {m : Nat} {t : Int} (h : s.Flat n) (hO : s.Ok d m t) (ht : 0 ≤ t) {y : Int} (hy : 10 ≤ y ∧ y < 10 + n) (hay : s.awake y = true) :
    ∃ b, (s.tick d).1 = b - 10 ∧ (10 ≤ b ∧ b < 10 + n) ∧ s.awake b = true ∧ (∀ m, m ≠ b → (s.tick d).2.v m = s.v m ∧ (s.tick d).2.ran m = s.ran m) ∧ (s.tick d).2.v b = s.v b + 1048576 / s.wt b ∧ (s.tick d).2.ran b = s.ran b + 1 ∧
      (s.tick d).2.here = s.here ∧ (s.tick d).2.par = s.par ∧ (s.tick d).2.wt = s.wt ∧ (s.tick d).2.awake = s.awake := by
  have h0 := hO.tick0 ht
  have e0 := tick0_flat (d := d) h.q0
  have hn0 := h.n0
  have hyh : s.here y = true := (h.here y (by omega) (by omega)).2 hy
  have hw : ¬ who d s < 0 := fun q => by
    have h1 := (tick_no h0 q).2 y
    rw [e0] at h1
    exact h1 (by rw [← hay]; exact hO.was_tk hy.1 (by omega) hyh) (h.par y hy.1 hy.2)
  obtain ⟨⟨b1, b2, b3⟩, hu, e⟩ := tick_yes h0 hw
  have hB := (upB_is (by omega) hu).1
  rw [e0] at b3 hB
  have hbn := (h.here _ (by omega) b2).1 b3
  have hpb := h.par _ hbn.1 hbn.2
  have hk := chgF_keeps (d (who d s) + 1) (s.tick0 d) (who d s)
  have ha := fun m => chgF_at (d (who d s) + 1) (s.tick0 d) (who d s) m h0.inv (.inr ⟨by omega, b2, by rw [e0]; exact b3⟩)
  have hup : ∀ m, up (s.tick0 d).par (d (who d s) + 1) (who d s) m ↔ m = who d s := fun m => up_one (by omega) (by rw [e0]; exact hpb) _ m
  refine ⟨who d s, by rw [e], hbn, ?_, fun m hm => ?_, ?_, ?_, ?_, ?_, ?_, ?_⟩
  · rw [← hO.was_tk b1 b2 b3]; exact hB.1
  · rw [e]
    obtain ⟨a1, a2, _⟩ := (ha m).2 (fun q => hm ((hup m).1 q))
    rw [a1, a2, e0]; exact ⟨rfl, rfl⟩
  · rw [e]
    rw [((ha (who d s)).1 ((hup _).2 rfl)).1, e0]
  · rw [e]
    rw [((ha (who d s)).1 ((hup _).2 rfl)).2.1, e0]
  · rw [e, hk.1, e0]
  · rw [e, hk.2.1, e0]
  · rw [e, hk.2.2.1, e0]
  · rw [e, hk.2.2.2.1, e0]
end SF
def dW : Int → Nat := fun i => if i = 0 then 0 else 1
namespace SF
theorem dW_le (n : Int) : dW n ≤ 1 := by unfold dW; split <;> omega
theorem Ok.one {s : SF} {m : Nat} {t : Int} (h : s.Ok dW m t) : s.Ok dW 1 t := ⟨h.inv, fun n _ _ => dW_le n, h.set, h.tk, h.small, h.now⟩
theorem init_okd {d : Int → Nat} {m : Nat} (hd : ∀ n, d n ≤ m) : SF.init.Ok d m 0 :=
  ⟨⟨init_ok.inv.h0, fun n a b c => (by
    have h2 : fset (fun _ : Int => false) 0 true n = true := c
    rw [fset_ne _ _ (by omega)] at h2; cases h2), init_ok.inv.was, init_ok.inv.quo, init_ok.inv.wt⟩, fun n _ _ => hd n, init_ok.set, init_ok.tk, init_ok.small, init_ok.now⟩
structure TW (s : SF) (n : Int) (T : Int) : Prop where
  ok : s.Ok dW 1 T
  flat : s.Flat n
  ab : s.AB
theorem TW.init : SF.init.TW 0 0 := ⟨init_okd dW_le, init_flat, AB.init⟩
theorem TW.noadd {s : SF} {n w : Int} (hE : s.addTE n 0 w ≠ 0) : s.addT n 0 w = s := by unfold SF.addT; rw [if_neg hE]
theorem TW.add {s : SF} {n T w : Int} (h : s.TW n T) (hT : 0 ≤ T) (hn : n < 20) (hE : s.addTE n 0 w = 0) :
    (s.addT n 0 w).TW (n + 1) T ∧ (1 ≤ w ∧ w ≤ 1000) ∧ (s.addT n 0 w).wt = fset s.wt (10 + n) w ∧ (s.addT n 0 w).awake = fset s.awake (10 + n) false := by
  have e : s.addT n 0 w = s.newU (10 + n) 0 w true := by unfold SF.addT; rw [if_pos hE]
  have hn0 := h.flat.n0
  have hw : 1 ≤ w ∧ w ≤ 1000 := by
    unfold addTE at hE
    split at hE <;> omega
  have hh : s.here (10 + n) = false := by
    cases q : s.here (10 + n) with
    | false => rfl
    | true => have := (h.flat.here (10 + n) (by omega) (by omega)).1 q; omega
  have hd : fset dW (10 + n) (dW 0 + 1) = dW := fset_same _ (by unfold dW; rw [if_neg (by omega)]; rfl)
  have h1 := h.ok.add hT (z := 10 + n) (p := 0) ⟨by omega, by omega⟩ hh ⟨by omega, by omega, h.ok.inv.h0⟩ hw.1
  rw [hd] at h1
  rw [e]
  exact ⟨⟨h1.one, h.flat.add hn w, AB.add h.ok h.ab hh ⟨by omega, by omega, h.ok.inv.h0⟩ hw.1⟩, hw, rfl, rfl⟩
theorem TW.wake {s : SF} {n T : Int} (h : s.TW n T) (x : Int) (on : Bool) : (s.wake dW x on).TW n T :=
  ⟨h.ok.wake x on, h.flat.keep wake_keeps.1 wake_keeps.2.1, AB.wake h.ok.inv h.ab x on⟩
theorem TW.nowake {s : SF} {x : Int} {on : Bool} (hE : s.tkE x ≠ 0) (d : Int → Nat) : s.wake d x on = s := by unfold SF.wake; rw [if_neg hE]
structure WK (t : SF) (n : Int) (mine ran : Int → Int) (aw : Int → Bool) (T : Int) : Prop where
  tw : t.TW n T
  n1 : 1 ≤ n
  aw0 : t.awake 10 = true
  wt0 : t.wt 10 = 7
  aw : ∀ x, 1 ≤ x → x < n → aw x = t.awake (10 + x)
  bd : ∀ x, 1 ≤ x → x < n → 0 ≤ mine x ∧ mine x ≤ T ∧ 0 ≤ ran x ∧ ran x ≤ T
  fair : ∀ x, 1 ≤ x → x < n → t.awake (10 + x) = true → mine x * (1048576 / t.wt (10 + x)) - ran x * 149796 ≤ t.v (10 + x) - t.v 10 + 149796
theorem WK.here {t : SF} {n : Int} {mine ran : Int → Int} {aw : Int → Bool} {T : Int} (h : WK t n mine ran aw T) {x : Int} (h0 : 0 ≤ x) (h1 : x < n) : t.here (10 + x) = true := by
  have := h.tw.flat.n0
  exact (h.tw.flat.here (10 + x) (by omega) (by omega)).2 ⟨by omega, by omega⟩
theorem WK.near {t : SF} {n : Int} {mine ran : Int → Int} {aw : Int → Bool} {T : Int} (h : WK t n mine ran aw T) : t.floor 0 ≤ t.v 10 ∧ t.v 10 ≤ t.floor 0 + 149796 := by
  have hh : t.here 10 = true := h.here (x := 0) (by omega) (by have := h.n1; omega)
  have hp := h.tw.flat.par 10 (by omega) (by have := h.n1; omega)
  obtain ⟨a, b⟩ := h.tw.ab 10 (by omega) (by omega) hh
  rw [hp] at a b
  rw [h.wt0, show (1048576 : Int) / 7 = 149796 from by decide] at b
  exact ⟨a (by rw [h.tw.ok.was_tk (by omega) (by omega) hh]; exact h.aw0), b⟩
theorem WK.unit {t : SF} {n : Int} {mine ran : Int → Int} {aw : Int → Bool} {T : Int} (h : WK t n mine ran aw T) {x : Int} (h0 : 0 ≤ x) (h1 : x < n) : (t.awake (10 + x) = true → t.floor 0 ≤ t.v (10 + x)) ∧ t.v (10 + x) ≤ t.floor 0 + 1048576 / t.wt (10 + x) := by
  have hn := h.tw.flat.n0
  have hh := h.here h0 h1
  have hp := h.tw.flat.par (10 + x) (by omega) (by omega)
  obtain ⟨a, b⟩ := h.tw.ab (10 + x) (by omega) (by omega) hh
  rw [hp] at a b
  exact ⟨fun q => a (by rw [h.tw.ok.was_tk (by omega) (by omega) hh]; exact q), b⟩
theorem WK.check {t : SF} {n : Int} {mine ran : Int → Int} {aw : Int → Bool} {T : Int} (h : WK t n mine ran aw T) {x : Int} (h0 : 1 ≤ x) (h1 : x < n) (ha : aw x = true) :
    mine x * (1048576 / t.wt (10 + x)) - ran x * 149796 ≤ 1048576 / t.wt (10 + x) + 149796 := by
  have h2 := h.fair x h0 h1 (by rw [← h.aw x h0 h1]; exact ha)
  have h3 := (h.unit (x := x) (by omega) h1).2
  have h4 := h.near.1
  omega
theorem WK.ext {t : SF} {n : Int} {mine ran mine' ran' : Int → Int} {aw : Int → Bool} {T : Int} (h : WK t n mine ran aw T) (hm : ∀ x, 1 ≤ x → x < n → mine' x = mine x ∧ ran' x = ran x) : WK t n mine' ran' aw T :=
  ⟨h.tw, h.n1, h.aw0, h.wt0, h.aw, fun x a b => by rw [(hm x a b).1, (hm x a b).2]; exact h.bd x a b, fun x a b c => by rw [(hm x a b).1, (hm x a b).2]; exact h.fair x a b c⟩
theorem WK.more {t : SF} {n : Int} {mine ran : Int → Int} {aw : Int → Bool} {T T' : Int} (h : WK t n mine ran aw T) (hT : T ≤ T') : WK t n mine ran aw T' :=
  ⟨⟨h.tw.ok.mono (Nat.le_refl _) hT, h.tw.flat, h.tw.ab⟩, h.n1, h.aw0, h.wt0, h.aw, fun x a b => by have := h.bd x a b; omega, h.fair⟩
theorem WK.awakes {t : SF} {n : Int} {mine ran : Int → Int} {aw : Int → Bool} {T : Int} (h : WK t n mine ran aw T) {a : Int} {on : Bool} (hE : t.tkE a = 0) : ∀ x, 1 ≤ x → x < n → fset aw a on x = (t.wake dW a on).awake (10 + x) := fun x x0 x1 => by
  rw [wake_awake hE]
  by_cases c : x = a
  · subst c; rw [fset_eq, fset_eq]
  · rw [fset_ne _ _ c, fset_ne _ _ (by omega)]; exact h.aw x x0 x1
theorem WK.aw0' {t : SF} {n : Int} {mine ran : Int → Int} {aw : Int → Bool} {T : Int} (h : WK t n mine ran aw T) {a : Int} {on : Bool} (ha : a ≠ 0) (hE : t.tkE a = 0) : (t.wake dW a on).awake 10 = true := by
  rw [wake_awake hE, fset_ne _ _ (by omega)]; exact h.aw0
theorem WK.wake {t : SF} {n : Int} {mine ran : Int → Int} {aw : Int → Bool} {T : Int} (h : WK t n mine ran aw T) {a : Int} {on : Bool} (ha : a ≠ 0) (hE : t.tkE a = 0) (hc : on = false ∨ aw a = true) : WK (t.wake dW a on) n mine ran (fset aw a on) T := by
  obtain ⟨k1, k2, k3, k4, k5, k6, k7⟩ := wake_keeps (s := t) (d := dW) (x := a) (on := on)
  have han := h.tw.flat.tkE a hE
  obtain ⟨v1, v2⟩ := h.tw.flat.wake_v h.tw.ok.inv h.tw.ok.set (on := on) hE
  have hv : ∀ m, (t.wake dW a on).v m = t.v m := fun m => by
    by_cases c : m = 10 + a
    · subst c; refine v2 ?_
      rcases hc with q | q
      · exact .inr q
      · exact .inl (by rw [← h.aw a (by omega) han.2]; exact q)
    · exact v1 m c
  refine ⟨h.tw.wake a on, h.n1, h.aw0' ha hE, by rw [k3]; exact h.wt0, h.awakes hE, h.bd, fun x x0 x1 x2 => ?_⟩
  rw [hv, hv, k3]
  rw [wake_awake hE] at x2
  by_cases c : x = a
  · subst c
    rw [fset_eq] at x2
    refine h.fair x x0 x1 ?_
    rcases hc with q | q
    · rw [q] at x2; cases x2
    · rw [← h.aw x x0 x1]; exact q
  · rw [fset_ne _ _ (by omega)] at x2; exact h.fair x x0 x1 x2
theorem WK.wakes {t : SF} {n : Int} {mine ran : Int → Int} {aw : Int → Bool} {T : Int} (h : WK t n mine ran aw T) (hT : 0 ≤ T) {a : Int} (ha : a ≠ 0) (hE : t.tkE a = 0) : WK (t.wake dW a true) n (fset mine a 0) (fset ran a 0) (fset aw a true) T := by
  obtain ⟨k1, k2, k3, k4, k5, k6, k7⟩ := wake_keeps (s := t) (d := dW) (x := a) (on := true)
  have han := h.tw.flat.tkE a hE
  have hn := h.tw.flat.n0
  obtain ⟨v1, v2⟩ := h.tw.flat.wake_v h.tw.ok.inv h.tw.ok.set (on := true) hE
  have hw := h.tw.wake a true
  refine ⟨hw, h.n1, h.aw0' ha hE, by rw [k3]; exact h.wt0, h.awakes hE, fun x x0 x1 => ?_, fun x x0 x1 x2 => ?_⟩
  · have := h.bd x x0 x1
    unfold fset; split <;> omega
  · rw [wake_awake hE] at x2
    rw [v1 10 (by omega), k3]
    by_cases c : x = a
    · subst c
      rw [fset_eq, fset_eq]
      have hh : (t.wake dW x true).here (10 + x) = true := by rw [k1]; exact h.here (by omega) x1
      obtain ⟨a1, _⟩ := hw.ab (10 + x) (by omega) (by omega) hh
      have a2 := a1 (by rw [hw.ok.was_tk (by omega) (by omega) hh, wake_awake hE, fset_eq])
      rw [k4, k2, h.tw.flat.par (10 + x) (by omega) (by omega)] at a2
      have := h.near.2
      omega
    · rw [fset_ne _ _ (by omega)] at x2
      rw [fset_ne _ _ c, fset_ne _ _ c, v1 _ (by omega)]
      exact h.fair x x0 x1 x2
theorem WK.tick {t : SF} {n : Int} {mine ran : Int → Int} {aw : Int → Bool} {T : Int} (h : WK t n mine ran aw T) (hT : 0 ≤ T) :
    (0 ≤ (t.tick dW).1 ∧ (t.tick dW).1 < n) ∧ (0 < (t.tick dW).1 → aw (t.tick dW).1 = true) ∧
    WK (t.tick dW).2 n (fun x => mine x + if (t.tick dW).1 = x then 1 else 0) (fun x => ran x + if (t.tick dW).1 = 0 then 1 else 0) aw (T + 1) ∧ (t.tick dW).2.wt = t.wt := by
  have hn := h.tw.flat.n0
  obtain ⟨b, e, hb, hab, ho, hv, hr, k1, k2, k3, k4⟩ := h.tw.flat.tick h.tw.ok hT (y := 10) ⟨by omega, by have := h.n1; omega⟩ h.aw0
  rw [e]
  refine ⟨by omega, fun q => ?_, ⟨⟨h.tw.ok.tick hT (by omega), h.tw.flat.keep k1 k2, AB.tick h.tw.ok hT h.tw.ab⟩, h.n1, by rw [k4]; exact h.aw0, by rw [k3]; exact h.wt0, fun x a b => by rw [k4]; exact h.aw x a b, fun x a c => ?_, fun x a c q => ?_⟩, k3⟩
  · rw [h.aw _ (by omega) (by omega), show 10 + (b - 10) = b by omega]; exact hab
  · have := h.bd x a c
    show 0 ≤ mine x + (if b - 10 = x then 1 else 0) ∧ mine x + (if b - 10 = x then 1 else 0) ≤ T + 1 ∧ 0 ≤ ran x + (if b - 10 = 0 then 1 else 0) ∧ ran x + (if b - 10 = 0 then 1 else 0) ≤ T + 1
    split <;> split <;> omega
  · rw [k4] at q
    have h1 := h.fair x a c q
    show (mine x + (if b - 10 = x then 1 else 0)) * (1048576 / (t.tick dW).2.wt (10 + x)) - (ran x + (if b - 10 = 0 then 1 else 0)) * 149796 ≤ (t.tick dW).2.v (10 + x) - (t.tick dW).2.v 10 + 149796
    rw [k3]
    by_cases c1 : b = 10 + x
    · rw [if_pos (by omega), if_neg (by omega), (ho 10 (by omega)).1, ← c1, hv, c1, Int.add_mul, Int.one_mul]
      omega
    · rw [if_neg (by omega), (ho _ (fun z => c1 z.symm)).1]
      by_cases c2 : b = 10
      · subst c2
        rw [if_pos (by omega), hv, h.wt0, show (1048576 : Int) / 7 = 149796 from by decide]
        rw [show mine x + 0 = mine x by omega]
        omega
      · rw [if_neg (by omega), (ho 10 (fun z => c2 z.symm)).1, show mine x + 0 = mine x by omega]
        omega
end SF
def W1 : SF := SF.init.addT 0 0 7
def W2 : SF := W1.wake dW 0 true
theorem wA : SF.init.addTE 0 0 7 = 0 := by decide +kernel
theorem wB : W1.tkE 0 = 0 := by decide +kernel
theorem W1_tw : W1.TW 1 0 := (SF.TW.init.add (by omega) (by omega) wA).1
theorem W2_tw : W2.TW 1 0 := W1_tw.wake 0 true
theorem W2_aw : W2.awake 10 = true := by decide +kernel
theorem W2_wt : W2.wt 10 = 7 := by decide +kernel
theorem SF.WK.start {t : SF} {n : Int} (h : t.TW n 0) (hn : 1 ≤ n) (ha : t.awake 10 = true) (hw : t.wt 10 = 7) (hx : ∀ x, 1 ≤ x → x < n → t.awake (10 + x) = false) : SF.WK t n (fun _ => 0) (fun _ => 0) (fun _ => false) 0 :=
  ⟨h, hn, ha, hw, fun x a b => (hx x a b).symm, fun x a b => by show (0 : Int) ≤ 0 ∧ (0 : Int) ≤ 0 ∧ (0 : Int) ≤ 0 ∧ (0 : Int) ≤ 0; omega, fun x a b c => by rw [hx x a b] at c; cases c⟩

end Go.X
