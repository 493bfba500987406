import Derived.Test.YtfpdkhncfkefhaaFP
namespace Go.X
open Go
namespace SF
theorem lookF_off {d : Int → Nat} : ∀ (k : Nat) (s : SF) (n : Int), s.Inv d → (n = 0 ∨ (0 < n ∧ n < 30 ∧ s.here n = true)) → ∀ i, (n = 0 ∨ d n < d i) → (lookF k s n).was i = s.was i ∧ (lookF k s n).v i = s.v i
  | 0, s, n, _, _, i, _ => ⟨rfl, rfl⟩
  | k + 1, s, n, h, hn, i, hi => by
    rcases hn with rfl | ⟨n0, n1, n2⟩
    · rw [lookF_stop _ _ (by omega)]; exact ⟨rfl, rfl⟩
    · rw [lookF_go _ _ n0]
      obtain ⟨p0, p1, p2, p3⟩ := h.up n n0 n1 n2
      have hd : d n < d i := by
        rcases hi with q | q
        · omega
        · exact q
      have hin : ¬ i = n := fun e => by subst e; omega
      have ih := lookF_off k (s.stp n) (s.par n) (h.stp n0 n1 n2) (by
        by_cases c : s.par n = 0
        · exact .inl c
        · exact .inr ⟨by omega, by omega, p2⟩) i (.inr (by omega))
      have e1 : (s.stp n).was i = s.was i := fset_ne _ _ hin
      have e2 : (s.stp n).v i = s.v i := fset_ne _ _ hin
      rw [ih.1, ih.2, e1, e2]; exact ⟨rfl, rfl⟩
theorem look_at {s : SF} {d : Int → Nat} (h : s.Inv d) {n : Int} (n0 : 0 < n) (n1 : n < 30) (n2 : s.here n = true) : (look d s n).was n = s.ready n := by
  unfold look
  rw [lookF_go _ _ n0]
  obtain ⟨p0, p1, p2, p3⟩ := h.up n n0 n1 n2
  have e := (lookF_off (d n) (s.stp n) (s.par n) (h.stp n0 n1 n2) (by
    by_cases c : s.par n = 0
    · exact .inl c
    · exact .inr ⟨by omega, by omega, p2⟩) n (.inr p3)).1
  rw [e]
  exact fset_eq _ _ _
theorem look_inv {s : SF} {d : Int → Nat} (h : s.Inv d) {n : Int} (hn : n = 0 ∨ (0 < n ∧ n < 30 ∧ s.here n = true)) : (look d s n).Inv d := lookF_inv _ _ _ h hn
theorem look_here (d : Int → Nat) (s : SF) (n : Int) : (look d s n).here = s.here := (lookF_keeps _ _ _).1
theorem look_par (d : Int → Nat) (s : SF) (n : Int) : (look d s n).par = s.par := (lookF_keeps _ _ _).2.1
/-- who is first in a group -/
def IsB (s : SF) (g b : Int) : Prop := s.was b = true ∧ s.par b = g ∧ ∀ i, s.was i = true → s.par i = g → ¬ lt2 (s.v i) i (s.v b) b
theorem IsB.uniq {s : SF} {g b b' : Int} (h : s.IsB g b) (h' : s.IsB g b') : b = b' := by
  have h1 := h.2.2 b' h'.1 h'.2.1
  have h2 := h'.2.2 b h.1 h.2.1
  unfold lt2 at h1 h2
  omega
theorem bestN_spec (s : SF) (g : Int) : ∀ (k : Nat), k ≤ 29 → (bestN s g k < 0 → ∀ i, 29 - (k : Int) < i → i ≤ 29 → ¬ (s.was i = true ∧ s.par i = g)) ∧
    (¬ bestN s g k < 0 → 29 - (k : Int) < bestN s g k ∧ bestN s g k ≤ 29 ∧ s.was (bestN s g k) = true ∧ s.par (bestN s g k) = g ∧ ∀ i, 29 - (k : Int) < i → i ≤ 29 → s.was i = true → s.par i = g → ¬ lt2 (s.v i) i (s.v (bestN s g k)) (bestN s g k))
  | 0, _ => ⟨fun _ i h1 h2 => by omega, fun h => absurd (by show (-1 : Int) < 0; omega) h⟩
  | k + 1, hk => by
    obtain ⟨h1, h2⟩ := bestN_spec s g k (by omega)
    have e : bestN s g (k + 1) = if s.was (29 - (k : Int)) = true ∧ s.par (29 - (k : Int)) = g ∧ (bestN s g k < 0 ∨ s.v (29 - (k : Int)) ≤ s.v (bestN s g k)) then 29 - (k : Int) else bestN s g k := rfl
    by_cases c : s.was (29 - (k : Int)) = true ∧ s.par (29 - (k : Int)) = g ∧ (bestN s g k < 0 ∨ s.v (29 - (k : Int)) ≤ s.v (bestN s g k))
    · rw [e, if_pos c]
      refine ⟨fun q => by omega, fun _ => ⟨by push_cast; omega, by omega, c.1, c.2.1, fun i i0 i1 i2 i3 hl => ?_⟩⟩
      by_cases ci : i = 29 - (k : Int)
      · subst ci; unfold lt2 at hl; omega
      · by_cases cb : bestN s g k < 0
        · exact h1 cb i (by push_cast at i0; omega) i1 ⟨i2, i3⟩
        · have h3 := h2 cb
          have h4 := h3.2.2.2.2 i (by push_cast at i0; omega) i1 i2 i3
          rcases c.2.2 with q | q
          · exact cb q
          · unfold lt2 at hl h4; omega
    · rw [e, if_neg c]
      refine ⟨fun q i i0 i1 i2 => ?_, fun q => ?_⟩
      · by_cases ci : i = 29 - (k : Int)
        · subst ci; exact c ⟨i2.1, i2.2, .inl q⟩
        · exact h1 q i (by push_cast at i0; omega) i1 i2
      · obtain ⟨g1, g2, g3, g4, g5⟩ := h2 q
        refine ⟨by push_cast; omega, g2, g3, g4, fun i i0 i1 i2 i3 hl => ?_⟩
        by_cases ci : i = 29 - (k : Int)
        · subst ci
          have : ¬ s.v (29 - (k : Int)) ≤ s.v (bestN s g k) := fun z => c ⟨i2, i3, .inr z⟩
          unfold lt2 at hl; omega
        · exact g5 i (by push_cast at i0; omega) i1 i2 i3 hl
theorem best_no {s : SF} {g : Int} (hw : ∀ i, s.was i = true → 0 < i ∧ i < 30) (h : s.best g < 0) : ∀ i, s.was i = true → s.par i ≠ g := fun i hi e => by
  have := hw i hi
  exact (bestN_spec s g 29 (by omega)).1 h i (by omega) (by omega) ⟨hi, e⟩
theorem best_is {s : SF} {g : Int} (hw : ∀ i, s.was i = true → 0 < i ∧ i < 30) (h : ¬ s.best g < 0) : s.IsB g (s.best g) ∧ 0 < s.best g ∧ s.best g < 30 := by
  obtain ⟨h1, h2, h3, h4, h5⟩ := (bestN_spec s g 29 (by omega)).2 h
  exact ⟨⟨h3, h4, fun i i2 i3 => by
    have := hw i i2
    exact h5 i (by omega) (by omega) i2 i3⟩, by have : 29 - ((29 : Nat) : Int) < bestN s g 29 := h1; unfold best; omega, by unfold best; omega⟩
theorem maxD_le (d : Int → Nat) : ∀ (k : Nat) (n : Int), 0 ≤ n → n < k → d n ≤ maxD d k
  | 0, n, h0, h1 => by omega
  | k + 1, n, h0, h1 => by
    show d n ≤ max (maxD d k) (d (k : Int))
    by_cases c : n = (k : Int)
    · subst c; omega
    · have := maxD_le d k n h0 (by omega); omega
theorem dsc_end (s : SF) (k : Nat) {a : Int} (h : 10 ≤ a) : dsc s k a = a := by
  cases k with
  | zero => rfl
  | succ k => show (if 10 ≤ a then a else _) = a; rw [if_pos h]
theorem dsc_go (s : SF) (k : Nat) {a : Int} (h : ¬ 10 ≤ a) (hb : ¬ s.best a < 0) : dsc s (k + 1) a = dsc s k (s.best a) := by
  show (if 10 ≤ a then a else if s.best a < 0 then -1 else dsc s k (s.best a)) = _
  rw [if_neg h, if_neg hb]
theorem dsc_no (s : SF) (k : Nat) {a : Int} (h : ¬ 10 ≤ a) (hb : s.best a < 0) : dsc s (k + 1) a = -1 := by
  show (if 10 ≤ a then a else if s.best a < 0 then -1 else dsc s k (s.best a)) = _
  rw [if_neg h, if_pos hb]
theorem chgF_stop (k : Nat) (s : SF) {n : Int} (h : n ≤ 0) : chgF k s n = s := by
  cases k with
  | zero => rfl
  | succ k => show (if n ≤ 0 then s else _) = s; rw [if_pos h]
theorem chgF_go (k : Nat) (s : SF) {n : Int} (h : 0 < n) : chgF (k + 1) s n = chgF k (s.chg n) (s.par n) := by
  show (if n ≤ 0 then s else chgF k (s.chg n) (s.par n)) = _
  rw [if_neg (by omega)]
/-- all on the way up stand in their queues -/
def upW (s : SF) : Nat → Int → Prop
  | 0, n => n ≤ 0
  | k + 1, n => n ≤ 0 ∨ (s.was n = true ∧ upW s k (s.par n))
theorem Inv.chg {s : SF} {d : Int → Nat} (h : s.Inv d) {n : Int} (h0 : 0 < n) (h1 : n < 30) (h2 : s.here n = true) : (s.chg n).Inv d := by
  refine ⟨h.h0, h.up, fun i hi => ?_, h.quo, h.wt⟩
  have e : (s.chg n).was i = fset s.was n ((s.chg1 n).ready n) i := rfl
  rw [e] at hi
  by_cases c : i = n
  · subst c; exact ⟨h0, h1, h2⟩
  · rw [fset_ne _ _ c] at hi; exact h.was i hi
theorem upW_chg {s : SF} {d : Int → Nat} (h : s.Inv d) {n : Int} : ∀ (k : Nat) (m : Int), (m = 0 ∨ (0 < m ∧ m < 30 ∧ s.here m = true)) → d m < d n → upW s k m → upW (s.chg n) k m
  | 0, m, _, _, hu => hu
  | k + 1, m, hm, hd, hu => by
    rcases hu with hu | ⟨hu1, hu2⟩
    · exact .inl hu
    · rcases hm with rfl | ⟨m0, m1, m2⟩
      · exact .inl (Int.le_refl _)
      · refine .inr ⟨?_, ?_⟩
        · show fset s.was n _ m = true
          rw [fset_ne _ _ (fun e => by subst e; omega)]; exact hu1
        · obtain ⟨p0, p1, p2, p3⟩ := h.up m m0 m1 m2
          exact upW_chg h k (s.par m) (by
            by_cases c : s.par m = 0
            · exact .inl c
            · exact .inr ⟨by omega, by omega, p2⟩) (by omega) hu2
theorem fset_bd {f : Int → Int} {n v i lo hi : Int} (h1 : lo ≤ f i ∧ f i ≤ hi) (h2 : lo ≤ v ∧ v ≤ hi) : lo ≤ fset f n v i ∧ fset f n v i ≤ hi := by
  by_cases c : i = n
  · subst c; rw [fset_eq]; exact h2
  · rw [fset_ne _ _ c]; exact h1
theorem Small.mono {s : SF} {B B' : Int} (h : s.Small B) (hb : B ≤ B') : s.Small B' := fun n n0 n1 => by have := h n n0 n1; omega
theorem Small.chg {s : SF} {d : Int → Nat} (hI : s.Inv d) {B : Int} (h : s.Small B) {n : Int} (h0 : 0 < n) (h1 : n < 30) (h2 : s.here n = true) : (s.chg n).Small (B + 1048576) := fun i i0 i1 => by
  obtain ⟨p0, p1, p2, _⟩ := hI.up n h0 h1 h2
  have hw := hI.wt n (by omega) h1 h2
  have hn := h n (by omega) h1
  have hg := h (s.par n) p0 (by omega)
  have hi := h i i0 i1
  have hq : 0 ≤ 1048576 / s.wt n ∧ 1048576 / s.wt n ≤ 1048576 := ⟨Int.ediv_nonneg (by omega) (by omega), Int.ediv_le_self _ (by omega)⟩
  have a1 : 0 ≤ fset s.v n (s.v n + 1048576 / s.wt n) i ∧ fset s.v n (s.v n + 1048576 / s.wt n) i ≤ B + 1048576 := fset_bd (by omega) (by omega)
  have a2 : 0 ≤ fset s.floor (s.par n) (max (s.floor (s.par n)) (s.v n)) i ∧ fset s.floor (s.par n) (max (s.floor (s.par n)) (s.v n)) i ≤ B + 1048576 := fset_bd (by omega) (by omega)
  have a3 : 0 ≤ fset s.ran n (s.ran n + 1) i ∧ fset s.ran n (s.ran n + 1) i ≤ B + 1048576 := fset_bd (by omega) (by omega)
  have a4 : 0 ≤ (if 0 < s.quota n then fset s.used n (s.used n + 1) else s.used) i ∧ (if 0 < s.quota n then fset s.used n (s.used n + 1) else s.used) i ≤ B + 1048576 := by
    by_cases c : 0 < s.quota n
    · rw [if_pos c]; exact fset_bd (by omega) (by omega)
    · rw [if_neg c]; omega
  exact ⟨a1.1, a1.2, a2.1, a2.2, a3.1, a3.2, a4.1, a4.2⟩
theorem Small.stp {s : SF} {d : Int → Nat} (hI : s.Inv d) {B : Int} (h : s.Small B) {n : Int} (h0 : 0 < n) (h1 : n < 30) (h2 : s.here n = true) : (s.stp n).Small B := fun i i0 i1 => by
  obtain ⟨p0, p1, p2, _⟩ := hI.up n h0 h1 h2
  have hn := h n (by omega) h1
  have hg := h (s.par n) p0 (by omega)
  have hi := h i i0 i1
  have key : 0 ≤ (s.stp n).v i ∧ (s.stp n).v i ≤ B := by
    show 0 ≤ fset s.v n (if s.ready n = true ∧ s.was n = false then max (s.v n) (s.floor (s.par n)) else s.v n) i ∧ fset s.v n (if s.ready n = true ∧ s.was n = false then max (s.v n) (s.floor (s.par n)) else s.v n) i ≤ B
    refine fset_bd (by omega) ?_
    split <;> omega
  exact ⟨key.1, key.2, hi.2.2⟩
theorem Small.lookF {d : Int → Nat} {B : Int} : ∀ (k : Nat) (s : SF) (n : Int), s.Inv d → s.Small B → (n = 0 ∨ (0 < n ∧ n < 30 ∧ s.here n = true)) → (SF.lookF k s n).Small B
  | 0, s, n, _, h, _ => h
  | k + 1, s, n, hI, h, hn => by
    rcases hn with rfl | ⟨n0, n1, n2⟩
    · rw [lookF_stop _ _ (by omega)]; exact h
    · rw [lookF_go _ _ n0]
      obtain ⟨p0, p1, p2, _⟩ := hI.up n n0 n1 n2
      refine Small.lookF k (s.stp n) (s.par n) (hI.stp n0 n1 n2) (h.stp hI n0 n1 n2) ?_
      by_cases c : s.par n = 0
      · exact .inl c
      · exact .inr ⟨by omega, by omega, p2⟩
end SF
theorem SC.Rep.idle {s : SC} (h : s.Rep) {z : Int} (hw : s.was z = false) (t : SF) (ht : t.was = s.was) (hp : ∀ i, ¬ i = z → t.par i = s.par i) (hv : ∀ i, ¬ i = z → t.v i = s.v i) : SC.Rep { s with toSF := t } := fun g g0 g1 => by
  refine (h g g0 g1).ext (fun i _ _ => ?_) (fun i _ _ hi => ?_)
  · show (t.was i && decide (t.par i = g)) = (s.was i && decide (s.par i = g))
    rw [ht]
    by_cases ci : i = z
    · subst ci; rw [hw]; rfl
    · rw [hp i ci]
  · have ci : ¬ i = z := fun e => by
      subst e
      have := ((SF.mq_inn _ _ _).1 hi).1
      rw [hw] at this; cases this
    exact hv i ci
/-- the queue's first is the group's best -/
theorem SC.Rep.first {s : SC} (h : s.Rep) (hw : ∀ i, s.was i = true → 0 < i ∧ i < 30) {g : Int} (g0 : 0 ≤ g) (g1 : g < 30) : ((s.Q g).first.2.2 = true ↔ ¬ s.toSF.best g < 0) ∧ (¬ s.toSF.best g < 0 → (s.Q g).first.1 = s.toSF.best g) := by
  have hq := h g g0 g1
  by_cases hn : (s.Q g).n = 0
  · have e : (s.Q g).first = (0, 0, false) := by unfold QS.first; rw [if_pos hn]
    have hb : s.toSF.best g < 0 := by
      apply Classical.byContradiction
      intro c
      obtain ⟨⟨b1, b2, _⟩, b3, b4⟩ := SF.best_is hw c
      have := hq.len.2 ⟨_, by omega, by omega, (SF.mq_inn _ _ _).2 ⟨b1, b2⟩⟩
      omega
    rw [e]
    exact ⟨⟨fun q => (by cases q), fun q => absurd hb q⟩, fun q => absurd hb q⟩
  · have e : (s.Q g).first = ((s.Q g).I 0, (s.Q g).K 0, true) := by unfold QS.first; rw [if_neg hn]
    obtain ⟨⟨a0, a1⟩, a2, a3⟩ := hq.head (by omega)
    obtain ⟨c1, c2⟩ := (SF.mq_inn _ _ _).1 a2
    have hb : ¬ s.toSF.best g < 0 := fun q => SF.best_no hw q _ c1 c2
    have hB : s.toSF.IsB g ((s.Q g).I 0) := ⟨c1, c2, fun i i1 i2 => by
      have := hw i i1
      exact a3 i (by omega) (by omega) ((SF.mq_inn _ _ _).2 ⟨i1, i2⟩)⟩
    rw [e]
    exact ⟨⟨fun _ => hb, fun _ => rfl⟩, fun _ => hB.uniq (SF.best_is hw hb).1⟩
theorem SF.Inv.moved {s : SF} {d : Int → Nat} (h : s.Inv d) {n g : Int} (hn : 10 ≤ n ∧ n < 30) (hg : 0 ≤ g ∧ g < 10 ∧ s.here g = true) (hw : s.was n = false) (v : Int → Int) (aw : Int → Bool) : SF.Inv { s with par := fset s.par n g, v := v, awake := aw } (fset d n (d g + 1)) := by
  refine ⟨h.h0, fun i i0 i1 i2 => ?_, h.was, h.quo, h.wt⟩
  show 0 ≤ fset s.par n g i ∧ fset s.par n g i < 10 ∧ s.here (fset s.par n g i) = true ∧ fset d n (d g + 1) (fset s.par n g i) < fset d n (d g + 1) i
  by_cases c : i = n
  · subst c
    rw [fset_eq, fset_eq, fset_ne _ _ (by omega)]
    exact ⟨hg.1, hg.2.1, hg.2.2, by omega⟩
  · obtain ⟨p0, p1, p2, p3⟩ := h.up i i0 i1 i2
    rw [fset_ne _ _ c, fset_ne _ _ c, fset_ne _ _ (by omega)]
    exact ⟨p0, p1, p2, p3⟩
namespace SF
theorem refN_go {s x : SF} {d : Int → Nat} {n : Int} (h1 : 1 ≤ n) (he : x = refN d s (n - 1).toNat) (h : x.here n = true ∧ 0 < x.quota n ∧ x.now % x.period n = 0) : refN d s (n + 1 - 1).toNat = look d { x with used := fset x.used n 0 } n := by
  rw [show (n + 1 - 1).toNat = (n - 1).toNat + 1 from by omega]
  show refill d (refN d s (n - 1).toNat) (((n - 1).toNat : Int) + 1) = _
  rw [← he, show (((n - 1).toNat : Nat) : Int) + 1 = n from by omega]
  unfold refill
  rw [if_pos h]
theorem refN_no {s x : SF} {d : Int → Nat} {n : Int} (h1 : 1 ≤ n) (he : x = refN d s (n - 1).toNat) (h : ¬ (x.here n = true ∧ 0 < x.quota n ∧ x.now % x.period n = 0)) : refN d s (n + 1 - 1).toNat = x := by
  rw [show (n + 1 - 1).toNat = (n - 1).toNat + 1 from by omega]
  show refill d (refN d s (n - 1).toNat) (((n - 1).toNat : Int) + 1) = _
  rw [← he, show (((n - 1).toNat : Nat) : Int) + 1 = n from by omega]
  unfold refill
  rw [if_neg h]
theorem Small.used {s : SF} {B : Int} (hB : 0 ≤ B) (h : s.Small B) (n : Int) : SF.Small { s with used := fset s.used n 0 } B := fun i i0 i1 => by
  have hi := h i i0 i1
  have := fset_bd (f := s.used) (n := n) (v := 0) (i := i) (lo := 0) (hi := B) (by omega) (by omega)
  exact ⟨hi.1, hi.2.1, hi.2.2.1, hi.2.2.2.1, hi.2.2.2.2.1, hi.2.2.2.2.2.1, this.1, this.2⟩
/-- a group that stands in its queue has somebody -/
theorem best_some {s : SF} {d : Int → Nat} (hI : s.Inv d) (hs : s.Settled) {a : Int} (h0 : 0 < a) (h1 : a < 10) (hw : s.was a = true) : ¬ s.best a < 0 := fun hb => by
  obtain ⟨_, a1, a2⟩ := hI.was a hw
  have h2 := hs a h0 a1 a2
  rw [hw] at h2
  unfold ready at h2
  rw [if_neg (by omega)] at h2
  have hk : s.kid a = true := by
    cases q : s.kid a with
    | true => rfl
    | false => rw [q] at h2; simp at h2
  obtain ⟨i, i0, i1, i2, i3⟩ := (s.kid_true a).1 hk
  exact best_no (fun j hj => ⟨(hI.was j hj).1, (hI.was j hj).2.1⟩) hb i i2 i3
end SF

end Go.X
