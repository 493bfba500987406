import Derived.Test.YthdinakloheinaaGreatDoorkFP
namespace Go.X.Fa
open Go Go.X
namespace SF
theorem lookF_off {d : Int → Nat} : ∀ (k : Nat) (s : SF) (n : Int), s.Inv d → (n = 0 ∨ (0 < n ∧ n < 30 ∧ s.here n = true)) → ∀ i, (n = 0 ∨ d n < d i) → (lookF k s n).was i = s.was i ∧ (lookF k s n).v i = s.v i
  | 0, s, n, _, _, i, _ => ⟨rfl, rfl⟩
  | k + 1, s, n, h, hn, i, hi => by
    rcases hn with rfl | ⟨n0, n1, n2⟩
    · rw [lookF_stop _ _ (by omega)]; exact ⟨rfl, rfl⟩
    · rw [lookF_go _ _ n0]
      obtain ⟨p0, p1, p2, p3⟩ := h.up n n0 n1 n2
      have hd : d n < d i := by
        rcases hi with q | q
        · omega
        · exact q
      have hin : ¬ i = n := fun e => by subst e; omega
      have ih := lookF_off k (s.stp n) (s.par n) (h.stp n0 n1 n2) (by
        by_cases c : s.par n = 0
        · exact .inl c
        · exact .inr ⟨by omega, by omega, p2⟩) i (.inr (by omega))
      have e1 : (s.stp n).was i = s.was i := fset_ne _ _ hin
      have e2 : (s.stp n).v i = s.v i := fset_ne _ _ hin
      rw [ih.1, ih.2, e1, e2]; exact ⟨rfl, rfl⟩
theorem look_at {s : SF} {d : Int → Nat} (h : s.Inv d) {n : Int} (n0 : 0 < n) (n1 : n < 30) (n2 : s.here n = true) : (look d s n).was n = s.ready n := by
  unfold look
  rw [lookF_go _ _ n0]
  obtain ⟨p0, p1, p2, p3⟩ := h.up n n0 n1 n2
  have e := (lookF_off (d n) (s.stp n) (s.par n) (h.stp n0 n1 n2) (by
    by_cases c : s.par n = 0
    · exact .inl c
    · exact .inr ⟨by omega, by omega, p2⟩) n (.inr p3)).1
  rw [e]
  exact fset_eq _ _ _
theorem look_inv {s : SF} {d : Int → Nat} (h : s.Inv d) {n : Int} (hn : n = 0 ∨ (0 < n ∧ n < 30 ∧ s.here n = true)) : (look d s n).Inv d := lookF_inv _ _ _ h hn
theorem look_here (d : Int → Nat) (s : SF) (n : Int) : (look d s n).here = s.here := (lookF_keeps _ _ _).1
theorem look_par (d : Int → Nat) (s : SF) (n : Int) : (look d s n).par = s.par := (lookF_keeps _ _ _).2.1
/-- who is first in a group -/ def IsB (s : SF) (g b : Int) : Prop := s.was b = true ∧ s.par b = g ∧ ∀ i, s.was i = true → s.par i = g → ¬ lt2 (s.v i) i (s.v b) b
theorem IsB.uniq {s : SF} {g b b' : Int} (h : s.IsB g b) (h' : s.IsB g b') : b = b' := by
  have h1 := h.2.2 b' h'.1 h'.2.1
  have h2 := h'.2.2 b h.1 h.2.1
  unfold lt2 at h1 h2
  omega
theorem bestN_spec (s : SF) (g : Int) : ∀ (k : Nat), k ≤ 29 → (bestN s g k < 0 → ∀ i, 29 - (k : Int) < i → i ≤ 29 → ¬ (s.was i = true ∧ s.par i = g)) ∧
    (¬ bestN s g k < 0 → 29 - (k : Int) < bestN s g k ∧ bestN s g k ≤ 29 ∧ s.was (bestN s g k) = true ∧ s.par (bestN s g k) = g ∧ ∀ i, 29 - (k : Int) < i → i ≤ 29 → s.was i = true → s.par i = g → ¬ lt2 (s.v i) i (s.v (bestN s g k)) (bestN s g k))
  | 0, _ => ⟨fun _ i h1 h2 => by omega, fun h => absurd (by show (-1 : Int) < 0; omega) h⟩
  | k + 1, hk => by
    obtain ⟨h1, h2⟩ := bestN_spec s g k (by omega)
    have e : bestN s g (k + 1) = if s.was (29 - (k : Int)) = true ∧ s.par (29 - (k : Int)) = g ∧ (bestN s g k < 0 ∨ s.v (29 - (k : Int)) ≤ s.v (bestN s g k)) then 29 - (k : Int) else bestN s g k := rfl
    by_cases c : s.was (29 - (k : Int)) = true ∧ s.par (29 - (k : Int)) = g ∧ (bestN s g k < 0 ∨ s.v (29 - (k : Int)) ≤ s.v (bestN s g k))
    · rw [e, if_pos c]
      refine ⟨fun q => by omega, fun _ => ⟨by push_cast; omega, by omega, c.1, c.2.1, fun i i0 i1 i2 i3 hl => ?_⟩⟩
      by_cases ci : i = 29 - (k : Int)
      · subst ci; unfold lt2 at hl; omega
      · by_cases cb : bestN s g k < 0
        · exact h1 cb i (by push_cast at i0; omega) i1 ⟨i2, i3⟩
        · have h3 := h2 cb
          have h4 := h3.2.2.2.2 i (by push_cast at i0; omega) i1 i2 i3
          rcases c.2.2 with q | q
          · exact cb q
          · unfold lt2 at hl h4; omega
    · rw [e, if_neg c]
      refine ⟨fun q i i0 i1 i2 => ?_, fun q => ?_⟩
      · by_cases ci : i = 29 - (k : Int)
        · subst ci; exact c ⟨i2.1, i2.2, .inl q⟩
        · exact h1 q i (by push_cast at i0; omega) i1 i2
      · obtain ⟨g1, g2, g3, g4, g5⟩ := h2 q
        refine ⟨by push_cast; omega, g2, g3, g4, fun i i0 i1 i2 i3 hl => ?_⟩
        by_cases ci : i = 29 - (k : Int)
        · subst ci
          have : ¬ s.v (29 - (k : Int)) ≤ s.v (bestN s g k) := fun z => c ⟨i2, i3, .inr z⟩
          unfold lt2 at hl; omega
        · exact g5 i (by push_cast at i0; omega) i1 i2 i3 hl
theorem best_no {s : SF} {g : Int} (hw : ∀ i, s.was i = true → 0 < i ∧ i < 30) (h : s.best g < 0) : ∀ i, s.was i = true → s.par i ≠ g := fun i hi e => by
  have := hw i hi
  exact (bestN_spec s g 29 (by omega)).1 h i (by omega) (by omega) ⟨hi, e⟩
theorem best_is {s : SF} {g : Int} (hw : ∀ i, s.was i = true → 0 < i ∧ i < 30) (h : ¬ s.best g < 0) : s.IsB g (s.best g) ∧ 0 < s.best g ∧ s.best g < 30 := by
  obtain ⟨h1, h2, h3, h4, h5⟩ := (bestN_spec s g 29 (by omega)).2 h
  exact ⟨⟨h3, h4, fun i i2 i3 => by
    have := hw i i2
    exact h5 i (by omega) (by omega) i2 i3⟩, by have : 29 - ((29 : Nat) : Int) < bestN s g 29 := h1; unfold best; omega, by unfold best; omega⟩
theorem maxD_le (d : Int → Nat) : ∀ (k : Nat) (n : Int), 0 ≤ n → n < k → d n ≤ maxD d k
  | 0, n, h0, h1 => by omega
  | k + 1, n, h0, h1 => by
    show d n ≤ max (maxD d k) (d (k : Int))
    by_cases c : n = (k : Int)
    · subst c; omega
    · have := maxD_le d k n h0 (by omega); omega
theorem dsc_end (s : SF) (k : Nat) {a : Int} (h : 10 ≤ a) : dsc s k a = a := by
  cases k with
  | zero => rfl
  | succ k => show (if 10 ≤ a then a else _) = a; rw [if_pos h]
theorem dsc_go (s : SF) (k : Nat) {a : Int} (h : ¬ 10 ≤ a) (hb : ¬ s.best a < 0) : dsc s (k + 1) a = dsc s k (s.best a) := by
  show (if 10 ≤ a then a else if s.best a < 0 then -1 else dsc s k (s.best a)) = _
  rw [if_neg h, if_neg hb]
theorem dsc_no (s : SF) (k : Nat) {a : Int} (h : ¬ 10 ≤ a) (hb : s.best a < 0) : dsc s (k + 1) a = -1 := by
  show (if 10 ≤ a then a else if s.best a < 0 then -1 else dsc s k (s.best a)) = _
  rw [if_neg h, if_pos hb]
theorem chgF_stop (k : Nat) (s : SF) {n : Int} (h : n ≤ 0) : chgF k s n = s := by
  cases k with
  | zero => rfl
  | succ k => show (if n ≤ 0 then s else _) = s; rw [if_pos h]
theorem chgF_go (k : Nat) (s : SF) {n : Int} (h : 0 < n) : chgF (k + 1) s n = chgF k (s.chg n) (s.par n) := by
  show (if n ≤ 0 then s else chgF k (s.chg n) (s.par n)) = _
  rw [if_neg (by omega)]
/-- all on the way up stand in their queues -/ def upW (s : SF) : Nat → Int → Prop
  | 0, n => n ≤ 0
  | k + 1, n => n ≤ 0 ∨ (s.was n = true ∧ upW s k (s.par n))
theorem Inv.chg {s : SF} {d : Int → Nat} (h : s.Inv d) {n : Int} (h0 : 0 < n) (h1 : n < 30) (h2 : s.here n = true) : (s.chg n).Inv d := by
  refine ⟨h.h0, h.up, fun i hi => ?_, h.quo, h.wt⟩
  have e : (s.chg n).was i = fset s.was n ((s.chg1 n).ready n) i := rfl
  rw [e] at hi
  by_cases c : i = n
  · subst c; exact ⟨h0, h1, h2⟩
  · rw [fset_ne _ _ c] at hi; exact h.was i hi
theorem upW_chg {s : SF} {d : Int → Nat} (h : s.Inv d) {n : Int} : ∀ (k : Nat) (m : Int), (m = 0 ∨ (0 < m ∧ m < 30 ∧ s.here m = true)) → d m < d n → upW s k m → upW (s.chg n) k m
  | 0, m, _, _, hu => hu
  | k + 1, m, hm, hd, hu => by
    rcases hu with hu | ⟨hu1, hu2⟩
    · exact .inl hu
    · rcases hm with rfl | ⟨m0, m1, m2⟩
      · exact .inl (Int.le_refl _)
      · refine .inr ⟨?_, ?_⟩
        · show fset s.was n _ m = true
          rw [fset_ne _ _ (fun e => by subst e; omega)]; exact hu1
        · obtain ⟨p0, p1, p2, p3⟩ := h.up m m0 m1 m2
          exact upW_chg h k (s.par m) (by
            by_cases c : s.par m = 0
            · exact .inl c
            · exact .inr ⟨by omega, by omega, p2⟩) (by omega) hu2
theorem fset_bd {f : Int → Int} {n v i lo hi : Int} (h1 : lo ≤ f i ∧ f i ≤ hi) (h2 : lo ≤ v ∧ v ≤ hi) : lo ≤ fset f n v i ∧ fset f n v i ≤ hi := by
  by_cases c : i = n
  · subst c; rw [fset_eq]; exact h2
  · rw [fset_ne _ _ c]; exact h1
theorem Small.mono {s : SF} {B B' : Int} (h : s.Small B) (hb : B ≤ B') : s.Small B' := fun n n0 n1 => by have := h n n0 n1; omega
theorem Small.chg {s : SF} {d : Int → Nat} (hI : s.Inv d) {B : Int} (h : s.Small B) {n : Int} (h0 : 0 < n) (h1 : n < 30) (h2 : s.here n = true) : (s.chg n).Small (B + 1048576) := fun i i0 i1 => by
  obtain ⟨p0, p1, p2, _⟩ := hI.up n h0 h1 h2
  have hw := hI.wt n (by omega) h1 h2
  have hn := h n (by omega) h1
  have hg := h (s.par n) p0 (by omega)
  have hi := h i i0 i1
  have hq : 0 ≤ 1048576 / s.wt n ∧ 1048576 / s.wt n ≤ 1048576 := ⟨Int.ediv_nonneg (by omega) (by omega), Int.ediv_le_self _ (by omega)⟩
  have a1 : 0 ≤ fset s.v n (s.v n + 1048576 / s.wt n) i ∧ fset s.v n (s.v n + 1048576 / s.wt n) i ≤ B + 1048576 := fset_bd (by omega) (by omega)
  have a2 : 0 ≤ fset s.floor (s.par n) (max (s.floor (s.par n)) (s.v n)) i ∧ fset s.floor (s.par n) (max (s.floor (s.par n)) (s.v n)) i ≤ B + 1048576 := fset_bd (by omega) (by omega)
  have a3 : 0 ≤ fset s.ran n (s.ran n + 1) i ∧ fset s.ran n (s.ran n + 1) i ≤ B + 1048576 := fset_bd (by omega) (by omega)
  have a4 : 0 ≤ (if 0 < s.quota n then fset s.used n (s.used n + 1) else s.used) i ∧ (if 0 < s.quota n then fset s.used n (s.used n + 1) else s.used) i ≤ B + 1048576 := by
    by_cases c : 0 < s.quota n
    · rw [if_pos c]; exact fset_bd (by omega) (by omega)
    · rw [if_neg c]; omega
  exact ⟨a1.1, a1.2, a2.1, a2.2, a3.1, a3.2, a4.1, a4.2⟩
theorem Small.stp {s : SF} {d : Int → Nat} (hI : s.Inv d) {B : Int} (h : s.Small B) {n : Int} (h0 : 0 < n) (h1 : n < 30) (h2 : s.here n = true) : (s.stp n).Small B := fun i i0 i1 => by
  obtain ⟨p0, p1, p2, _⟩ := hI.up n h0 h1 h2
  have hn := h n (by omega) h1
  have hg := h (s.par n) p0 (by omega)
  have hi := h i i0 i1
  have key : 0 ≤ (s.stp n).v i ∧ (s.stp n).v i ≤ B := by
    show 0 ≤ fset s.v n (if s.ready n = true ∧ s.was n = false then max (s.v n) (s.floor (s.par n)) else s.v n) i ∧ fset s.v n (if s.ready n = true ∧ s.was n = false then max (s.v n) (s.floor (s.par n)) else s.v n) i ≤ B
    refine fset_bd (by omega) ?_
    split <;> omega
  exact ⟨key.1, key.2, hi.2.2⟩
theorem Small.lookF {d : Int → Nat} {B : Int} : ∀ (k : Nat) (s : SF) (n : Int), s.Inv d → s.Small B → (n = 0 ∨ (0 < n ∧ n < 30 ∧ s.here n = true)) → (SF.lookF k s n).Small B
  | 0, s, n, _, h, _ => h
  | k + 1, s, n, hI, h, hn => by
    rcases hn with rfl | ⟨n0, n1, n2⟩
    · rw [lookF_stop _ _ (by omega)]; exact h
    · rw [lookF_go _ _ n0]
      obtain ⟨p0, p1, p2, _⟩ := hI.up n n0 n1 n2
      refine Small.lookF k (s.stp n) (s.par n) (hI.stp n0 n1 n2) (h.stp hI n0 n1 n2) ?_
      by_cases c : s.par n = 0
      · exact .inl c
      · exact .inr ⟨by omega, by omega, p2⟩
end SF
/-- the queue's first is the group's best -/ theorem SC.Rep.first {s : SC} (h : s.Rep) (hw : ∀ i, s.was i = true → 0 < i ∧ i < 30) {g : Int} (g0 : 0 ≤ g) (g1 : g < 30) : ((s.Q g).first.2.2 = true ↔ ¬ s.toSF.best g < 0) ∧ (¬ s.toSF.best g < 0 → (s.Q g).first.1 = s.toSF.best g) := by
  have hq := h g g0 g1
  by_cases hn : (s.Q g).n = 0
  · have e : (s.Q g).first = (0, 0, false) := by unfold QS.first; rw [if_pos hn]
    have hb : s.toSF.best g < 0 := by
      apply Classical.byContradiction
      intro c
      obtain ⟨⟨b1, b2, _⟩, b3, b4⟩ := SF.best_is hw c
      have := hq.len.2 ⟨_, by omega, by omega, (SF.mq_inn _ _ _).2 ⟨b1, b2⟩⟩
      omega
    rw [e]
    exact ⟨⟨fun q => (by cases q), fun q => absurd hb q⟩, fun q => absurd hb q⟩
  · have e : (s.Q g).first = ((s.Q g).I 0, (s.Q g).K 0, true) := by unfold QS.first; rw [if_neg hn]
    obtain ⟨⟨a0, a1⟩, a2, a3⟩ := hq.head (by omega)
    obtain ⟨c1, c2⟩ := (SF.mq_inn _ _ _).1 a2
    have hb : ¬ s.toSF.best g < 0 := fun q => SF.best_no hw q _ c1 c2
    have hB : s.toSF.IsB g ((s.Q g).I 0) := ⟨c1, c2, fun i i1 i2 => by
      have := hw i i1
      exact a3 i (by omega) (by omega) ((SF.mq_inn _ _ _).2 ⟨i1, i2⟩)⟩
    rw [e]
    exact ⟨⟨fun _ => hb, fun _ => rfl⟩, fun _ => hB.uniq (SF.best_is hw hb).1⟩
theorem SF.Inv.moved {s : SF} {d : Int → Nat} (h : s.Inv d) {n g : Int} (hn : 10 ≤ n ∧ n < 30) (hg : 0 ≤ g ∧ g < 10 ∧ s.here g = true) (hw : s.was n = false) (v : Int → Int) (aw : Int → Bool) : SF.Inv { s with par := fset s.par n g, v := v, awake := aw } (fset d n (d g + 1)) := by
  refine ⟨h.h0, fun i i0 i1 i2 => ?_, h.was, h.quo, h.wt⟩
  show 0 ≤ fset s.par n g i ∧ fset s.par n g i < 10 ∧ s.here (fset s.par n g i) = true ∧ fset d n (d g + 1) (fset s.par n g i) < fset d n (d g + 1) i
  by_cases c : i = n
  · subst c
    rw [fset_eq, fset_eq, fset_ne _ _ (by omega)]
    exact ⟨hg.1, hg.2.1, hg.2.2, by omega⟩
  · obtain ⟨p0, p1, p2, p3⟩ := h.up i i0 i1 i2
    rw [fset_ne _ _ c, fset_ne _ _ c, fset_ne _ _ (by omega)]
    exact ⟨p0, p1, p2, p3⟩
namespace SF
theorem refN_go {s x : SF} {d : Int → Nat} {n : Int} (h1 : 1 ≤ n) (he : x = refN d s (n - 1).toNat) (h : x.here n = true ∧ 0 < x.quota n ∧ x.now % x.period n = 0) : refN d s (n + 1 - 1).toNat = look d { x with used := fset x.used n 0 } n := by
  rw [show (n + 1 - 1).toNat = (n - 1).toNat + 1 from by omega]
  show refill d (refN d s (n - 1).toNat) (((n - 1).toNat : Int) + 1) = _
  rw [← he, show (((n - 1).toNat : Nat) : Int) + 1 = n from by omega]
  unfold refill
  rw [if_pos h]
theorem refN_no {s x : SF} {d : Int → Nat} {n : Int} (h1 : 1 ≤ n) (he : x = refN d s (n - 1).toNat) (h : ¬ (x.here n = true ∧ 0 < x.quota n ∧ x.now % x.period n = 0)) : refN d s (n + 1 - 1).toNat = x := by
  rw [show (n + 1 - 1).toNat = (n - 1).toNat + 1 from by omega]
  show refill d (refN d s (n - 1).toNat) (((n - 1).toNat : Int) + 1) = _
  rw [← he, show (((n - 1).toNat : Nat) : Int) + 1 = n from by omega]
  unfold refill
  rw [if_neg h]
theorem Small.used {s : SF} {B : Int} (hB : 0 ≤ B) (h : s.Small B) (n : Int) : SF.Small { s with used := fset s.used n 0 } B := fun i i0 i1 => by
  have hi := h i i0 i1
  have := fset_bd (f := s.used) (n := n) (v := 0) (i := i) (lo := 0) (hi := B) (by omega) (by omega)
  exact ⟨hi.1, hi.2.1, hi.2.2.1, hi.2.2.2.1, hi.2.2.2.2.1, hi.2.2.2.2.2.1, this.1, this.2⟩
/-- a group that stands in its queue has somebody -/ theorem best_some {s : SF} {d : Int → Nat} (hI : s.Inv d) (hs : s.Settled) {a : Int} (h0 : 0 < a) (h1 : a < 10) (hw : s.was a = true) : ¬ s.best a < 0 := fun hb => by
  obtain ⟨_, a1, a2⟩ := hI.was a hw
  have h2 := hs a h0 a1 a2
  rw [hw] at h2
  unfold ready at h2
  rw [if_neg (by omega)] at h2
  have hk : s.kid a = true := by
    cases q : s.kid a with
    | true => rfl
    | false => rw [q] at h2; simp at h2
  obtain ⟨i, i0, i1, i2, i3⟩ := (s.kid_true a).1 hk
  exact best_no (fun j hj => ⟨(hI.was j hj).1, (hI.was j hj).2.1⟩) hb i i2 i3
end SF

end Go.X.Fa

namespace Go.X.Fa
open Go Go.X
def SF.newM (s : SF) (z p w r : Int) : SF := { s.newU z p w true with ran := fset s.ran z r }
theorem XM.famVoid {W w : World} {S : Nat → Nat → Prop} {H : List Ent} (e : TypeId) (h : XM W S H w) : XM W S (.fam fam30 (SC.void.rows e) :: H) w := by
  have hr : w.ownsRow 0 e 2 (.slice none 0 0) 0 [] := (h.nilRow e 2).good.1 (.row (.slice none 0 0) e 2 0 []) (by simp)
  refine ⟨⟨fun x hx => ?_, List.pairwise_cons.2 ⟨fun x hx _ b o h1 h2 => ?_, h.good.2⟩⟩, h.keep, fun x hx hw b o hb => ?_⟩
  · rcases List.mem_cons.1 hx with rfl | hx
    · exact ⟨fun i _ => hr, fun i j b _ _ _ h1 _ => by cases h1⟩
    · exact h.good.1 x hx
  · obtain ⟨i, _, hb⟩ := h1; cases hb
  · rcases List.mem_cons.1 hx with rfl | hx
    · obtain ⟨i, _, hb⟩ := hb; cases hb
    · exact h.mine x hx hw b o hb
/-- tasks have nothing of groups -/ def SF.Tk (s : SF) : Prop := ∀ n, 10 ≤ n → n < 30 → s.floor n = 0 ∧ s.frz n = false ∧ s.quota n = 0 ∧ s.period n = 0 ∧ s.used n = 0
namespace SF
theorem wake_off {s : SF} {d : Int → Nat} (hI : s.Inv d) {n : Int} (i1 : 0 ≤ n) (i2 : n < 20) (i3 : s.here (10 + n) = true) :
    (s.wake d n false).Inv d ∧ (s.wake d n false).was (10 + n) = false ∧ (s.wake d n false).here = s.here ∧ (s.wake d n false).par = s.par ∧ (s.wake d n false).wt = s.wt ∧ (s.wake d n false).ran = s.ran ∧ (s.wake d n false).floor = s.floor ∧ (s.wake d n false).frz = s.frz ∧ (s.wake d n false).quota = s.quota ∧ (s.wake d n false).period = s.period ∧ (s.wake d n false).used = s.used ∧ (s.wake d n false).now = s.now ∧ (s.wake d n false).awake = fset s.awake (10 + n) false := by
  have e : s.wake d n false = look d { s with awake := fset s.awake (10 + n) false } (10 + n) := by unfold wake; rw [if_pos (tkE_of i1 i2 i3)]
  have hA : SF.Inv { s with awake := fset s.awake (10 + n) false } d := ⟨hI.h0, hI.up, hI.was, hI.quo, hI.wt⟩
  obtain ⟨a1, a2, a3, a4, a5, a6, a7, a8, a9, a10, a11⟩ := lookF_keeps (d (10 + n) + 1) { s with awake := fset s.awake (10 + n) false } (10 + n)
  rw [e]
  refine ⟨look_inv hA (.inr ⟨by omega, by omega, i3⟩), ?_, a1, a2, a3, a4, a6, a7, a8, a9, a10, a11, a5⟩
  rw [look_at hA (by omega) (by omega) i3]
  unfold ready
  rw [if_pos (by omega)]
  exact fset_eq _ _ _
theorem wake_eq {s : SF} {n : Int} (h : s.tkE n = 0) (d : Int → Nat) (on : Bool) : s.wake d n on = look d { s with awake := fset s.awake (10 + n) on } (10 + n) := by unfold wake; rw [if_pos h]
end SF

end Go.X.Fa

namespace Go.X.Fa
open Go Go.X
namespace SF
theorem kid_eq {s t : SF} {m : Int} (h : ∀ i, 0 ≤ i → i < 30 → ((t.was i = true ∧ t.par i = m) ↔ (s.was i = true ∧ s.par i = m))) : t.kid m = s.kid m := by
  rw [Bool.eq_iff_iff, kid_true, kid_true]
  constructor
  · rintro ⟨i, i0, i1, i2, i3⟩; exact ⟨i, i0, i1, (h i i0 i1).1 ⟨i2, i3⟩⟩
  · rintro ⟨i, i0, i1, i2, i3⟩; exact ⟨i, i0, i1, (h i i0 i1).2 ⟨i2, i3⟩⟩
theorem kid_no {s : SF} {m : Int} (h : ∀ i, s.was i = true → s.par i ≠ m) : s.kid m = false := by
  cases q : s.kid m with
  | false => rfl
  | true => obtain ⟨i, _, _, i2, i3⟩ := (s.kid_true m).1 q; exact absurd i3 (h i i2)
theorem ready_eq {s t : SF} {m : Int} (ha : t.awake m = s.awake m) (hf : t.frz m = s.frz m) (hq : t.quota m = s.quota m) (hu : t.used m = s.used m) (hk : t.kid m = s.kid m) : t.ready m = s.ready m := by
  unfold ready; rw [ha, hf, hq, hu, hk]
/-- all but n stand as they should -/ def SetX (s : SF) (n : Int) : Prop := ∀ m, 0 < m → m < 30 → s.here m = true → m ≠ n → s.was m = s.ready m
theorem SetX.go {s t : SF} {n : Int} (h : s.SetX n) (hh : t.here = s.here) (hp : t.par = s.par) (ho : ∀ m, m ≠ n → t.awake m = s.awake m ∧ t.frz m = s.frz m ∧ t.quota m = s.quota m ∧ t.used m = s.used m ∧ t.was m = s.was m) (hr : t.was n = t.ready n) : t.SetX (s.par n) := fun m m0 m1 m2 m3 => by
  by_cases c : m = n
  · subst c; exact hr
  · obtain ⟨a1, a2, a3, a4, a5⟩ := ho m c
    rw [hh] at m2
    rw [a5, h m m0 m1 m2 c]
    refine (ready_eq a1 a2 a3 a4 (kid_eq fun i i0 i1 => ?_)).symm
    rw [hp]
    by_cases ci : i = n
    · subst ci; constructor
      · rintro ⟨_, q⟩; exact absurd q.symm m3
      · rintro ⟨_, q⟩; exact absurd q.symm m3
    · rw [(ho i ci).2.2.2.2]
theorem SetX.set {s : SF} {n : Int} (h : s.SetX n) (hn : n ≤ 0) : s.Settled := fun m m0 m1 m2 => h m m0 m1 m2 (by omega)
theorem Settled.x {s : SF} (h : s.Settled) (n : Int) : s.SetX n := fun m m0 m1 m2 _ => h m m0 m1 m2
theorem SetX.same {s t : SF} {n : Int} (h : s.SetX n) (hh : t.here = s.here) (hk : ∀ m, m ≠ n → t.kid m = s.kid m) (ho : ∀ m, m ≠ n → t.awake m = s.awake m ∧ t.frz m = s.frz m ∧ t.quota m = s.quota m ∧ t.used m = s.used m ∧ t.was m = s.was m) : t.SetX n := fun m m0 m1 m2 m3 => by
  obtain ⟨a1, a2, a3, a4, a5⟩ := ho m m3
  rw [hh] at m2
  rw [a5, h m m0 m1 m2 m3]
  exact (ready_eq a1 a2 a3 a4 (hk m m3)).symm
theorem Inv.ne {s : SF} {d : Int → Nat} (hI : s.Inv d) {n : Int} (n0 : 0 < n) (n1 : n < 30) (n2 : s.here n = true) : s.par n ≠ n := fun e => by
  have := (hI.up n n0 n1 n2).2.2.2
  rw [e] at this; omega
theorem Inv.next {s : SF} {d : Int → Nat} (hI : s.Inv d) {n : Int} (n0 : 0 < n) (n1 : n < 30) (n2 : s.here n = true) : s.par n = 0 ∨ (0 < s.par n ∧ s.par n < 30 ∧ s.here (s.par n) = true) := by
  obtain ⟨p0, p1, p2, _⟩ := hI.up n n0 n1 n2
  by_cases c : s.par n = 0
  · exact .inl c
  · exact .inr ⟨by omega, by omega, p2⟩
theorem SetX.stp {s : SF} {d : Int → Nat} (hI : s.Inv d) {n : Int} (n0 : 0 < n) (n1 : n < 30) (n2 : s.here n = true) (h : s.SetX n) : (s.stp n).SetX (s.par n) := by
  refine h.go rfl rfl (fun m c => ⟨rfl, rfl, rfl, rfl, fset_ne _ _ c⟩) ?_
  show fset s.was n (s.ready n) n = SF.ready { s with was := fset s.was n (s.ready n) } n
  rw [fset_eq, ready_was (hI.ne n0 n1 n2)]
theorem chg_used (s : SF) (n m : Int) (h : m ≠ n) : (s.chg n).used m = s.used m := by
  show (if 0 < s.quota n then fset s.used n (s.used n + 1) else s.used) m = s.used m
  split
  · exact fset_ne _ _ h
  · rfl
theorem SetX.chg {s : SF} {d : Int → Nat} (hI : s.Inv d) {n : Int} (n0 : 0 < n) (n1 : n < 30) (n2 : s.here n = true) (h : s.SetX n) : (s.chg n).SetX (s.par n) := by
  refine h.go rfl rfl (fun m c => ⟨rfl, rfl, rfl, chg_used _ _ _ c, fset_ne _ _ c⟩) ?_
  show fset s.was n ((s.chg1 n).ready n) n = SF.ready { s.chg1 n with was := fset (s.chg1 n).was n ((s.chg1 n).ready n) } n
  rw [fset_eq, ready_was (s := s.chg1 n) (hI.ne n0 n1 n2)]
theorem lookF_set {d : Int → Nat} : ∀ (k : Nat) (s : SF) (n : Int), s.Inv d → (n = 0 ∨ (0 < n ∧ n < 30 ∧ s.here n = true)) → s.SetX n → d n + 1 ≤ k → (lookF k s n).Settled
  | 0, s, n, _, _, _, hk => by omega
  | k + 1, s, n, hI, hn, h, hk => by
    rcases hn with rfl | ⟨n0, n1, n2⟩
    · rw [lookF_stop _ _ (by omega)]; exact h.set (by omega)
    · rw [lookF_go _ _ n0]
      obtain ⟨p0, p1, p2, p3⟩ := hI.up n n0 n1 n2
      exact lookF_set k (s.stp n) (s.par n) (hI.stp n0 n1 n2) (hI.next n0 n1 n2) (h.stp hI n0 n1 n2) (by omega)
theorem chgF_all {d : Int → Nat} : ∀ (k : Nat) (s : SF) (n B : Int), s.Inv d → (n = 0 ∨ (0 < n ∧ n < 30 ∧ s.here n = true)) → s.SetX n → s.Tk → s.Small B → d n + 1 ≤ k →
    (chgF k s n).Settled ∧ (chgF k s n).Inv d ∧ (chgF k s n).Tk ∧ (chgF k s n).Small (B + 1048576 * k) ∧ (chgF k s n).now = s.now
  | 0, s, n, B, _, _, _, _, _, hk => by omega
  | k + 1, s, n, B, hI, hn, h, hT, hS, hk => by
    rcases hn with rfl | ⟨n0, n1, n2⟩
    · rw [chgF_stop _ _ (by omega)]; exact ⟨h.set (by omega), hI, hT, hS.mono (by omega), rfl⟩
    · rw [chgF_go _ _ n0]
      obtain ⟨p0, p1, p2, p3⟩ := hI.up n n0 n1 n2
      have hT2 : (s.chg n).Tk := fun m m0 m1 => by
        obtain ⟨t1, t2, t3, t4, t5⟩ := hT m m0 m1
        refine ⟨?_, t2, t3, t4, ?_⟩
        · show fset s.floor (s.par n) _ m = 0
          rw [fset_ne _ _ (by omega)]; exact t1
        · by_cases c : m = n
          · subst c
            show (if 0 < s.quota m then _ else s.used) m = 0
            rw [if_neg (by omega)]; exact t5
          · rw [chg_used _ _ _ c]; exact t5
      obtain ⟨a1, a2, a3, a4, a5⟩ := chgF_all k (s.chg n) (s.par n) (B + 1048576) (hI.chg n0 n1 n2) (hI.next n0 n1 n2) (h.chg hI n0 n1 n2) hT2 (hS.chg hI n0 n1 n2) (by omega)
      exact ⟨a1, a2, a3, a4.mono (by push_cast; omega), a5⟩
structure Ok (s : SF) (d : Int → Nat) (m : Nat) (t : Int) : Prop where
  inv : s.Inv d
  dep : ∀ n, 0 ≤ n → n < 30 → d n ≤ m
  set : s.Settled
  tk : s.Tk
  small : s.Small (2000000000 * t)
  now : 0 ≤ s.now ∧ s.now ≤ t
theorem Ok.mono {s : SF} {d : Int → Nat} {m m' : Nat} {t t' : Int} (h : s.Ok d m t) (hm : m ≤ m') (ht : t ≤ t') : s.Ok d m' t' :=
  ⟨h.inv, fun n a b => Nat.le_trans (h.dep n a b) hm, h.set, h.tk, h.small.mono (by omega), by have := h.now; omega⟩
theorem Ok.hset {s : SF} {d : Int → Nat} {m : Nat} {t : Int} (h : s.Ok d m t) : ∀ n, 0 ≤ n → n < 10 → s.here n = true → (∀ i, s.was i = true → s.par i ≠ n) → s.was n = false := fun n n0 n1 n2 n3 => by
  by_cases c : n = 0
  · subst c
    cases q : s.was 0 with
    | false => rfl
    | true => have := (h.inv.was 0 q).1; omega
  · rw [h.set n (by omega) (by omega) n2]
    unfold ready
    rw [if_neg (by omega), kid_no n3]; rfl
theorem look_ok {s : SF} {d : Int → Nat} {m : Nat} {t : Int} (hI : s.Inv d) (hd : ∀ n, 0 ≤ n → n < 30 → d n ≤ m) {n : Int} (hn : 0 < n ∧ n < 30 ∧ s.here n = true) (hX : s.SetX n) (hT : s.Tk) (hS : s.Small (2000000000 * t)) (hw : 0 ≤ s.now ∧ s.now ≤ t) : (look d s n).Ok d m t := by
  obtain ⟨a1, a2, a3, a4, a5, a6, a7, a8, a9, a10, a11⟩ := lookF_keeps (d n + 1) s n
  refine ⟨look_inv hI (.inr hn), hd, lookF_set _ _ _ hI (.inr hn) hX (Nat.le_refl _), fun i i0 i1 => ?_, Small.lookF _ _ _ hI hS (.inr hn), ?_⟩
  · unfold look; rw [a6, a7, a8, a9, a10]; exact hT i i0 i1
  · unfold look; rw [a11]; exact hw
theorem Ok.wake {s : SF} {d : Int → Nat} {m : Nat} {t : Int} (h : s.Ok d m t) (n : Int) (on : Bool) : (s.wake d n on).Ok d m t := by
  by_cases c : s.tkE n = 0
  · obtain ⟨i1, i2, i3⟩ := tkE_0 c
    rw [wake_eq c]
    exact look_ok (s := { s with awake := fset s.awake (10 + n) on }) ⟨h.inv.h0, h.inv.up, h.inv.was, h.inv.quo, h.inv.wt⟩ h.dep ⟨by omega, by omega, i3⟩ ((h.set.x (10 + n)).same rfl (fun _ _ => rfl) (fun i q => ⟨fset_ne _ _ q, rfl, rfl, rfl, rfl⟩)) h.tk h.small h.now
  · unfold SF.wake; rw [if_neg c]; exact h
theorem Ok.freeze {s : SF} {d : Int → Nat} {m : Nat} {t : Int} (h : s.Ok d m t) (n : Int) (on : Bool) : (s.freeze d n on).Ok d m t := by
  unfold SF.freeze
  by_cases c : s.frzE n = 0
  · rw [if_pos c]
    obtain ⟨g0, g1⟩ : s.grE n = 0 ∧ n ≠ 0 := by
      have := s.grE_nn n
      unfold frzE at c
      split at c
      · omega
      · split at c <;> omega
    obtain ⟨i1, i2, i3⟩ := grE_0 g0
    refine look_ok (s := { s with frz := fset s.frz n on }) ⟨h.inv.h0, h.inv.up, h.inv.was, h.inv.quo, h.inv.wt⟩ h.dep ⟨by omega, by omega, i3⟩ ((h.set.x n).same rfl (fun _ _ => rfl) (fun i q => ⟨rfl, fset_ne _ _ q, rfl, rfl, rfl⟩)) (fun i i0 i1 => ?_) h.small h.now
    obtain ⟨t1, t2, t3⟩ := h.tk i i0 i1
    exact ⟨t1, by show fset s.frz n on i = false; rw [fset_ne _ _ (by omega)]; exact t2, t3⟩
  · rw [if_neg c]; exact h
theorem Ok.setQ {s : SF} {d : Int → Nat} {m : Nat} {t : Int} (h : s.Ok d m t) (ht : 0 ≤ t) (n q p : Int) : (s.setQ d n q p).Ok d m t := by
  unfold SF.setQ
  by_cases c : s.quoE n q p = 0
  · rw [if_pos c]
    obtain ⟨g0, g1, g2, g3⟩ : s.grE n = 0 ∧ n ≠ 0 ∧ 0 ≤ q ∧ 1 ≤ p := by
      have := s.grE_nn n
      unfold quoE at c
      split at c
      · omega
      · split at c
        · omega
        · split at c <;> omega
    obtain ⟨i1, i2, i3⟩ := grE_0 g0
    refine look_ok (s := s.quo1 n q p) ⟨h.inv.h0, h.inv.up, h.inv.was, fun i a b => ?_, h.inv.wt⟩ h.dep ⟨by omega, by omega, i3⟩ ((h.set.x n).same rfl (fun _ _ => rfl) (fun i q => ⟨rfl, rfl, fset_ne _ _ q, fset_ne _ _ q, rfl⟩)) (fun i i0 i1 => ?_) (fun i a b => ?_) h.now
    · show 0 ≤ fset s.quota n q i ∧ (0 < fset s.quota n q i → 1 ≤ fset s.period n p i)
      have := h.inv.quo i a b
      unfold fset; split <;> omega
    · obtain ⟨t1, t2, t3, t4, t5⟩ := h.tk i i0 i1
      refine ⟨t1, t2, ?_, ?_, ?_⟩
      · show fset s.quota n q i = 0
        rw [fset_ne _ _ (by omega)]; exact t3
      · show fset s.period n p i = 0
        rw [fset_ne _ _ (by omega)]; exact t4
      · show fset s.used n 0 i = 0
        rw [fset_ne _ _ (by omega)]; exact t5
    · exact Small.used (by omega) h.small n i a b
  · rw [if_neg c]; exact h
theorem Inv.was_no {s : SF} {d : Int → Nat} (hI : s.Inv d) {z : Int} (hn : s.here z = false) : s.was z = false := by
  cases q : s.was z with
  | false => rfl
  | true => have := (hI.was z q).2.2; rw [hn] at this; cases this
theorem newU_small {s : SF} {B : Int} (hB : 0 ≤ B) (h : s.Small B) (z p w : Int) (b : Bool) : (s.newU z p w b).Small B := fun i a c => by
  have hi := h i a c
  show 0 ≤ fset s.v z 0 i ∧ fset s.v z 0 i ≤ B ∧ 0 ≤ fset s.floor z 0 i ∧ fset s.floor z 0 i ≤ B ∧ 0 ≤ fset s.ran z 0 i ∧ fset s.ran z 0 i ≤ B ∧ 0 ≤ fset s.used z 0 i ∧ fset s.used z 0 i ≤ B
  unfold fset; split <;> omega
theorem newU_tk {s : SF} (h : s.Tk) (z p w : Int) (b : Bool) : (s.newU z p w b).Tk := fun i a c => by
  obtain ⟨t1, t2, t3, t4, t5⟩ := h i a c
  show fset s.floor z 0 i = 0 ∧ fset s.frz z false i = false ∧ fset s.quota z 0 i = 0 ∧ fset s.period z 0 i = 0 ∧ fset s.used z 0 i = 0
  by_cases e : i = z
  · subst e; rw [fset_eq, fset_eq, fset_eq, fset_eq, fset_eq]; exact ⟨rfl, rfl, rfl, rfl, rfl⟩
  · rw [fset_ne _ _ e, fset_ne _ _ e, fset_ne _ _ e, fset_ne _ _ e, fset_ne _ _ e]; exact ⟨t1, t2, t3, t4, t5⟩
/-- what a unit is made anew: the others stand as before -/ theorem newU_set {s : SF} (h : s.Settled) {z : Int} (hw : s.was z = false) (hk : ∀ i, s.was i = true → s.par i ≠ z) (p w : Int) (b : Bool) : (s.newU z p w b).Settled := fun m m0 m1 m2 => by
  show fset s.was z false m = _
  by_cases e : m = z
  · subst e
    rw [fset_eq]
    unfold ready
    split
    · show false = fset s.awake m false m
      rw [fset_eq]
    · rw [kid_no (s := s.newU m p w b) (fun i hi => ?_)]; rfl
      have hi2 : fset s.was m false i = true := hi
      show fset s.par m p i ≠ m
      by_cases ci : i = m
      · subst ci; rw [fset_eq] at hi2; cases hi2
      · rw [fset_ne _ _ ci] at hi2 ⊢; exact hk i hi2
  · have m3 : fset s.here z b m = true := m2
    rw [fset_ne _ _ e] at m3 ⊢
    rw [h m m0 m1 m3]
    refine (ready_eq (s := s) (t := s.newU z p w b) (fset_ne _ _ e) (fset_ne _ _ e) (fset_ne _ _ e) (fset_ne _ _ e) (kid_eq fun i _ _ => ?_)).symm
    show (fset s.was z false i = true ∧ fset s.par z p i = m) ↔ _
    by_cases ci : i = z
    · subst ci; rw [fset_eq, hw]; simp
    · rw [fset_ne _ _ ci, fset_ne _ _ ci]
theorem Ok.add {s : SF} {d : Int → Nat} {m : Nat} {t : Int} (h : s.Ok d m t) (ht : 0 ≤ t) {z p w : Int} (hz : 0 < z ∧ z < 30) (hn : s.here z = false) (hp : 0 ≤ p ∧ p < 10 ∧ s.here p = true) (hw : 1 ≤ w) : (s.newU z p w true).Ok (fset d z (d p + 1)) (m + 1) t := by
  have hwz := h.inv.was_no hn
  have hpz : ¬ p = z := fun e => by rw [e, hn] at hp; exact absurd hp.2.2 (by simp)
  have hne : ∀ i, 0 < i → i < 30 → s.here i = true → ¬ s.par i = z := fun i a b c e => by
    have := (h.inv.up i a b c).2.2.1
    rw [e, hn] at this; cases this
  refine ⟨⟨?_, fun i a b c => ?_, fun i hi => ?_, fun i a b => ?_, fun i a b c => ?_⟩, fun i a b => ?_, newU_set h.set hwz (fun i hi => ?_) p w true, newU_tk h.tk z p w true, newU_small (by omega) h.small z p w true, h.now⟩
  · show fset s.here z true 0 = true
    rw [fset_ne _ _ (by omega)]; exact h.inv.h0
  · have c2 : fset s.here z true i = true := c
    show 0 ≤ fset s.par z p i ∧ fset s.par z p i < 10 ∧ fset s.here z true (fset s.par z p i) = true ∧ fset d z (d p + 1) (fset s.par z p i) < fset d z (d p + 1) i
    by_cases e : i = z
    · subst e
      rw [fset_eq, fset_eq, fset_ne _ _ hpz, fset_ne _ _ hpz]
      exact ⟨hp.1, hp.2.1, hp.2.2, by omega⟩
    · rw [fset_ne _ _ e] at c2
      have hpi := hne i a b c2
      rw [fset_ne _ _ e, fset_ne _ _ e, fset_ne _ _ hpi, fset_ne _ _ hpi]
      exact h.inv.up i a b c2
  · have hi2 : fset s.was z false i = true := hi
    show 0 < i ∧ i < 30 ∧ fset s.here z true i = true
    by_cases e : i = z
    · subst e; rw [fset_eq] at hi2; cases hi2
    · rw [fset_ne _ _ e] at hi2 ⊢; exact h.inv.was i hi2
  · show 0 ≤ fset s.quota z 0 i ∧ (0 < fset s.quota z 0 i → 1 ≤ fset s.period z 0 i)
    have := h.inv.quo i a b
    unfold fset; split <;> omega
  · have c2 : fset s.here z true i = true := c
    show 1 ≤ fset s.wt z w i
    by_cases e : i = z
    · subst e; rw [fset_eq]; exact hw
    · rw [fset_ne _ _ e] at c2 ⊢; exact h.inv.wt i a b c2
  · have h1 := h.dep i a b
    have h2 := h.dep p hp.1 (by omega)
    unfold fset; split <;> omega
  · obtain ⟨a, b, c⟩ := h.inv.was i hi
    exact hne i a b c
theorem Ok.drop {s : SF} {d : Int → Nat} {m : Nat} {t : Int} (h : s.Ok d m t) (ht : 0 ≤ t) {z : Int} (hz : 0 < z ∧ z < 30) (hk : ∀ i, 0 < i → i < 30 → ¬ (s.here i = true ∧ s.par i = z)) (hw : s.was z = false) : (s.newU z 0 0 false).Ok d m t := by
  refine ⟨⟨?_, fun i a b c => ?_, fun i hi => ?_, fun i a b => ?_, fun i a b c => ?_⟩, h.dep, newU_set h.set hw (fun i hi => ?_) 0 0 false, newU_tk h.tk z 0 0 false, newU_small (by omega) h.small z 0 0 false, h.now⟩
  · show fset s.here z false 0 = true
    rw [fset_ne _ _ (by omega)]; exact h.inv.h0
  · have c2 : fset s.here z false i = true := c
    show 0 ≤ fset s.par z 0 i ∧ fset s.par z 0 i < 10 ∧ fset s.here z false (fset s.par z 0 i) = true ∧ d (fset s.par z 0 i) < d i
    by_cases e : i = z
    · subst e; rw [fset_eq] at c2; cases c2
    · rw [fset_ne _ _ e] at c2
      have hpi : ¬ s.par i = z := fun q => hk i (by omega) b ⟨c2, q⟩
      rw [fset_ne _ _ e, fset_ne _ _ hpi]
      exact h.inv.up i a b c2
  · have hi2 : fset s.was z false i = true := hi
    show 0 < i ∧ i < 30 ∧ fset s.here z false i = true
    by_cases e : i = z
    · subst e; rw [fset_eq] at hi2; cases hi2
    · rw [fset_ne _ _ e] at hi2 ⊢; exact h.inv.was i hi2
  · show 0 ≤ fset s.quota z 0 i ∧ (0 < fset s.quota z 0 i → 1 ≤ fset s.period z 0 i)
    have := h.inv.quo i a b
    unfold fset; split <;> omega
  · have c2 : fset s.here z false i = true := c
    show 1 ≤ fset s.wt z 0 i
    by_cases e : i = z
    · subst e; rw [fset_eq] at c2; cases c2
    · rw [fset_ne _ _ e] at c2 ⊢; exact h.inv.wt i a b c2
  · obtain ⟨a, b, c⟩ := h.inv.was i hi
    exact fun q => hk i (by omega) b ⟨c, q⟩
theorem moveE_nn (s : SF) (n g : Int) : 0 ≤ s.moveE n g := by unfold moveE; have := s.grE_nn g; have := s.tkE_nn n; split <;> omega
theorem Ok.addG {s : SF} {d : Int → Nat} {m : Nat} {t : Int} (h : s.Ok d m t) (ht : 0 ≤ t) (n p w : Int) : ∃ d', (s.addG n p w).Ok d' (m + 1) t := by
  unfold SF.addG
  by_cases c : s.addGE n p w = 0
  · rw [if_pos c]
    unfold addGE at c
    split at c
    · omega
    · split at c
      · omega
      · have hh : s.here n = false := by simpa using (by assumption : ¬ s.here n = true)
        have hn0 : n ≠ 0 := fun e => by rw [e, h.inv.h0] at hh; cases hh
        exact ⟨_, h.add ht ⟨by omega, by omega⟩ hh (grE_0 c) (by omega)⟩
  · rw [if_neg c]; exact ⟨d, h.mono (by omega) (by omega)⟩
theorem Ok.addT {s : SF} {d : Int → Nat} {m : Nat} {t : Int} (h : s.Ok d m t) (ht : 0 ≤ t) (n p w : Int) : ∃ d', (s.addT n p w).Ok d' (m + 1) t := by
  unfold SF.addT
  by_cases c : s.addTE n p w = 0
  · rw [if_pos c]
    unfold addTE at c
    split at c
    · omega
    · split at c
      · omega
      · have hh : s.here (10 + n) = false := by simpa using (by assumption : ¬ s.here (10 + n) = true)
        exact ⟨_, h.add ht ⟨by omega, by omega⟩ hh (grE_0 c) (by omega)⟩
  · rw [if_neg c]; exact ⟨d, h.mono (by omega) (by omega)⟩
theorem Ok.dropG {s : SF} {d : Int → Nat} {m : Nat} {t : Int} (h : s.Ok d m t) (ht : 0 ≤ t) (n : Int) : (s.dropG n).Ok d m t := by
  unfold SF.dropG
  by_cases c : s.dropGE n = 0
  · rw [if_pos c]
    have hg := s.grE_nn n
    unfold dropGE at c
    split at c
    · omega
    · split at c
      · omega
      · rename_i c1 c2
        obtain ⟨i1, i2, i3⟩ := grE_0 (show s.grE n = 0 by omega)
        have hk : ∀ i, 0 < i → i < 30 → ¬ (s.here i = true ∧ s.par i = n) := fun i a b q => c2 (.inr (anyU_of (by omega) b q.1 q.2))
        have hn0 : n ≠ 0 := fun e => c2 (.inl e)
        refine h.drop ht ⟨by omega, by omega⟩ hk (h.hset n i1 i2 i3 fun i hi => ?_)
        obtain ⟨a, b, c⟩ := h.inv.was i hi
        exact fun q => hk i (by omega) b ⟨c, q⟩
  · rw [if_neg c]; exact h
theorem Ok.dropT {s : SF} {d : Int → Nat} {m : Nat} {t : Int} (h : s.Ok d m t) (ht : 0 ≤ t) (n : Int) : (s.dropT d n).Ok d m t := by
  unfold SF.dropT
  by_cases c : s.tkE n = 0
  · rw [if_pos c]
    obtain ⟨i1, i2, i3⟩ := tkE_0 c
    obtain ⟨w1, w2, w3, w4, _⟩ := wake_off h.inv i1 i2 i3
    refine (h.wake n false).drop ht ⟨by omega, by omega⟩ (fun i a b q => ?_) w2
    have := (w1.up i a b q.1).2.1; omega
  · rw [if_neg c]; exact h
theorem Ok.move {s : SF} {d : Int → Nat} {m : Nat} {t : Int} (h : s.Ok d m t) (ht : 0 ≤ t) (n g : Int) : ∃ d', (s.move d n g).Ok d' (m + 1) t := by
  unfold SF.move
  by_cases c : s.moveE n g = 0
  · rw [if_pos c]
    have hn := s.tkE_nn n
    have hg := s.grE_nn g
    unfold moveE at c
    split at c
    · omega
    · obtain ⟨i1, i2, i3⟩ := tkE_0 (show s.tkE n = 0 by omega)
      obtain ⟨k1, k2, k3⟩ := grE_0 c
      obtain ⟨w1, w2, w3, w4, w5⟩ := wake_off h.inv i1 i2 i3
      have hw := h.wake n false
      refine ⟨_, look_ok (s := mv1 d s n g) (w1.moved (n := 10 + n) (g := g) ⟨by omega, by omega⟩ ⟨k1, k2, by rw [w3]; exact k3⟩ w2 _ _) (fun i a b => ?_) ⟨by omega, by omega, ?_⟩ ((hw.set.x (10 + n)).same rfl (fun i q => kid_eq fun j _ _ => ?_) (fun i q => ⟨?_, rfl, rfl, rfl, rfl⟩)) hw.tk (fun i a b => ?_) hw.now⟩
      · have h1 := h.dep i a b
        have h2 := h.dep g k1 (by omega)
        unfold fset; split <;> omega
      · show (s.wake d n false).here (10 + n) = true
        rw [w3]; exact i3
      · show ((s.wake d n false).was j = true ∧ fset (s.wake d n false).par (10 + n) g j = i) ↔ _
        by_cases e : j = 10 + n
        · subst e; rw [w2]; simp
        · rw [fset_ne _ _ e]
      · exact fset_ne _ _ q
      · have := hw.small i a b
        show 0 ≤ fset (s.wake d n false).v (10 + n) 0 i ∧ fset (s.wake d n false).v (10 + n) 0 i ≤ 2000000000 * t ∧ _
        refine ⟨?_, ?_, this.2.2⟩ <;> (unfold fset; split <;> omega)
  · rw [if_neg c]; exact ⟨d, h.mono (by omega) (by omega)⟩
theorem Ok.refN {s : SF} {d : Int → Nat} {m : Nat} {t : Int} (h : s.Ok d m t) (ht : 0 ≤ t) : ∀ k : Nat, k ≤ 9 → (SF.refN d s k).Ok d m t ∧ (SF.refN d s k).now = s.now
  | 0, _ => ⟨h, rfl⟩
  | k + 1, hk => by
    obtain ⟨h1, h2⟩ := h.refN ht k (by omega)
    show (refill d (SF.refN d s k) ((k : Int) + 1)).Ok d m t ∧ (refill d (SF.refN d s k) ((k : Int) + 1)).now = s.now
    unfold refill
    split
    · rename_i c
      refine ⟨look_ok (s := { SF.refN d s k with used := fset (SF.refN d s k).used ((k : Int) + 1) 0 }) ⟨h1.inv.h0, h1.inv.up, h1.inv.was, h1.inv.quo, h1.inv.wt⟩ h1.dep ⟨by omega, by omega, c.1⟩ ((h1.set.x _).same rfl (fun _ _ => rfl) (fun i q => ⟨rfl, rfl, rfl, fset_ne _ _ q, rfl⟩)) (fun i i0 i1 => ?_) (Small.used (by omega) h1.small _) h1.now, (lookF_keeps _ _ _).2.2.2.2.2.2.2.2.2.2.trans h2⟩
      obtain ⟨t1, t2, t3, t4, t5⟩ := h1.tk i i0 i1
      refine ⟨t1, t2, t3, t4, ?_⟩
      show fset _ _ 0 i = 0
      unfold fset; split
      · rfl
      · exact t5
    · exact ⟨h1, h2⟩
theorem Ok.tick0 {s : SF} {d : Int → Nat} {m : Nat} {t : Int} (h : s.Ok d m t) (ht : 0 ≤ t) : (s.tick0 d).Ok d m (t + 1) := by
  obtain ⟨h1, h2⟩ := h.refN ht 9 (Nat.le_refl _)
  have hn := h.now
  exact ⟨⟨h1.inv.h0, h1.inv.up, h1.inv.was, h1.inv.quo, h1.inv.wt⟩, h1.dep, h1.set, h1.tk, Small.mono (s := SF.refN d s 9) h1.small (by omega), by show 0 ≤ s.now + 1 ∧ s.now + 1 ≤ t + 1; omega⟩
theorem dsc_is {s : SF} {d : Int → Nat} (hI : s.Inv d) : ∀ (k : Nat) (a : Int), (0 ≤ a ∧ a < 30 ∧ s.here a = true) → maxD d 30 < k + d a → 0 ≤ dsc s k a → 10 ≤ dsc s k a ∧ dsc s k a < 30 ∧ s.here (dsc s k a) = true
  | 0, a, ha, hk, _ => by have := maxD_le d 30 a ha.1 (by omega); omega
  | k + 1, a, ha, hk, h0 => by
    by_cases c : 10 ≤ a
    · rw [dsc_end _ _ c]; exact ⟨c, ha.2⟩
    · by_cases hb : s.best a < 0
      · rw [dsc_no _ _ c hb] at h0; omega
      · rw [dsc_go _ _ c hb] at h0 ⊢
        obtain ⟨⟨b1, b2, b3⟩, b4, b5⟩ := best_is (fun i hi => ⟨(hI.was i hi).1, (hI.was i hi).2.1⟩) hb
        have hbI := hI.was _ b1
        have hd := (hI.up _ b4 b5 hbI.2.2).2.2.2
        rw [b2] at hd
        exact dsc_is hI k _ ⟨by omega, b5, hbI.2.2⟩ (by omega) h0
theorem who_is {s : SF} {d : Int → Nat} (hI : (s.tick0 d).Inv d) (h : ¬ who d s < 0) : 10 ≤ who d s ∧ who d s < 30 ∧ (s.tick0 d).here (who d s) = true := by
  unfold who at h ⊢
  exact dsc_is hI _ 0 ⟨by omega, by omega, hI.h0⟩ (by omega) (by omega)
theorem Ok.tick {s : SF} {d : Int → Nat} {m : Nat} {t : Int} (h : s.Ok d m t) (ht : 0 ≤ t) (hm : m ≤ 900) : (s.tick d).2.Ok d m (t + 1) := by
  have h0 := h.tick0 ht
  unfold SF.tick
  split
  · exact h0
  · rename_i c
    obtain ⟨w1, w2, w3⟩ := who_is h0.inv c
    obtain ⟨h1, h2⟩ := h.refN ht 9 (Nat.le_refl _)
    have hs : (s.tick0 d).Small (2000000000 * t) := Small.mono (s := SF.refN d s 9) h1.small (by omega)
    obtain ⟨a1, a2, a3, a4, a5⟩ := chgF_all (d (who d s) + 1) (s.tick0 d) (who d s) (2000000000 * t) h0.inv (.inr ⟨by omega, w2, w3⟩) (h0.set.x _) h0.tk hs (Nat.le_refl _)
    have hd := h0.dep (who d s) (by omega) w2
    exact ⟨a2, h0.dep, a1, a3, a4.mono (by push_cast; omega), by rw [a5]; exact h0.now⟩
theorem init_ok : SF.init.Ok (fun _ => 0) 0 0 := by
  have hh : ∀ n : Int, SF.init.here n = true → n = 0 := fun n h => by
    have h2 : fset (fun _ : Int => false) 0 true n = true := h
    by_cases e : n = 0
    · exact e
    · rw [fset_ne _ _ e] at h2; cases h2
  have hw : ∀ n : Int, SF.init.was n = false := fun n => by
    show fset (fun _ : Int => false) 0 false n = false
    unfold fset; split <;> rfl
  have hz : ∀ n : Int, fset (fun _ : Int => (0 : Int)) 0 0 n = 0 := fun n => by unfold fset; split <;> rfl
  refine ⟨⟨fset_eq (fun _ : Int => false) 0 true, fun n a b c => (by have := hh n c; omega), fun n h => (by rw [hw n] at h; cases h), fun n a b => ?_, fun n a b c => ?_⟩, fun n a b => Nat.le_refl _, fun n a b c => (by have := hh n c; omega), fun n a b => ?_, fun n a b => ?_, by show 0 ≤ (0 : Int) ∧ (0 : Int) ≤ 0; omega⟩
  · show 0 ≤ fset (fun _ : Int => (0 : Int)) 0 0 n ∧ (0 < fset (fun _ : Int => (0 : Int)) 0 0 n → _)
    rw [hz]; omega
  · have := hh n c; subst this
    show 1 ≤ fset (fun _ : Int => (0 : Int)) 0 1 0
    rw [fset_eq]; omega
  · refine ⟨hz n, ?_, hz n, hz n, hz n⟩
    show fset (fun _ : Int => false) 0 false n = false
    unfold fset; split <;> rfl
  · show 0 ≤ fset (fun _ : Int => (0 : Int)) 0 0 n ∧ fset (fun _ : Int => (0 : Int)) 0 0 n ≤ _ ∧ 0 ≤ fset (fun _ : Int => (0 : Int)) 0 0 n ∧ fset (fun _ : Int => (0 : Int)) 0 0 n ≤ _ ∧ 0 ≤ fset (fun _ : Int => (0 : Int)) 0 0 n ∧ fset (fun _ : Int => (0 : Int)) 0 0 n ≤ _ ∧ 0 ≤ fset (fun _ : Int => (0 : Int)) 0 0 n ∧ fset (fun _ : Int => (0 : Int)) 0 0 n ≤ _
    rw [hz]; omega
end SF

end Go.X.Fa
