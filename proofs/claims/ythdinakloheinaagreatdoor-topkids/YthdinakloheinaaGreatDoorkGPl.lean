import Derived.Test.YthdinakloheinaaGreatDoorkFT
import Derived.Test.YthdinakloheinaaGreatDoorkGM
namespace Go.X.Fa
open Go Go.X
def SF.newM (s : SF) (z p w r : Int) : SF := { s.newU z p w true with ran := fset s.ran z r }
theorem XM.famVoid {W w : World} {S : Nat → Nat → Prop} {H : List Ent} (e : TypeId) (h : XM W S H w) : XM W S (.fam fam30 (SC.void.rows e) :: H) w := by
  have hr : w.ownsRow 0 e 2 (.slice none 0 0) 0 [] := (h.nilRow e 2).good.1 (.row (.slice none 0 0) e 2 0 []) (by simp)
  refine ⟨⟨fun x hx => ?_, List.pairwise_cons.2 ⟨fun x hx _ b o h1 h2 => ?_, h.good.2⟩⟩, h.keep, fun x hx hw b o hb => ?_⟩
  · rcases List.mem_cons.1 hx with rfl | hx
    · exact ⟨fun i _ => hr, fun i j b _ _ _ h1 _ => by cases h1⟩
    · exact h.good.1 x hx
  · obtain ⟨i, _, hb⟩ := h1; cases hb
  · rcases List.mem_cons.1 hx with rfl | hx
    · obtain ⟨i, _, hb⟩ := hb; cases hb
    · exact h.mine x hx hw b o hb
/-- tasks have nothing of groups -/ def SF.Tk (s : SF) : Prop := ∀ n, 10 ≤ n → n < 30 → s.floor n = 0 ∧ s.frz n = false ∧ s.quota n = 0 ∧ s.period n = 0 ∧ s.used n = 0
namespace SF
theorem wake_off {s : SF} {d : Int → Nat} (hI : s.Inv d) {n : Int} (i1 : 0 ≤ n) (i2 : n < 20) (i3 : s.here (10 + n) = true) :
    (s.wake d n false).Inv d ∧ (s.wake d n false).was (10 + n) = false ∧ (s.wake d n false).here = s.here ∧ (s.wake d n false).par = s.par ∧ (s.wake d n false).wt = s.wt ∧ (s.wake d n false).ran = s.ran ∧ (s.wake d n false).floor = s.floor ∧ (s.wake d n false).frz = s.frz ∧ (s.wake d n false).quota = s.quota ∧ (s.wake d n false).period = s.period ∧ (s.wake d n false).used = s.used ∧ (s.wake d n false).now = s.now ∧ (s.wake d n false).awake = fset s.awake (10 + n) false := by
  have e : s.wake d n false = look d { s with awake := fset s.awake (10 + n) false } (10 + n) := by unfold wake; rw [if_pos (tkE_of i1 i2 i3)]
  have hA : SF.Inv { s with awake := fset s.awake (10 + n) false } d := ⟨hI.h0, hI.up, hI.was, hI.quo, hI.wt⟩
  obtain ⟨a1, a2, a3, a4, a5, a6, a7, a8, a9, a10, a11⟩ := lookF_keeps (d (10 + n) + 1) { s with awake := fset s.awake (10 + n) false } (10 + n)
  rw [e]
  refine ⟨look_inv hA (.inr ⟨by omega, by omega, i3⟩), ?_, a1, a2, a3, a4, a6, a7, a8, a9, a10, a11, a5⟩
  rw [look_at hA (by omega) (by omega) i3]
  unfold ready
  rw [if_pos (by omega)]
  exact fset_eq _ _ _
theorem wake_eq {s : SF} {n : Int} (h : s.tkE n = 0) (d : Int → Nat) (on : Bool) : s.wake d n on = look d { s with awake := fset s.awake (10 + n) on } (10 + n) := by unfold wake; rw [if_pos h]
end SF

end Go.X.Fa

namespace Go.X.Fa
open Go Go.X
namespace SF
theorem kid_eq {s t : SF} {m : Int} (h : ∀ i, 0 ≤ i → i < 30 → ((t.was i = true ∧ t.par i = m) ↔ (s.was i = true ∧ s.par i = m))) : t.kid m = s.kid m := by
  rw [Bool.eq_iff_iff, kid_true, kid_true]
  constructor
  · rintro ⟨i, i0, i1, i2, i3⟩; exact ⟨i, i0, i1, (h i i0 i1).1 ⟨i2, i3⟩⟩
  · rintro ⟨i, i0, i1, i2, i3⟩; exact ⟨i, i0, i1, (h i i0 i1).2 ⟨i2, i3⟩⟩
theorem kid_no {s : SF} {m : Int} (h : ∀ i, s.was i = true → s.par i ≠ m) : s.kid m = false := by
  cases q : s.kid m with
  | false => rfl
  | true => obtain ⟨i, _, _, i2, i3⟩ := (s.kid_true m).1 q; exact absurd i3 (h i i2)
theorem ready_eq {s t : SF} {m : Int} (ha : t.awake m = s.awake m) (hf : t.frz m = s.frz m) (hq : t.quota m = s.quota m) (hu : t.used m = s.used m) (hk : t.kid m = s.kid m) : t.ready m = s.ready m := by
  unfold ready; rw [ha, hf, hq, hu, hk]
/-- all but n stand as they should -/ def SetX (s : SF) (n : Int) : Prop := ∀ m, 0 < m → m < 30 → s.here m = true → m ≠ n → s.was m = s.ready m
theorem SetX.go {s t : SF} {n : Int} (h : s.SetX n) (hh : t.here = s.here) (hp : t.par = s.par) (ho : ∀ m, m ≠ n → t.awake m = s.awake m ∧ t.frz m = s.frz m ∧ t.quota m = s.quota m ∧ t.used m = s.used m ∧ t.was m = s.was m) (hr : t.was n = t.ready n) : t.SetX (s.par n) := fun m m0 m1 m2 m3 => by
  by_cases c : m = n
  · subst c; exact hr
  · obtain ⟨a1, a2, a3, a4, a5⟩ := ho m c
    rw [hh] at m2
    rw [a5, h m m0 m1 m2 c]
    refine (ready_eq a1 a2 a3 a4 (kid_eq fun i i0 i1 => ?_)).symm
    rw [hp]
    by_cases ci : i = n
    · subst ci; constructor
      · rintro ⟨_, q⟩; exact absurd q.symm m3
      · rintro ⟨_, q⟩; exact absurd q.symm m3
    · rw [(ho i ci).2.2.2.2]
theorem SetX.set {s : SF} {n : Int} (h : s.SetX n) (hn : n ≤ 0) : s.Settled := fun m m0 m1 m2 => h m m0 m1 m2 (by omega)
theorem Settled.x {s : SF} (h : s.Settled) (n : Int) : s.SetX n := fun m m0 m1 m2 _ => h m m0 m1 m2
theorem SetX.same {s t : SF} {n : Int} (h : s.SetX n) (hh : t.here = s.here) (hk : ∀ m, m ≠ n → t.kid m = s.kid m) (ho : ∀ m, m ≠ n → t.awake m = s.awake m ∧ t.frz m = s.frz m ∧ t.quota m = s.quota m ∧ t.used m = s.used m ∧ t.was m = s.was m) : t.SetX n := fun m m0 m1 m2 m3 => by
  obtain ⟨a1, a2, a3, a4, a5⟩ := ho m m3
  rw [hh] at m2
  rw [a5, h m m0 m1 m2 m3]
  exact (ready_eq a1 a2 a3 a4 (hk m m3)).symm
theorem Inv.ne {s : SF} {d : Int → Nat} (hI : s.Inv d) {n : Int} (n0 : 0 < n) (n1 : n < 30) (n2 : s.here n = true) : s.par n ≠ n := fun e => by
  have := (hI.up n n0 n1 n2).2.2.2
  rw [e] at this; omega
theorem Inv.next {s : SF} {d : Int → Nat} (hI : s.Inv d) {n : Int} (n0 : 0 < n) (n1 : n < 30) (n2 : s.here n = true) : s.par n = 0 ∨ (0 < s.par n ∧ s.par n < 30 ∧ s.here (s.par n) = true) := by
  obtain ⟨p0, p1, p2, _⟩ := hI.up n n0 n1 n2
  by_cases c : s.par n = 0
  · exact .inl c
  · exact .inr ⟨by omega, by omega, p2⟩
theorem SetX.stp {s : SF} {d : Int → Nat} (hI : s.Inv d) {n : Int} (n0 : 0 < n) (n1 : n < 30) (n2 : s.here n = true) (h : s.SetX n) : (s.stp n).SetX (s.par n) := by
  refine h.go rfl rfl (fun m c => ⟨rfl, rfl, rfl, rfl, fset_ne _ _ c⟩) ?_
  show fset s.was n (s.ready n) n = SF.ready { s with was := fset s.was n (s.ready n) } n
  rw [fset_eq, ready_was (hI.ne n0 n1 n2)]
theorem chg_used (s : SF) (n m : Int) (h : m ≠ n) : (s.chg n).used m = s.used m := by
  show (if 0 < s.quota n then fset s.used n (s.used n + 1) else s.used) m = s.used m
  split
  · exact fset_ne _ _ h
  · rfl
theorem SetX.chg {s : SF} {d : Int → Nat} (hI : s.Inv d) {n : Int} (n0 : 0 < n) (n1 : n < 30) (n2 : s.here n = true) (h : s.SetX n) : (s.chg n).SetX (s.par n) := by
  refine h.go rfl rfl (fun m c => ⟨rfl, rfl, rfl, chg_used _ _ _ c, fset_ne _ _ c⟩) ?_
  show fset s.was n ((s.chg1 n).ready n) n = SF.ready { s.chg1 n with was := fset (s.chg1 n).was n ((s.chg1 n).ready n) } n
  rw [fset_eq, ready_was (s := s.chg1 n) (hI.ne n0 n1 n2)]
theorem lookF_set {d : Int → Nat} : ∀ (k : Nat) (s : SF) (n : Int), s.Inv d → (n = 0 ∨ (0 < n ∧ n < 30 ∧ s.here n = true)) → s.SetX n → d n + 1 ≤ k → (lookF k s n).Settled
  | 0, s, n, _, _, _, hk => by omega
  | k + 1, s, n, hI, hn, h, hk => by
    rcases hn with rfl | ⟨n0, n1, n2⟩
    · rw [lookF_stop _ _ (by omega)]; exact h.set (by omega)
    · rw [lookF_go _ _ n0]
      obtain ⟨p0, p1, p2, p3⟩ := hI.up n n0 n1 n2
      exact lookF_set k (s.stp n) (s.par n) (hI.stp n0 n1 n2) (hI.next n0 n1 n2) (h.stp hI n0 n1 n2) (by omega)
theorem chgF_all {d : Int → Nat} : ∀ (k : Nat) (s : SF) (n B : Int), s.Inv d → (n = 0 ∨ (0 < n ∧ n < 30 ∧ s.here n = true)) → s.SetX n → s.Tk → s.Small B → d n + 1 ≤ k →
    (chgF k s n).Settled ∧ (chgF k s n).Inv d ∧ (chgF k s n).Tk ∧ (chgF k s n).Small (B + 1048576 * k) ∧ (chgF k s n).now = s.now
  | 0, s, n, B, _, _, _, _, _, hk => by omega
  | k + 1, s, n, B, hI, hn, h, hT, hS, hk => by
    rcases hn with rfl | ⟨n0, n1, n2⟩
    · rw [chgF_stop _ _ (by omega)]; exact ⟨h.set (by omega), hI, hT, hS.mono (by omega), rfl⟩
    · rw [chgF_go _ _ n0]
      obtain ⟨p0, p1, p2, p3⟩ := hI.up n n0 n1 n2
      have hT2 : (s.chg n).Tk := fun m m0 m1 => by
        obtain ⟨t1, t2, t3, t4, t5⟩ := hT m m0 m1
        refine ⟨?_, t2, t3, t4, ?_⟩
        · show fset s.floor (s.par n) _ m = 0
          rw [fset_ne _ _ (by omega)]; exact t1
        · by_cases c : m = n
          · subst c
            show (if 0 < s.quota m then _ else s.used) m = 0
            rw [if_neg (by omega)]; exact t5
          · rw [chg_used _ _ _ c]; exact t5
      obtain ⟨a1, a2, a3, a4, a5⟩ := chgF_all k (s.chg n) (s.par n) (B + 1048576) (hI.chg n0 n1 n2) (hI.next n0 n1 n2) (h.chg hI n0 n1 n2) hT2 (hS.chg hI n0 n1 n2) (by omega)
      exact ⟨a1, a2, a3, a4.mono (by push_cast; omega), a5⟩
structure Ok (s : SF) (d : Int → Nat) (m : Nat) (t : Int) : Prop where
  inv : s.Inv d
  dep : ∀ n, 0 ≤ n → n < 30 → d n ≤ m
  set : s.Settled
  tk : s.Tk
  small : s.Small (2000000000 * t)
  now : 0 ≤ s.now ∧ s.now ≤ t
theorem Ok.mono {s : SF} {d : Int → Nat} {m m' : Nat} {t t' : Int} (h : s.Ok d m t) (hm : m ≤ m') (ht : t ≤ t') : s.Ok d m' t' :=
  ⟨h.inv, fun n a b => Nat.le_trans (h.dep n a b) hm, h.set, h.tk, h.small.mono (by omega), by have := h.now; omega⟩
theorem Ok.hset {s : SF} {d : Int → Nat} {m : Nat} {t : Int} (h : s.Ok d m t) : ∀ n, 0 ≤ n → n < 10 → s.here n = true → (∀ i, s.was i = true → s.par i ≠ n) → s.was n = false := fun n n0 n1 n2 n3 => by
  by_cases c : n = 0
  · subst c
    cases q : s.was 0 with
    | false => rfl
    | true => have := (h.inv.was 0 q).1; omega
  · rw [h.set n (by omega) (by omega) n2]
    unfold ready
    rw [if_neg (by omega), kid_no n3]; rfl
theorem look_ok {s : SF} {d : Int → Nat} {m : Nat} {t : Int} (hI : s.Inv d) (hd : ∀ n, 0 ≤ n → n < 30 → d n ≤ m) {n : Int} (hn : 0 < n ∧ n < 30 ∧ s.here n = true) (hX : s.SetX n) (hT : s.Tk) (hS : s.Small (2000000000 * t)) (hw : 0 ≤ s.now ∧ s.now ≤ t) : (look d s n).Ok d m t := by
  obtain ⟨a1, a2, a3, a4, a5, a6, a7, a8, a9, a10, a11⟩ := lookF_keeps (d n + 1) s n
  refine ⟨look_inv hI (.inr hn), hd, lookF_set _ _ _ hI (.inr hn) hX (Nat.le_refl _), fun i i0 i1 => ?_, Small.lookF _ _ _ hI hS (.inr hn), ?_⟩
  · unfold look; rw [a6, a7, a8, a9, a10]; exact hT i i0 i1
  · unfold look; rw [a11]; exact hw
theorem Ok.wake {s : SF} {d : Int → Nat} {m : Nat} {t : Int} (h : s.Ok d m t) (n : Int) (on : Bool) : (s.wake d n on).Ok d m t := by
  by_cases c : s.tkE n = 0
  · obtain ⟨i1, i2, i3⟩ := tkE_0 c
    rw [wake_eq c]
    exact look_ok (s := { s with awake := fset s.awake (10 + n) on }) ⟨h.inv.h0, h.inv.up, h.inv.was, h.inv.quo, h.inv.wt⟩ h.dep ⟨by omega, by omega, i3⟩ ((h.set.x (10 + n)).same rfl (fun _ _ => rfl) (fun i q => ⟨fset_ne _ _ q, rfl, rfl, rfl, rfl⟩)) h.tk h.small h.now
  · unfold SF.wake; rw [if_neg c]; exact h
theorem Ok.freeze {s : SF} {d : Int → Nat} {m : Nat} {t : Int} (h : s.Ok d m t) (n : Int) (on : Bool) : (s.freeze d n on).Ok d m t := by
  unfold SF.freeze
  by_cases c : s.frzE n = 0
  · rw [if_pos c]
    obtain ⟨g0, g1⟩ : s.grE n = 0 ∧ n ≠ 0 := by
      have := s.grE_nn n
      unfold frzE at c
      split at c
      · omega
      · split at c <;> omega
    obtain ⟨i1, i2, i3⟩ := grE_0 g0
    refine look_ok (s := { s with frz := fset s.frz n on }) ⟨h.inv.h0, h.inv.up, h.inv.was, h.inv.quo, h.inv.wt⟩ h.dep ⟨by omega, by omega, i3⟩ ((h.set.x n).same rfl (fun _ _ => rfl) (fun i q => ⟨rfl, fset_ne _ _ q, rfl, rfl, rfl⟩)) (fun i i0 i1 => ?_) h.small h.now
    obtain ⟨t1, t2, t3⟩ := h.tk i i0 i1
    exact ⟨t1, by show fset s.frz n on i = false; rw [fset_ne _ _ (by omega)]; exact t2, t3⟩
  · rw [if_neg c]; exact h
theorem Ok.setQ {s : SF} {d : Int → Nat} {m : Nat} {t : Int} (h : s.Ok d m t) (ht : 0 ≤ t) (n q p : Int) : (s.setQ d n q p).Ok d m t := by
  unfold SF.setQ
  by_cases c : s.quoE n q p = 0
  · rw [if_pos c]
    obtain ⟨g0, g1, g2, g3⟩ : s.grE n = 0 ∧ n ≠ 0 ∧ 0 ≤ q ∧ 1 ≤ p := by
      have := s.grE_nn n
      unfold quoE at c
      split at c
      · omega
      · split at c
        · omega
        · split at c <;> omega
    obtain ⟨i1, i2, i3⟩ := grE_0 g0
    refine look_ok (s := s.quo1 n q p) ⟨h.inv.h0, h.inv.up, h.inv.was, fun i a b => ?_, h.inv.wt⟩ h.dep ⟨by omega, by omega, i3⟩ ((h.set.x n).same rfl (fun _ _ => rfl) (fun i q => ⟨rfl, rfl, fset_ne _ _ q, fset_ne _ _ q, rfl⟩)) (fun i i0 i1 => ?_) (fun i a b => ?_) h.now
    · show 0 ≤ fset s.quota n q i ∧ (0 < fset s.quota n q i → 1 ≤ fset s.period n p i)
      have := h.inv.quo i a b
      unfold fset; split <;> omega
    · obtain ⟨t1, t2, t3, t4, t5⟩ := h.tk i i0 i1
      refine ⟨t1, t2, ?_, ?_, ?_⟩
      · show fset s.quota n q i = 0
        rw [fset_ne _ _ (by omega)]; exact t3
      · show fset s.period n p i = 0
        rw [fset_ne _ _ (by omega)]; exact t4
      · show fset s.used n 0 i = 0
        rw [fset_ne _ _ (by omega)]; exact t5
    · exact Small.used (by omega) h.small n i a b
  · rw [if_neg c]; exact h
theorem Inv.was_no {s : SF} {d : Int → Nat} (hI : s.Inv d) {z : Int} (hn : s.here z = false) : s.was z = false := by
  cases q : s.was z with
  | false => rfl
  | true => have := (hI.was z q).2.2; rw [hn] at this; cases this
theorem newU_small {s : SF} {B : Int} (hB : 0 ≤ B) (h : s.Small B) (z p w : Int) (b : Bool) : (s.newU z p w b).Small B := fun i a c => by
  have hi := h i a c
  show 0 ≤ fset s.v z 0 i ∧ fset s.v z 0 i ≤ B ∧ 0 ≤ fset s.floor z 0 i ∧ fset s.floor z 0 i ≤ B ∧ 0 ≤ fset s.ran z 0 i ∧ fset s.ran z 0 i ≤ B ∧ 0 ≤ fset s.used z 0 i ∧ fset s.used z 0 i ≤ B
  unfold fset; split <;> omega
theorem newU_tk {s : SF} (h : s.Tk) (z p w : Int) (b : Bool) : (s.newU z p w b).Tk := fun i a c => by
  obtain ⟨t1, t2, t3, t4, t5⟩ := h i a c
  show fset s.floor z 0 i = 0 ∧ fset s.frz z false i = false ∧ fset s.quota z 0 i = 0 ∧ fset s.period z 0 i = 0 ∧ fset s.used z 0 i = 0
  by_cases e : i = z
  · subst e; rw [fset_eq, fset_eq, fset_eq, fset_eq, fset_eq]; exact ⟨rfl, rfl, rfl, rfl, rfl⟩
  · rw [fset_ne _ _ e, fset_ne _ _ e, fset_ne _ _ e, fset_ne _ _ e, fset_ne _ _ e]; exact ⟨t1, t2, t3, t4, t5⟩
/-- what a unit is made anew: the others stand as before -/ theorem newU_set {s : SF} (h : s.Settled) {z : Int} (hw : s.was z = false) (hk : ∀ i, s.was i = true → s.par i ≠ z) (p w : Int) (b : Bool) : (s.newU z p w b).Settled := fun m m0 m1 m2 => by
  show fset s.was z false m = _
  by_cases e : m = z
  · subst e
    rw [fset_eq]
    unfold ready
    split
    · show false = fset s.awake m false m
      rw [fset_eq]
    · rw [kid_no (s := s.newU m p w b) (fun i hi => ?_)]; rfl
      have hi2 : fset s.was m false i = true := hi
      show fset s.par m p i ≠ m
      by_cases ci : i = m
      · subst ci; rw [fset_eq] at hi2; cases hi2
      · rw [fset_ne _ _ ci] at hi2 ⊢; exact hk i hi2
  · have m3 : fset s.here z b m = true := m2
    rw [fset_ne _ _ e] at m3 ⊢
    rw [h m m0 m1 m3]
    refine (ready_eq (s := s) (t := s.newU z p w b) (fset_ne _ _ e) (fset_ne _ _ e) (fset_ne _ _ e) (fset_ne _ _ e) (kid_eq fun i _ _ => ?_)).symm
    show (fset s.was z false i = true ∧ fset s.par z p i = m) ↔ _
    by_cases ci : i = z
    · subst ci; rw [fset_eq, hw]; simp
    · rw [fset_ne _ _ ci, fset_ne _ _ ci]
theorem Ok.add {s : SF} {d : Int → Nat} {m : Nat} {t : Int} (h : s.Ok d m t) (ht : 0 ≤ t) {z p w : Int} (hz : 0 < z ∧ z < 30) (hn : s.here z = false) (hp : 0 ≤ p ∧ p < 10 ∧ s.here p = true) (hw : 1 ≤ w) : (s.newU z p w true).Ok (fset d z (d p + 1)) (m + 1) t := by
  have hwz := h.inv.was_no hn
  have hpz : ¬ p = z := fun e => by rw [e, hn] at hp; exact absurd hp.2.2 (by simp)
  have hne : ∀ i, 0 < i → i < 30 → s.here i = true → ¬ s.par i = z := fun i a b c e => by
    have := (h.inv.up i a b c).2.2.1
    rw [e, hn] at this; cases this
  refine ⟨⟨?_, fun i a b c => ?_, fun i hi => ?_, fun i a b => ?_, fun i a b c => ?_⟩, fun i a b => ?_, newU_set h.set hwz (fun i hi => ?_) p w true, newU_tk h.tk z p w true, newU_small (by omega) h.small z p w true, h.now⟩
  · show fset s.here z true 0 = true
    rw [fset_ne _ _ (by omega)]; exact h.inv.h0
  · have c2 : fset s.here z true i = true := c
    show 0 ≤ fset s.par z p i ∧ fset s.par z p i < 10 ∧ fset s.here z true (fset s.par z p i) = true ∧ fset d z (d p + 1) (fset s.par z p i) < fset d z (d p + 1) i
    by_cases e : i = z
    · subst e
      rw [fset_eq, fset_eq, fset_ne _ _ hpz, fset_ne _ _ hpz]
      exact ⟨hp.1, hp.2.1, hp.2.2, by omega⟩
    · rw [fset_ne _ _ e] at c2
      have hpi := hne i a b c2
      rw [fset_ne _ _ e, fset_ne _ _ e, fset_ne _ _ hpi, fset_ne _ _ hpi]
      exact h.inv.up i a b c2
  · have hi2 : fset s.was z false i = true := hi
    show 0 < i ∧ i < 30 ∧ fset s.here z true i = true
    by_cases e : i = z
    · subst e; rw [fset_eq] at hi2; cases hi2
    · rw [fset_ne _ _ e] at hi2 ⊢; exact h.inv.was i hi2
  · show 0 ≤ fset s.quota z 0 i ∧ (0 < fset s.quota z 0 i → 1 ≤ fset s.period z 0 i)
    have := h.inv.quo i a b
    unfold fset; split <;> omega
  · have c2 : fset s.here z true i = true := c
    show 1 ≤ fset s.wt z w i
    by_cases e : i = z
    · subst e; rw [fset_eq]; exact hw
    · rw [fset_ne _ _ e] at c2 ⊢; exact h.inv.wt i a b c2
  · have h1 := h.dep i a b
    have h2 := h.dep p hp.1 (by omega)
    unfold fset; split <;> omega
  · obtain ⟨a, b, c⟩ := h.inv.was i hi
    exact hne i a b c
theorem Ok.drop {s : SF} {d : Int → Nat} {m : Nat} {t : Int} (h : s.Ok d m t) (ht : 0 ≤ t) {z : Int} (hz : 0 < z ∧ z < 30) (hk : ∀ i, 0 < i → i < 30 → ¬ (s.here i = true ∧ s.par i = z)) (hw : s.was z = false) : (s.newU z 0 0 false).Ok d m t := by
  refine ⟨⟨?_, fun i a b c => ?_, fun i hi => ?_, fun i a b => ?_, fun i a b c => ?_⟩, h.dep, newU_set h.set hw (fun i hi => ?_) 0 0 false, newU_tk h.tk z 0 0 false, newU_small (by omega) h.small z 0 0 false, h.now⟩
  · show fset s.here z false 0 = true
    rw [fset_ne _ _ (by omega)]; exact h.inv.h0
  · have c2 : fset s.here z false i = true := c
    show 0 ≤ fset s.par z 0 i ∧ fset s.par z 0 i < 10 ∧ fset s.here z false (fset s.par z 0 i) = true ∧ d (fset s.par z 0 i) < d i
    by_cases e : i = z
    · subst e; rw [fset_eq] at c2; cases c2
    · rw [fset_ne _ _ e] at c2
      have hpi : ¬ s.par i = z := fun q => hk i (by omega) b ⟨c2, q⟩
      rw [fset_ne _ _ e, fset_ne _ _ hpi]
      exact h.inv.up i a b c2
  · have hi2 : fset s.was z false i = true := hi
    show 0 < i ∧ i < 30 ∧ fset s.here z false i = true
    by_cases e : i = z
    · subst e; rw [fset_eq] at hi2; cases hi2
    · rw [fset_ne _ _ e] at hi2 ⊢; exact h.inv.was i hi2
  · show 0 ≤ fset s.quota z 0 i ∧ (0 < fset s.quota z 0 i → 1 ≤ fset s.period z 0 i)
    have := h.inv.quo i a b
    unfold fset; split <;> omega
  · have c2 : fset s.here z false i = true := c
    show 1 ≤ fset s.wt z 0 i
    by_cases e : i = z
    · subst e; rw [fset_eq] at c2; cases c2
    · rw [fset_ne _ _ e] at c2 ⊢; exact h.inv.wt i a b c2
  · obtain ⟨a, b, c⟩ := h.inv.was i hi
    exact fun q => hk i (by omega) b ⟨c, q⟩
theorem moveE_nn (s : SF) (n g : Int) : 0 ≤ s.moveE n g := by unfold moveE; have := s.grE_nn g; have := s.tkE_nn n; split <;> omega
theorem Ok.addG {s : SF} {d : Int → Nat} {m : Nat} {t : Int} (h : s.Ok d m t) (ht : 0 ≤ t) (n p w : Int) : ∃ d', (s.addG n p w).Ok d' (m + 1) t := by
  unfold SF.addG
  by_cases c : s.addGE n p w = 0
  · rw [if_pos c]
    unfold addGE at c
    split at c
    · omega
    · split at c
      · omega
      · have hh : s.here n = false := by simpa using (by assumption : ¬ s.here n = true)
        have hn0 : n ≠ 0 := fun e => by rw [e, h.inv.h0] at hh; cases hh
        exact ⟨_, h.add ht ⟨by omega, by omega⟩ hh (grE_0 c) (by omega)⟩
  · rw [if_neg c]; exact ⟨d, h.mono (by omega) (by omega)⟩
theorem Ok.addT {s : SF} {d : Int → Nat} {m : Nat} {t : Int} (h : s.Ok d m t) (ht : 0 ≤ t) (n p w : Int) : ∃ d', (s.addT n p w).Ok d' (m + 1) t := by
  unfold SF.addT
  by_cases c : s.addTE n p w = 0
  · rw [if_pos c]
    unfold addTE at c
    split at c
    · omega
    · split at c
      · omega
      · have hh : s.here (10 + n) = false := by simpa using (by assumption : ¬ s.here (10 + n) = true)
        exact ⟨_, h.add ht ⟨by omega, by omega⟩ hh (grE_0 c) (by omega)⟩
  · rw [if_neg c]; exact ⟨d, h.mono (by omega) (by omega)⟩
theorem Ok.dropG {s : SF} {d : Int → Nat} {m : Nat} {t : Int} (h : s.Ok d m t) (ht : 0 ≤ t) (n : Int) : (s.dropG n).Ok d m t := by
  unfold SF.dropG
  by_cases c : s.dropGE n = 0
  · rw [if_pos c]
    have hg := s.grE_nn n
    unfold dropGE at c
    split at c
    · omega
    · split at c
      · omega
      · rename_i c1 c2
        obtain ⟨i1, i2, i3⟩ := grE_0 (show s.grE n = 0 by omega)
        have hk : ∀ i, 0 < i → i < 30 → ¬ (s.here i = true ∧ s.par i = n) := fun i a b q => c2 (.inr (anyU_of (by omega) b q.1 q.2))
        have hn0 : n ≠ 0 := fun e => c2 (.inl e)
        refine h.drop ht ⟨by omega, by omega⟩ hk (h.hset n i1 i2 i3 fun i hi => ?_)
        obtain ⟨a, b, c⟩ := h.inv.was i hi
        exact fun q => hk i (by omega) b ⟨c, q⟩
  · rw [if_neg c]; exact h
theorem Ok.dropT {s : SF} {d : Int → Nat} {m : Nat} {t : Int} (h : s.Ok d m t) (ht : 0 ≤ t) (n : Int) : (s.dropT d n).Ok d m t := by
  unfold SF.dropT
  by_cases c : s.tkE n = 0
  · rw [if_pos c]
    obtain ⟨i1, i2, i3⟩ := tkE_0 c
    obtain ⟨w1, w2, w3, w4, _⟩ := wake_off h.inv i1 i2 i3
    refine (h.wake n false).drop ht ⟨by omega, by omega⟩ (fun i a b q => ?_) w2
    have := (w1.up i a b q.1).2.1; omega
  · rw [if_neg c]; exact h
theorem Ok.move {s : SF} {d : Int → Nat} {m : Nat} {t : Int} (h : s.Ok d m t) (ht : 0 ≤ t) (n g : Int) : ∃ d', (s.move d n g).Ok d' (m + 1) t := by
  unfold SF.move
  by_cases c : s.moveE n g = 0
  · rw [if_pos c]
    have hn := s.tkE_nn n
    have hg := s.grE_nn g
    unfold moveE at c
    split at c
    · omega
    · obtain ⟨i1, i2, i3⟩ := tkE_0 (show s.tkE n = 0 by omega)
      obtain ⟨k1, k2, k3⟩ := grE_0 c
      obtain ⟨w1, w2, w3, w4, w5⟩ := wake_off h.inv i1 i2 i3
      have hw := h.wake n false
      refine ⟨_, look_ok (s := mv1 d s n g) (w1.moved (n := 10 + n) (g := g) ⟨by omega, by omega⟩ ⟨k1, k2, by rw [w3]; exact k3⟩ w2 _ _) (fun i a b => ?_) ⟨by omega, by omega, ?_⟩ ((hw.set.x (10 + n)).same rfl (fun i q => kid_eq fun j _ _ => ?_) (fun i q => ⟨?_, rfl, rfl, rfl, rfl⟩)) hw.tk (fun i a b => ?_) hw.now⟩
      · have h1 := h.dep i a b
        have h2 := h.dep g k1 (by omega)
        unfold fset; split <;> omega
      · show (s.wake d n false).here (10 + n) = true
        rw [w3]; exact i3
      · show ((s.wake d n false).was j = true ∧ fset (s.wake d n false).par (10 + n) g j = i) ↔ _
        by_cases e : j = 10 + n
        · subst e; rw [w2]; simp
        · rw [fset_ne _ _ e]
      · exact fset_ne _ _ q
      · have := hw.small i a b
        show 0 ≤ fset (s.wake d n false).v (10 + n) 0 i ∧ fset (s.wake d n false).v (10 + n) 0 i ≤ 2000000000 * t ∧ _
        refine ⟨?_, ?_, this.2.2⟩ <;> (unfold fset; split <;> omega)
  · rw [if_neg c]; exact ⟨d, h.mono (by omega) (by omega)⟩
theorem Ok.refN {s : SF} {d : Int → Nat} {m : Nat} {t : Int} (h : s.Ok d m t) (ht : 0 ≤ t) : ∀ k : Nat, k ≤ 9 → (SF.refN d s k).Ok d m t ∧ (SF.refN d s k).now = s.now
  | 0, _ => ⟨h, rfl⟩
  | k + 1, hk => by
    obtain ⟨h1, h2⟩ := h.refN ht k (by omega)
    show (refill d (SF.refN d s k) ((k : Int) + 1)).Ok d m t ∧ (refill d (SF.refN d s k) ((k : Int) + 1)).now = s.now
    unfold refill
    split
    · rename_i c
      refine ⟨look_ok (s := { SF.refN d s k with used := fset (SF.refN d s k).used ((k : Int) + 1) 0 }) ⟨h1.inv.h0, h1.inv.up, h1.inv.was, h1.inv.quo, h1.inv.wt⟩ h1.dep ⟨by omega, by omega, c.1⟩ ((h1.set.x _).same rfl (fun _ _ => rfl) (fun i q => ⟨rfl, rfl, rfl, fset_ne _ _ q, rfl⟩)) (fun i i0 i1 => ?_) (Small.used (by omega) h1.small _) h1.now, (lookF_keeps _ _ _).2.2.2.2.2.2.2.2.2.2.trans h2⟩
      obtain ⟨t1, t2, t3, t4, t5⟩ := h1.tk i i0 i1
      refine ⟨t1, t2, t3, t4, ?_⟩
      show fset _ _ 0 i = 0
      unfold fset; split
      · rfl
      · exact t5
    · exact ⟨h1, h2⟩
theorem Ok.tick0 {s : SF} {d : Int → Nat} {m : Nat} {t : Int} (h : s.Ok d m t) (ht : 0 ≤ t) : (s.tick0 d).Ok d m (t + 1) := by
  obtain ⟨h1, h2⟩ := h.refN ht 9 (Nat.le_refl _)
  have hn := h.now
  exact ⟨⟨h1.inv.h0, h1.inv.up, h1.inv.was, h1.inv.quo, h1.inv.wt⟩, h1.dep, h1.set, h1.tk, Small.mono (s := SF.refN d s 9) h1.small (by omega), by show 0 ≤ s.now + 1 ∧ s.now + 1 ≤ t + 1; omega⟩
theorem dsc_is {s : SF} {d : Int → Nat} (hI : s.Inv d) : ∀ (k : Nat) (a : Int), (0 ≤ a ∧ a < 30 ∧ s.here a = true) → maxD d 30 < k + d a → 0 ≤ dsc s k a → 10 ≤ dsc s k a ∧ dsc s k a < 30 ∧ s.here (dsc s k a) = true
  | 0, a, ha, hk, _ => by have := maxD_le d 30 a ha.1 (by omega); omega
  | k + 1, a, ha, hk, h0 => by
    by_cases c : 10 ≤ a
    · rw [dsc_end _ _ c]; exact ⟨c, ha.2⟩
    · by_cases hb : s.best a < 0
      · rw [dsc_no _ _ c hb] at h0; omega
      · rw [dsc_go _ _ c hb] at h0 ⊢
        obtain ⟨⟨b1, b2, b3⟩, b4, b5⟩ := best_is (fun i hi => ⟨(hI.was i hi).1, (hI.was i hi).2.1⟩) hb
        have hbI := hI.was _ b1
        have hd := (hI.up _ b4 b5 hbI.2.2).2.2.2
        rw [b2] at hd
        exact dsc_is hI k _ ⟨by omega, b5, hbI.2.2⟩ (by omega) h0
theorem who_is {s : SF} {d : Int → Nat} (hI : (s.tick0 d).Inv d) (h : ¬ who d s < 0) : 10 ≤ who d s ∧ who d s < 30 ∧ (s.tick0 d).here (who d s) = true := by
  unfold who at h ⊢
  exact dsc_is hI _ 0 ⟨by omega, by omega, hI.h0⟩ (by omega) (by omega)
theorem Ok.tick {s : SF} {d : Int → Nat} {m : Nat} {t : Int} (h : s.Ok d m t) (ht : 0 ≤ t) (hm : m ≤ 900) : (s.tick d).2.Ok d m (t + 1) := by
  have h0 := h.tick0 ht
  unfold SF.tick
  split
  · exact h0
  · rename_i c
    obtain ⟨w1, w2, w3⟩ := who_is h0.inv c
    obtain ⟨h1, h2⟩ := h.refN ht 9 (Nat.le_refl _)
    have hs : (s.tick0 d).Small (2000000000 * t) := Small.mono (s := SF.refN d s 9) h1.small (by omega)
    obtain ⟨a1, a2, a3, a4, a5⟩ := chgF_all (d (who d s) + 1) (s.tick0 d) (who d s) (2000000000 * t) h0.inv (.inr ⟨by omega, w2, w3⟩) (h0.set.x _) h0.tk hs (Nat.le_refl _)
    have hd := h0.dep (who d s) (by omega) w2
    exact ⟨a2, h0.dep, a1, a3, a4.mono (by push_cast; omega), by rw [a5]; exact h0.now⟩
theorem init_ok : SF.init.Ok (fun _ => 0) 0 0 := by
  have hh : ∀ n : Int, SF.init.here n = true → n = 0 := fun n h => by
    have h2 : fset (fun _ : Int => false) 0 true n = true := h
    by_cases e : n = 0
    · exact e
    · rw [fset_ne _ _ e] at h2; cases h2
  have hw : ∀ n : Int, SF.init.was n = false := fun n => by
    show fset (fun _ : Int => false) 0 false n = false
    unfold fset; split <;> rfl
  have hz : ∀ n : Int, fset (fun _ : Int => (0 : Int)) 0 0 n = 0 := fun n => by unfold fset; split <;> rfl
  refine ⟨⟨fset_eq (fun _ : Int => false) 0 true, fun n a b c => (by have := hh n c; omega), fun n h => (by rw [hw n] at h; cases h), fun n a b => ?_, fun n a b c => ?_⟩, fun n a b => Nat.le_refl _, fun n a b c => (by have := hh n c; omega), fun n a b => ?_, fun n a b => ?_, by show 0 ≤ (0 : Int) ∧ (0 : Int) ≤ 0; omega⟩
  · show 0 ≤ fset (fun _ : Int => (0 : Int)) 0 0 n ∧ (0 < fset (fun _ : Int => (0 : Int)) 0 0 n → _)
    rw [hz]; omega
  · have := hh n c; subst this
    show 1 ≤ fset (fun _ : Int => (0 : Int)) 0 1 0
    rw [fset_eq]; omega
  · refine ⟨hz n, ?_, hz n, hz n, hz n⟩
    show fset (fun _ : Int => false) 0 false n = false
    unfold fset; split <;> rfl
  · show 0 ≤ fset (fun _ : Int => (0 : Int)) 0 0 n ∧ fset (fun _ : Int => (0 : Int)) 0 0 n ≤ _ ∧ 0 ≤ fset (fun _ : Int => (0 : Int)) 0 0 n ∧ fset (fun _ : Int => (0 : Int)) 0 0 n ≤ _ ∧ 0 ≤ fset (fun _ : Int => (0 : Int)) 0 0 n ∧ fset (fun _ : Int => (0 : Int)) 0 0 n ≤ _ ∧ 0 ≤ fset (fun _ : Int => (0 : Int)) 0 0 n ∧ fset (fun _ : Int => (0 : Int)) 0 0 n ≤ _
    rw [hz]; omega
end SF

end Go.X.Fa

namespace Go.X.Gr
open Go Go.X
/-! ### sums -/
theorem sumN_congr {f g : Int → Int} : ∀ (k : Nat), (∀ j : Int, 0 ≤ j → j < k → f j = g j) → sumN f k = sumN g k
  | 0, _ => rfl
  | k + 1, h => by
    simp only [sumN]
    rw [sumN_congr k (fun j h0 h1 => h j h0 (by omega)), h (k : Int) (by omega) (by omega)]
theorem sumN_add (f g : Int → Int) : ∀ (k : Nat), sumN (fun j => f j + g j) k = sumN f k + sumN g k
  | 0 => rfl
  | k + 1 => by simp only [sumN]; rw [sumN_add f g k]; omega
theorem sumN_mul (p : Int) (f : Int → Int) : ∀ (k : Nat), sumN (fun j => p * f j) k = p * sumN f k
  | 0 => by simp [sumN]
  | k + 1 => by simp only [sumN]; rw [sumN_mul p f k, Int.mul_add]
theorem sumN_zero {f : Int → Int} : ∀ (k : Nat), (∀ j : Int, 0 ≤ j → j < k → f j = 0) → sumN f k = 0
  | 0, _ => rfl
  | k + 1, h => by
    simp only [sumN]
    rw [sumN_zero k (fun j h0 h1 => h j h0 (by omega)), h (k : Int) (by omega) (by omega)]; rfl
theorem sumN_nn {f : Int → Int} : ∀ (k : Nat), (∀ j : Int, 0 ≤ j → j < k → 0 ≤ f j) → 0 ≤ sumN f k
  | 0, _ => Int.le_refl 0
  | k + 1, h => by
    have h1 := sumN_nn k (fun j h0 h1 => h j h0 (by omega))
    have h2 := h (k : Int) (by omega) (by omega)
    simp only [sumN]; omega
theorem sumN_single (v n : Int) (h0 : 0 ≤ n) : ∀ (k : Nat), sumN (fun j => if j = n then v else 0) k = if n < k then v else 0
  | 0 => by simp only [sumN]; rw [if_neg (by omega)]
  | k + 1 => by
    simp only [sumN]
    rw [sumN_single v n h0 k]
    by_cases h : (k : Int) = n
    · rw [if_neg (by omega), if_pos h, if_pos (by omega)]; omega
    · rw [if_neg h]
      by_cases h2 : n < k
      · rw [if_pos h2, if_pos (by omega)]; omega
      · rw [if_neg h2, if_neg (by omega)]; omega
namespace TG
theorem Ok.kid_here {s : TG} (h : s.Ok) {n : Int} (h0 : 0 ≤ n) (h1 : n < 10) (h2 : s.here n = true) (h3 : n ≠ 0) : 0 ≤ s.par n ∧ s.par n < 10 ∧ s.here (s.par n) = true := by
  obtain ⟨d, _, hd⟩ := h.rank
  obtain ⟨_, _, h4⟩ := hd n h0 h1 h2
  exact ⟨(h4 h3).1, (h4 h3).2.1, (h4 h3).2.2.1⟩
/-- what is charged to a group itself is no less than nothing -/ structure Inv (s : TG) : Prop where
  ok : s.Ok
  own : ∀ n, 0 ≤ n → n < 10 → s.here n = true → 0 ≤ s.left s.pr n ∧ 0 ≤ s.left s.pg n
theorem nn_of {s : TG} (h : s.Ok) {f : Int → Int} (ho : ∀ n, 0 ≤ n → n < 10 → s.here n = true → 0 ≤ s.left f n) {n : Int} (h0 : 0 ≤ n) (h1 : n < 10) (h2 : s.here n = true) : 0 ≤ f n := by
  obtain ⟨d, d0, hd⟩ := h.rank
  have key : ∀ (k : Nat) (n : Int), 0 ≤ n → n < 10 → s.here n = true → 4 - d n ≤ k → 0 ≤ f n := by
    intro k
    induction k with
    | zero =>
      intro n h0 h1 h2 hk
      have h3 := ho n h0 h1 h2
      unfold left at h3
      rw [sumN_zero 10 (fun j j0 j1 => by
        unfold kid
        refine if_neg (fun q => ?_)
        have h4 := hd j j0 (by omega) q.1
        have h5 := hd n h0 h1 h2
        by_cases hj : j = 0
        · subst hj
          have := h.root.2
          rw [q.2] at this; omega
        · have := (h4.2.2 hj).2.2.2
          rw [q.2] at this; omega)] at h3
      omega
    | succ k ih =>
      intro n h0 h1 h2 hk
      have h3 := ho n h0 h1 h2
      unfold left at h3
      have h6 := sumN_nn (f := s.kid f n) 10 (fun j j0 j1 => by
        unfold kid
        split
        · rename_i q
          have h4 := hd j j0 (by omega) q.1
          refine ih j j0 (by omega) q.1 ?_
          by_cases hj : j = 0
          · subst hj
            have := h.root.2
            rw [q.2] at this; omega
          · have := (h4.2.2 hj).2.2.2
            rw [q.2] at this; omega
        · omega)
      omega
  exact key 4 n h0 h1 h2 (by omega)
theorem Inv.nn {s : TG} (h : s.Inv) {n : Int} (h0 : 0 ≤ n) (h1 : n < 10) (h2 : s.here n = true) : 0 ≤ s.pr n ∧ 0 ≤ s.pg n :=
  ⟨nn_of h.ok (fun n a b c => (h.own n a b c).1) h0 h1 h2, nn_of h.ok (fun n a b c => (h.own n a b c).2) h0 h1 h2⟩
/-- how often x and its children come in a way -/ theorem count_way {s : TG} : ∀ (l : List Int) (n x : Int), IsWay s.par n l → (∀ y ∈ l, s.here y = true) → 0 ≤ x →
    (l.count x : Int) - sumN (fun k => if s.here k = true ∧ s.par k = x then (l.count k : Int) else 0) 10 = if x = n then 1 else 0
  | [], n, x, hw, _, hx => by
    have hn : n < 0 := hw
    rw [sumN_zero 10 (fun j _ _ => by simp)]
    simp; omega
  | y :: r, n, x, hw, hh, hx => by
    obtain ⟨e1, h0, h1, h2⟩ := hw
    subst e1
    have ih := count_way r (s.par y) x h2 (fun z hz => hh z (List.mem_cons_of_mem _ hz)) hx
    have hy := hh y (by simp)
    have e2 : sumN (fun k => if s.here k = true ∧ s.par k = x then ((y :: r).count k : Int) else 0) 10 = sumN (fun k => if s.here k = true ∧ s.par k = x then (r.count k : Int) else 0) 10 + sumN (fun k => if k = y then (if s.par y = x then 1 else 0) else 0) 10 := by
      rw [← sumN_add]
      refine sumN_congr 10 (fun j j0 j1 => ?_)
      by_cases hj : j = y
      · subst hj
        rw [List.count_cons_self]
        by_cases hp : s.par j = x
        · simp only [hy, hp, and_self, if_true]; push_cast; omega
        · simp [hp]
      · rw [List.count_cons_of_ne (fun e => hj e.symm), if_neg hj]; omega
    rw [e2, sumN_single _ _ h0, if_pos (by omega)]
    by_cases hx2 : x = y
    · subst hx2
      rw [List.count_cons_self, if_pos rfl]
      push_cast
      by_cases h3 : x = s.par x
      · rw [if_pos h3] at ih; rw [if_pos h3.symm]; omega
      · rw [if_neg h3] at ih; rw [if_neg (fun e => h3 e.symm)]; omega
    · rw [List.count_cons_of_ne (fun e => hx2 e.symm), if_neg hx2]
      by_cases h3 : x = s.par y
      · rw [if_pos h3] at ih; rw [if_pos h3.symm]; omega
      · rw [if_neg h3] at ih; rw [if_neg (fun e => h3 e.symm)]; omega
theorem left_lay {s : TG} (h : s.Ok) {n : Int} (h0 : 0 ≤ n) (h1 : n < 10) (h2 : s.here n = true) (f : Int → Int) (p : Int) {x : Int} (hx : 0 ≤ x) :
    s.left (fun y => f y + p * ((s.way n).count y : Int)) x = s.left f x + if x = n then p else 0 := by
  obtain ⟨w1, _, w3⟩ := h.way h0 h1 h2
  have hc := count_way (s := s) (s.way n) n x w1 w3 hx
  unfold left
  have e : sumN (s.kid (fun y => f y + p * ((s.way n).count y : Int)) x) 10 = sumN (s.kid f x) 10 + p * sumN (fun k => if s.here k = true ∧ s.par k = x then ((s.way n).count k : Int) else 0) 10 := by
    rw [← sumN_mul, ← sumN_add]
    refine sumN_congr 10 (fun j _ _ => ?_)
    unfold kid
    split
    · rfl
    · simp
  rw [e]
  have e3 : p * ((s.way n).count x : Int) = p * sumN (fun k => if s.here k = true ∧ s.par k = x then ((s.way n).count k : Int) else 0) 10 + (if x = n then p else 0) := by
    have : ((s.way n).count x : Int) = sumN (fun k => if s.here k = true ∧ s.par k = x then ((s.way n).count k : Int) else 0) 10 + (if x = n then 1 else 0) := by omega
    rw [this, Int.mul_add]
    split <;> simp
  show f x + p * ((s.way n).count x : Int) - _ = _
  omega
theorem Inv.lay {s : TG} (h : s.Inv) {n : Int} (h0 : 0 ≤ n) (h1 : n < 10) (h2 : s.here n = true) {p m : Int} (hp : 0 ≤ s.left s.pr n + p) (hm : 0 ≤ s.left s.pg n + m) : (s.lay (s.way n) p m).Inv := by
  refine ⟨h.ok.lay _ _ _, fun x x0 x1 x2 => ?_⟩
  have a := left_lay h.ok h0 h1 h2 s.pr p x0
  have b := left_lay h.ok h0 h1 h2 s.pg m x0
  have c := h.own x x0 x1 x2
  have a2 : (s.lay (s.way n) p m).left (s.lay (s.way n) p m).pr x = s.left s.pr x + if x = n then p else 0 := a
  have b2 : (s.lay (s.way n) p m).left (s.lay (s.way n) p m).pg x = s.left s.pg x + if x = n then m else 0 := b
  rw [a2, b2]
  by_cases hx : x = n
  · subst hx; rw [if_pos rfl, if_pos rfl]; exact ⟨hp, hm⟩
  · rw [if_neg hx, if_neg hx]; omega
theorem Inv.charge {s : TG} (h : s.Inv) (n p m : Int) : (s.charge n p m).Inv := by
  unfold TG.charge; split
  · rename_i h0
    obtain ⟨⟨n0, n1, n2⟩, p0, p1, m0, m1⟩ := chargeE_0 h0
    have := h.own n n0 n1 n2
    exact h.lay n0 n1 n2 (by omega) (by omega)
  · exact h
theorem unchE_left {s : TG} {n p m : Int} (h : s.unchE n p m = 0) : p ≤ s.left s.pr n ∧ m ≤ s.left s.pg n := by
  unfold unchE at h
  split at h
  · omega
  · split at h
    · assumption
    · omega
theorem Inv.unch {s : TG} (h : s.Inv) (n p m : Int) : (s.unch n p m).Inv := by
  unfold TG.unch; split
  · rename_i h0
    obtain ⟨⟨n0, n1, n2⟩, p0, p1, m0, m1⟩ := unchE_0 h0
    have := unchE_left h0
    exact h.lay n0 n1 n2 (by omega) (by omega)
  · exact h
theorem Inv.move {s : TG} (h : s.Inv) (a b p m : Int) : (s.move a b p m).Inv := by
  unfold TG.move; split
  · exact h
  · split
    · exact (h.unch _ _ _).charge _ _ _
    · exact h
theorem Inv.limit {s : TG} (h : s.Inv) (n p m : Int) : (s.limit n p m).Inv := by
  unfold TG.limit; split
  · exact ⟨⟨h.ok.root, h.ok.rank⟩, h.own⟩
  · exact h
theorem addE_0 {s : TG} {a : Int} (h : s.addE a = 0) : s.isE a = 0 ∧ ¬ (s.way a).length = 4 ∧ 0 ≤ s.addN a ∧ s.addN a < 10 ∧ s.here (s.addN a) = false ∧ s.free = some (s.addN a).toNat := by
  have h' := h
  unfold addE at h
  split at h
  · omega
  · split at h
    · omega
    · split at h
      · omega
      · rename_i h1 h2 h3
        cases hf : s.free with
        | none => exact absurd hf h3
        | some k =>
          have e : s.addN a = (k : Int) := by unfold addN; rw [if_pos h', hf]; rfl
          have hf2 := hf
          unfold free firstN at hf2
          rw [List.find?_range_eq_some] at hf2
          have hk : k < 10 := by simpa using hf2.2.1
          have hh : s.here (k : Int) = false := by simpa using hf2.1
          rw [e]
          exact ⟨by omega, h2, by omega, by omega, hh, by simp⟩
theorem Ok.len {s : TG} (h : s.Ok) {d : Int → Nat} (d0 : d 0 = 1) (hd : ∀ n, 0 ≤ n → n < 10 → s.here n = true → 1 ≤ d n ∧ d n ≤ 4 ∧ (n ≠ 0 → 0 ≤ s.par n ∧ s.par n < 10 ∧ s.here (s.par n) = true ∧ d n = d (s.par n) + 1)) {n : Int} (h0 : 0 ≤ n) (h1 : n < 10) (h2 : s.here n = true) : (s.way n).length = d n :=
  (h.isWay 5 (d n) (by have := (hd n h0 h1 h2).2.1; omega) d d0 hd n h0 h1 h2 rfl).2.1
theorem Ok.put {s : TG} (h : s.Ok) {a k : Int} (ha : s.isE a = 0) (hl : ¬ (s.way a).length = 4) (k0 : 0 ≤ k) (k1 : k < 10) (hk : s.here k = false) : (s.put k a).Ok := by
  obtain ⟨a0, a1, a2⟩ := isE_ok ha
  obtain ⟨d, d0, hd⟩ := h.rank
  have hlen := h.len d0 hd a0 a1 a2
  have hda := hd a a0 a1 a2
  have hk0 : k ≠ 0 := fun e => by subst e; rw [h.root.1] at hk; cases hk
  have hka : a ≠ k := fun e => by subst e; rw [a2] at hk; cases hk
  refine ⟨⟨?_, ?_⟩, fun x => if x = k then d a + 1 else d x, ?_, fun n n0 n1 n2 => ?_⟩
  · show fset s.here k true 0 = true
    rw [fset_ne _ _ (Ne.symm hk0)]; exact h.root.1
  · show fset s.par k a 0 = -1
    rw [fset_ne _ _ (Ne.symm hk0)]; exact h.root.2
  · show (if (0 : Int) = k then d a + 1 else d 0) = 1
    rw [if_neg (Ne.symm hk0)]; exact d0
  · have e1 : (s.put k a).par n = fset s.par k a n := rfl
    have e2 : ∀ x, (s.put k a).here x = fset s.here k true x := fun _ => rfl
    show 1 ≤ (if n = k then d a + 1 else d n) ∧ (if n = k then d a + 1 else d n) ≤ 4 ∧ (n ≠ 0 → 0 ≤ (s.put k a).par n ∧ (s.put k a).par n < 10 ∧ (s.put k a).here ((s.put k a).par n) = true ∧ (if n = k then d a + 1 else d n) = (if (s.put k a).par n = k then d a + 1 else d ((s.put k a).par n)) + 1)
    by_cases hn : n = k
    · subst hn
      rw [if_pos rfl, e1, fset_eq, e2, fset_ne _ _ hka, if_neg hka]
      exact ⟨by omega, by omega, fun _ => ⟨a0, a1, a2, rfl⟩⟩
    · rw [e2, fset_ne _ _ hn] at n2
      have h4 := hd n n0 n1 n2
      rw [if_neg hn, e1, fset_ne _ _ hn]
      refine ⟨h4.1, h4.2.1, fun q => ?_⟩
      obtain ⟨p0, p1, p2, p3⟩ := h4.2.2 q
      have hpk : s.par n ≠ k := fun e => by rw [e, hk] at p2; cases p2
      rw [e2, fset_ne _ _ hpk, if_neg hpk]
      exact ⟨p0, p1, p2, p3⟩
theorem left_put {s : TG} (h : s.Ok) {a k : Int} (hk : s.here k = false) (f : Int → Int) {x : Int} (hx : s.here x = true) : (s.put k a).left (fset f k 0) x = s.left f x := by
  have hxk : x ≠ k := fun e => by subst e; rw [hx] at hk; cases hk
  unfold left
  rw [fset_ne _ _ hxk]
  congr 1
  refine sumN_congr 10 (fun j j0 j1 => ?_)
  unfold kid
  show (if fset s.here k true j = true ∧ fset s.par k a j = x then fset f k 0 j else 0) = _
  by_cases hj : j = k
  · subst hj; rw [fset_eq, fset_eq, fset_eq, hk]; simp
  · rw [fset_ne _ _ hj, fset_ne _ _ hj, fset_ne _ _ hj]
theorem left_new {s : TG} (h : s.Ok) {a k : Int} (hk : s.here k = false) (hk0 : 0 ≤ k) (hka : a ≠ k) (f : Int → Int) : (s.put k a).left (fset f k 0) k = 0 := by
  unfold left
  rw [fset_eq, sumN_zero]
  · rfl
  · intro j j0 j1
    unfold kid
    show (if fset s.here k true j = true ∧ fset s.par k a j = k then fset f k 0 j else 0) = 0
    by_cases hj : j = k
    · subst hj; rw [fset_eq, fset_eq, fset_eq]; simp
    · rw [fset_ne _ _ hj, fset_ne _ _ hj, fset_ne _ _ hj]
      refine if_neg (fun q => ?_)
      by_cases hj0 : j = 0
      · subst hj0; rw [h.root.2] at q; omega
      · have := (h.kid_here j0 (by omega) q.1 hj0).2.2
        rw [q.2, hk] at this; cases this
theorem Inv.add {s : TG} (h : s.Inv) (a : Int) : (s.add a).Inv := by
  unfold TG.add; split
  · rename_i h0
    obtain ⟨e1, e2, e3, e4, e5, _⟩ := addE_0 h0
    have hok := h.ok.put e1 e2 e3 e4 e5
    refine ⟨hok, fun x x0 x1 x2 => ?_⟩
    show 0 ≤ (s.put (s.addN a) a).left (fset s.pr (s.addN a) 0) x ∧ 0 ≤ (s.put (s.addN a) a).left (fset s.pg (s.addN a) 0) x
    by_cases hx : x = s.addN a
    · have ha : a ≠ s.addN a := fun e => by
        have := (isE_ok e1).2.2
        rw [e, e5] at this; cases this
      rw [hx, left_new h.ok e5 e3 ha, left_new h.ok e5 e3 ha]; omega
    · have hx2 : s.here x = true := by
        have : (s.put (s.addN a) a).here x = fset s.here (s.addN a) true x := rfl
        rw [this, fset_ne _ _ hx] at x2; exact x2
      rw [left_put h.ok e5 _ hx2, left_put h.ok e5 _ hx2]
      exact h.own x x0 x1 hx2
  · exact h
theorem removeE_0 {s : TG} {n : Int} (h : s.removeE n = 0) : s.isE n = 0 ∧ n ≠ 0 ∧ ¬ 0 < s.pr n ∧ ¬ 0 < s.pg n ∧ s.kidN n = false := by
  unfold removeE at h
  split at h
  · omega
  · split at h
    · omega
    · rename_i h1 h2
      refine ⟨by omega, fun e => h2 (.inl e), fun e => h2 (.inr (.inl e)), fun e => h2 (.inr (.inr (.inl e))), ?_⟩
      cases hk : s.kidN n with
      | false => rfl
      | true => exact absurd (.inr (.inr (.inr hk))) h2
theorem no_kid {s : TG} {n : Int} (h : s.kidN n = false) {j : Int} (j0 : 0 ≤ j) (j1 : j < 10) (j2 : s.here j = true) : s.par j ≠ n := fun e => by
  rw [kidN_of j0 j1 j2 e] at h; cases h
/-- a group that is taken away: whatever of it is left in the tables -/ theorem Ok.drop {s t : TG} (h : s.Ok) {n : Int} (hn : n ≠ 0) (hk : s.kidN n = false) (hh : t.here = fset s.here n false) (hp : ∀ x, x ≠ n → t.par x = s.par x) : t.Ok := by
  obtain ⟨d, d0, hd⟩ := h.rank
  refine ⟨⟨by rw [hh, fset_ne _ _ (Ne.symm hn)]; exact h.root.1, by rw [hp 0 (Ne.symm hn)]; exact h.root.2⟩, d, d0, fun x x0 x1 x2 => ?_⟩
  have hx : x ≠ n := fun e => by subst e; rw [hh, fset_eq] at x2; cases x2
  rw [hh, fset_ne _ _ hx] at x2
  have h4 := hd x x0 x1 x2
  rw [hp x hx]
  refine ⟨h4.1, h4.2.1, fun q => ?_⟩
  obtain ⟨p0, p1, p2, p3⟩ := h4.2.2 q
  refine ⟨p0, p1, ?_, p3⟩
  rw [hh, fset_ne _ _ (no_kid hk x0 x1 x2)]; exact p2
theorem Inv.remove {s : TG} (h : s.Inv) (n : Int) : (s.remove n).Inv := by
  unfold TG.remove; split
  · rename_i h0
    obtain ⟨e1, e2, e3, e4, e5⟩ := removeE_0 h0
    obtain ⟨n0, n1, n2⟩ := isE_ok e1
    have hnn := h.nn n0 n1 n2
    refine ⟨h.ok.drop (t := s.clr n) e2 e5 rfl (fun x hx => fset_ne _ _ hx), fun x x0 x1 x2 => ?_⟩
    have hx : x ≠ n := fun e => by
      subst e
      have : (s.clr x).here x = fset s.here x false x := rfl
      rw [this, fset_eq] at x2; cases x2
    have x3 : s.here x = true := by
      have : (s.clr n).here x = fset s.here n false x := rfl
      rw [this, fset_ne _ _ hx] at x2; exact x2
    have key : ∀ f : Int → Int, f n = 0 → (s.clr n).left (fset f n 0) x = s.left f x := fun f hf => by
      unfold left
      rw [fset_ne _ _ hx]
      congr 1
      refine sumN_congr 10 (fun j j0 j1 => ?_)
      unfold kid
      show (if fset s.here n false j = true ∧ fset s.par n 0 j = x then fset f n 0 j else 0) = _
      by_cases hj : j = n
      · subst hj; rw [fset_eq]; simp [hf]
      · rw [fset_ne _ _ hj, fset_ne _ _ hj, fset_ne _ _ hj]
    have h9 := h.own x x0 x1 x3
    show 0 ≤ (s.clr n).left (fset s.pr n 0) x ∧ 0 ≤ (s.clr n).left (fset s.pg n 0) x
    rw [key _ (by omega), key _ (by omega)]
    exact h9
  · exact h
theorem init_here (n : Int) : TG.init.here n = decide (n = 0) := by
  show fset (fun _ => false) 0 true n = _
  unfold fset; by_cases h : n = 0 <;> simp [h]
theorem Inv.init : TG.init.Inv := by
  have hh : ∀ n : Int, TG.init.here n = true → n = 0 := fun n h => by rw [init_here] at h; simpa using h
  refine ⟨⟨⟨by rw [init_here]; rfl, rfl⟩, fun _ => 1, rfl, fun n n0 n1 n2 => ?_⟩, fun n n0 n1 n2 => ?_⟩
  · have := hh n n2; subst this
    exact ⟨Nat.le_refl 1, by show 1 ≤ 4; omega, fun q => absurd rfl q⟩
  · have := hh n n2; subst this
    decide +kernel
theorem Small.init : TG.init.Small 0 := fun n h0 h1 => by
  have : n = 0 ∨ n = 1 ∨ n = 2 ∨ n = 3 ∨ n = 4 ∨ n = 5 ∨ n = 6 ∨ n = 7 ∨ n = 8 ∨ n = 9 := by omega
  rcases this with rfl | rfl | rfl | rfl | rfl | rfl | rfl | rfl | rfl | rfl <;> decide +kernel
theorem Small.add {s : TG} {B : Int} (h : s.Small B) (hB : 0 ≤ B) (a : Int) : (s.add a).Small B := by
  unfold TG.add; split
  · intro n h0 h1
    show -B ≤ fset s.pr _ 0 n ∧ fset s.pr _ 0 n ≤ B ∧ -B ≤ fset s.pg _ 0 n ∧ fset s.pg _ 0 n ≤ B
    have := h n h0 h1
    unfold fset; split <;> omega
  · exact h
theorem Small.remove {s : TG} {B : Int} (h : s.Small B) (hB : 0 ≤ B) (a : Int) : (s.remove a).Small B := by
  unfold TG.remove; split
  · intro n h0 h1
    show -B ≤ fset s.pr _ 0 n ∧ fset s.pr _ 0 n ≤ B ∧ -B ≤ fset s.pg _ 0 n ∧ fset s.pg _ 0 n ≤ B
    have := h n h0 h1
    unfold fset; split <;> omega
  · exact h
theorem Small.remove' {s : TG} {B : Int} (h : s.Small B) (a : Int) : (s.remove' a).Small B := by
  unfold TG.remove'; split <;> exact h
theorem Small.limit {s : TG} {B : Int} (h : s.Small B) (n p m : Int) : (s.limit n p m).Small B := by
  unfold TG.limit; split <;> exact h
theorem Small.move {s : TG} {B : Int} (h : s.Small B) (hO : s.Ok) (a b p m : Int) : (s.move a b p m).Small (B + 640) := by
  unfold TG.move; split
  · exact h.mono (by omega)
  · split
    · exact ((h.unch hO a p m).charge hO.unch b p m).mono (by omega)
    · exact h.mono (by omega)
/-! ### the code's tree and the document's -/
structure Rel (s t : TG) : Prop where
  here : s.here = t.here
  gv : ∀ n, 0 ≤ n → n < 10 → s.here n = true → s.gv n = t.gv n
theorem Rel.par {s t : TG} (h : Rel s t) {n : Int} (h0 : 0 ≤ n) (h1 : n < 10) (h2 : s.here n = true) : t.par n = s.par n := (congrArg GV.par (h.gv n h0 h1 h2)).symm
theorem Rel.pr {s t : TG} (h : Rel s t) {n : Int} (h0 : 0 ≤ n) (h1 : n < 10) (h2 : s.here n = true) : t.pr n = s.pr n := (congrArg GV.pr (h.gv n h0 h1 h2)).symm
theorem Rel.pg {s t : TG} (h : Rel s t) {n : Int} (h0 : 0 ≤ n) (h1 : n < 10) (h2 : s.here n = true) : t.pg n = s.pg n := (congrArg GV.pg (h.gv n h0 h1 h2)).symm
theorem Rel.ok {s t : TG} (h : Rel s t) (hO : s.Ok) : t.Ok := by
  obtain ⟨d, d0, hd⟩ := hO.rank
  have hr := hO.root
  refine ⟨⟨by rw [← h.here]; exact hr.1, by rw [h.par (by omega) (by omega) hr.1]; exact hr.2⟩, d, d0, fun n n0 n1 n2 => ?_⟩
  rw [← h.here] at n2 ⊢
  rw [h.par n0 n1 n2]
  exact hd n n0 n1 n2
theorem Rel.way {s t : TG} (h : Rel s t) (hO : s.Ok) {n : Int} (h0 : 0 ≤ n) (h1 : n < 10) (h2 : s.here n = true) : t.way n = s.way n := by
  obtain ⟨w1, _, w3⟩ := hO.way h0 h1 h2
  obtain ⟨v1, _⟩ := (h.ok hO).way h0 h1 (by rw [← h.here]; exact h2)
  exact v1.unique (w1.congr (fun x hx => by
    obtain ⟨x0, x1⟩ := w1.range x hx
    exact h.par x0 x1 (w3 x hx)))
theorem Rel.isE {s t : TG} (h : Rel s t) (n : Int) : t.isE n = s.isE n := by unfold TG.isE; rw [h.here]
theorem Rel.chE {s t : TG} (h : Rel s t) (n p m : Int) : t.chE n p m = s.chE n p m := by unfold TG.chE; rw [h.isE]
theorem Rel.left {s t : TG} (h : Rel s t) {n : Int} (h0 : 0 ≤ n) (h1 : n < 10) (h2 : s.here n = true) : t.left t.pr n = s.left s.pr n ∧ t.left t.pg n = s.left s.pg n := by
  unfold TG.left
  rw [h.pr h0 h1 h2, h.pg h0 h1 h2]
  have e1 : sumN (t.kid t.pr n) 10 = sumN (s.kid s.pr n) 10 := sumN_congr 10 (fun j j0 j1 => by
    unfold kid
    rw [← h.here]
    by_cases hj : s.here j = true
    · rw [h.par j0 (by omega) hj, h.pr j0 (by omega) hj]
    · simp [hj])
  have e2 : sumN (t.kid t.pg n) 10 = sumN (s.kid s.pg n) 10 := sumN_congr 10 (fun j j0 j1 => by
    unfold kid
    rw [← h.here]
    by_cases hj : s.here j = true
    · rw [h.par j0 (by omega) hj, h.pg j0 (by omega) hj]
    · simp [hj])
  rw [e1, e2]; exact ⟨rfl, rfl⟩
theorem Rel.unchE {s t : TG} (h : Rel s t) (n p m : Int) : t.unchE n p m = s.unchE n p m := by
  unfold TG.unchE
  rw [h.chE]
  by_cases hc : s.chE n p m = 0
  · obtain ⟨⟨n0, n1, n2⟩, _⟩ := chE_0 hc
    rw [(h.left n0 n1 n2).1, (h.left n0 n1 n2).2]
  · rw [if_pos hc, if_pos hc]
theorem Rel.room {s t : TG} (h : Rel s t) (hO : s.Ok) {n : Int} (h0 : 0 ≤ n) (h1 : n < 10) (h2 : s.here n = true) (p m : Int) : ∀ x ∈ s.way n, t.room p m x = s.room p m x := fun x hx => by
  obtain ⟨w1, _, w3⟩ := hO.way h0 h1 h2
  obtain ⟨x0, x1⟩ := w1.range x hx
  unfold TG.room
  rw [h.gv x x0 x1 (w3 x hx)]
theorem all_congr {l : List Int} {p q : Int → Bool} (h : ∀ x ∈ l, p x = q x) : l.all p = l.all q := by
  induction l with
  | nil => rfl
  | cons x r ih => simp only [List.all_cons, h x (by simp), ih (fun y hy => h y (List.mem_cons_of_mem _ hy))]
theorem find_congr {l : List Int} {p q : Int → Bool} (h : ∀ x ∈ l, p x = q x) : l.find? p = l.find? q := by
  induction l with
  | nil => rfl
  | cons x r ih => simp only [List.find?_cons, h x (by simp), ih (fun y hy => h y (List.mem_cons_of_mem _ hy))]
theorem Rel.chargeE {s t : TG} (h : Rel s t) (hO : s.Ok) (n p m : Int) : t.chargeE n p m = s.chargeE n p m := by
  unfold TG.chargeE
  rw [h.chE]
  by_cases hc : s.chE n p m = 0
  · obtain ⟨⟨n0, n1, n2⟩, _⟩ := chE_0 hc
    rw [h.way hO n0 n1 n2, all_congr (h.room hO n0 n1 n2 p m)]
  · rw [if_pos hc, if_pos hc]
theorem Rel.lacks {s t : TG} (h : Rel s t) (hO : s.Ok) (n p m : Int) : t.lacks n p m = s.lacks n p m := by
  unfold TG.lacks
  rw [h.chE]
  by_cases hc : s.chE n p m = 0
  · obtain ⟨⟨n0, n1, n2⟩, _⟩ := chE_0 hc
    rw [h.way hO n0 n1 n2, find_congr (p := fun x => !t.room p m x) (q := fun x => !s.room p m x) (fun x hx => by rw [h.room hO n0 n1 n2 p m x hx])]
  · rw [if_pos hc, if_pos hc]
theorem Rel.under {s t : TG} (h : Rel s t) (hO : s.Ok) (n o : Int) : t.under n o = s.under n o := by
  unfold TG.under
  rw [h.isE]
  by_cases hc : s.isE n = 0
  · obtain ⟨n0, n1, n2⟩ := isE_ok hc
    rw [h.way hO n0 n1 n2]
  · rw [if_pos hc, if_pos hc]
theorem Rel.limitE {s t : TG} (h : Rel s t) (n p m : Int) : t.limitE n p m = s.limitE n p m := by unfold TG.limitE; rw [h.isE]
theorem Rel.free {s t : TG} (h : Rel s t) : t.free = s.free := by unfold TG.free; rw [h.here]
theorem Rel.addE {s t : TG} (h : Rel s t) (hO : s.Ok) (a : Int) : t.addE a = s.addE a := by
  unfold TG.addE
  rw [h.isE, h.free]
  by_cases hc : s.isE a = 0
  · obtain ⟨n0, n1, n2⟩ := isE_ok hc
    rw [h.way hO n0 n1 n2]
  · rw [if_pos hc, if_pos hc]
theorem Rel.addN {s t : TG} (h : Rel s t) (hO : s.Ok) (a : Int) : t.addN a = s.addN a := by unfold TG.addN; rw [h.addE hO, h.free]
theorem Rel.kidN {s t : TG} (h : Rel s t) (n : Int) : t.kidN n = s.kidN n := by
  rw [Bool.eq_iff_iff, kidN_true, kidN_true]
  unfold below
  rw [← h.here]
  constructor
  · rintro ⟨k, k0, k1, k2, k3⟩; exact ⟨k, k0, k1, k2, by rw [← h.par k0 k1 k2]; exact k3⟩
  · rintro ⟨k, k0, k1, k2, k3⟩; exact ⟨k, k0, k1, k2, by rw [h.par k0 k1 k2]; exact k3⟩
theorem Rel.removeE {s t : TG} (h : Rel s t) (hI : s.Inv) (n : Int) : t.removeE' n = s.removeE n := by
  unfold TG.removeE' TG.removeE
  rw [h.isE, h.kidN]
  by_cases hc : s.isE n = 0
  · obtain ⟨n0, n1, n2⟩ := isE_ok hc
    have hnn := hI.nn n0 n1 n2
    rw [h.pr n0 n1 n2, h.pg n0 n1 n2]
    have e1 : (s.pr n ≠ 0) = (0 < s.pr n) := by apply propext; omega
    have e2 : (s.pg n ≠ 0) = (0 < s.pg n) := by apply propext; omega
    simp only [e1, e2]
  · rw [if_pos hc, if_pos hc]
theorem gv_ext {s t : TG} {n : Int} (h1 : s.par n = t.par n) (h2 : s.mp n = t.mp n) (h3 : s.mg n = t.mg n) (h4 : s.pr n = t.pr n) (h5 : s.pg n = t.pg n) : s.gv n = t.gv n := by
  unfold TG.gv; rw [h1, h2, h3, h4, h5]
theorem Rel.eqs {s t : TG} (h : Rel s t) {n : Int} (h0 : 0 ≤ n) (h1 : n < 10) (h2 : s.here n = true) : s.par n = t.par n ∧ s.mp n = t.mp n ∧ s.mg n = t.mg n ∧ s.pr n = t.pr n ∧ s.pg n = t.pg n := by
  have e := h.gv n h0 h1 h2
  exact ⟨congrArg GV.par e, congrArg GV.mp e, congrArg GV.mg e, congrArg GV.pr e, congrArg GV.pg e⟩
theorem Rel.lay {s t : TG} (h : Rel s t) (l : List Int) (p m : Int) : Rel (s.lay l p m) (t.lay l p m) := ⟨h.here, fun n h0 h1 h2 => by
  obtain ⟨e1, e2, e3, e4, e5⟩ := h.eqs h0 h1 h2
  exact gv_ext e1 e2 e3 (by show s.pr n + _ = t.pr n + _; rw [e4]) (by show s.pg n + _ = t.pg n + _; rw [e5])⟩
theorem Rel.charge {s t : TG} (h : Rel s t) (hO : s.Ok) (n p m : Int) : Rel (s.charge n p m) (t.charge n p m) := by
  unfold TG.charge
  rw [h.chargeE hO]
  by_cases hc : s.chargeE n p m = 0
  · rw [if_pos hc, if_pos hc]
    obtain ⟨⟨n0, n1, n2⟩, _⟩ := chargeE_0 hc
    rw [h.way hO n0 n1 n2]; exact h.lay _ _ _
  · rw [if_neg hc, if_neg hc]; exact h
theorem Rel.unch {s t : TG} (h : Rel s t) (hO : s.Ok) (n p m : Int) : Rel (s.unch n p m) (t.unch n p m) := by
  unfold TG.unch
  rw [h.unchE]
  by_cases hc : s.unchE n p m = 0
  · rw [if_pos hc, if_pos hc]
    obtain ⟨⟨n0, n1, n2⟩, _⟩ := unchE_0 hc
    rw [h.way hO n0 n1 n2]; exact h.lay _ _ _
  · rw [if_neg hc, if_neg hc]; exact h
theorem Rel.moveE {s t : TG} (h : Rel s t) (hO : s.Ok) (a b p m : Int) : t.moveE a b p m = s.moveE a b p m := by
  unfold TG.moveE
  rw [h.isE, h.unchE, (h.unch hO a p m).chargeE hO.unch]
theorem Rel.move {s t : TG} (h : Rel s t) (hO : s.Ok) (a b p m : Int) : Rel (s.move a b p m) (t.move a b p m) := by
  unfold TG.move
  rw [h.isE, h.unchE, (h.unch hO a p m).chargeE hO.unch]
  split
  · exact h
  · split
    · exact (h.unch hO a p m).charge hO.unch b p m
    · exact h
theorem Rel.limit {s t : TG} (h : Rel s t) (n p m : Int) : Rel (s.limit n p m) (t.limit n p m) := by
  unfold TG.limit
  rw [h.limitE]
  split
  · refine ⟨h.here, fun x h0 h1 h2 => ?_⟩
    obtain ⟨e1, e2, e3, e4, e5⟩ := h.eqs h0 h1 h2
    exact gv_ext e1 (by show fset s.mp n p x = fset t.mp n p x; unfold fset; rw [e2]) (by show fset s.mg n m x = fset t.mg n m x; unfold fset; rw [e3]) e4 e5
  · exact h
theorem Rel.put {s t : TG} (h : Rel s t) (k a : Int) : Rel (s.put k a) (t.put k a) := by
  refine ⟨by show fset s.here k true = fset t.here k true; rw [h.here], fun x h0 h1 h2 => ?_⟩
  by_cases hx : x = k
  · subst hx
    exact gv_ext (by show fset s.par x a x = fset t.par x a x; rw [fset_eq, fset_eq]) (by show fset s.mp x (-1) x = fset t.mp x (-1) x; rw [fset_eq, fset_eq]) (by show fset s.mg x (-1) x = fset t.mg x (-1) x; rw [fset_eq, fset_eq]) (by show fset s.pr x 0 x = fset t.pr x 0 x; rw [fset_eq, fset_eq]) (by show fset s.pg x 0 x = fset t.pg x 0 x; rw [fset_eq, fset_eq])
  · have h3 : s.here x = true := by
      have : (s.put k a).here x = fset s.here k true x := rfl
      rw [this, fset_ne _ _ hx] at h2; exact h2
    obtain ⟨e1, e2, e3, e4, e5⟩ := h.eqs h0 h1 h3
    exact gv_ext (by show fset s.par k a x = fset t.par k a x; rw [fset_ne _ _ hx, fset_ne _ _ hx, e1]) (by show fset s.mp k (-1) x = fset t.mp k (-1) x; rw [fset_ne _ _ hx, fset_ne _ _ hx, e2]) (by show fset s.mg k (-1) x = fset t.mg k (-1) x; rw [fset_ne _ _ hx, fset_ne _ _ hx, e3]) (by show fset s.pr k 0 x = fset t.pr k 0 x; rw [fset_ne _ _ hx, fset_ne _ _ hx, e4]) (by show fset s.pg k 0 x = fset t.pg k 0 x; rw [fset_ne _ _ hx, fset_ne _ _ hx, e5])
theorem Rel.add {s t : TG} (h : Rel s t) (hO : s.Ok) (a : Int) : Rel (s.add a) (t.add a) := by
  unfold TG.add
  rw [h.addE hO, h.addN hO]
  split
  · exact h.put _ _
  · exact h
theorem Rel.remove {s t : TG} (h : Rel s t) (hI : s.Inv) (n : Int) : Rel (s.remove n) (t.remove' n) := by
  unfold TG.remove TG.remove'
  rw [h.removeE hI]
  split
  · refine ⟨by show fset s.here n false = fset t.here n false; rw [h.here], fun x h0 h1 h2 => ?_⟩
    have hx : x ≠ n := fun e => by
      subst e
      have : (s.clr x).here x = fset s.here x false x := rfl
      rw [this, fset_eq] at h2; cases h2
    have h3 : s.here x = true := by
      have : (s.clr n).here x = fset s.here n false x := rfl
      rw [this, fset_ne _ _ hx] at h2; exact h2
    obtain ⟨e1, e2, e3, e4, e5⟩ := h.eqs h0 h1 h3
    exact gv_ext (by show fset s.par n 0 x = t.par x; rw [fset_ne _ _ hx, e1]) (by show fset s.mp n 0 x = t.mp x; rw [fset_ne _ _ hx, e2]) (by show fset s.mg n 0 x = t.mg x; rw [fset_ne _ _ hx, e3]) (by show fset s.pr n 0 x = t.pr x; rw [fset_ne _ _ hx, e4]) (by show fset s.pg n 0 x = t.pg x; rw [fset_ne _ _ hx, e5])
  · exact h
theorem Rel.all {s t : TG} (h : Rel s t) : t.all = s.all := by unfold TG.all; rw [h.here]
theorem Rel.refl (s : TG) : Rel s s := ⟨rfl, fun _ _ _ _ => rfl⟩
end TG

end Go.X.Gr
