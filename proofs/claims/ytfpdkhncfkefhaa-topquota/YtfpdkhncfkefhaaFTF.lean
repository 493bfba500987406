import Derived.Test.YtfpdkhncfkefhaaFTP
namespace Go.X
open Go
def dF : Int → Nat := fun i => if i = 0 then 0 else if i < 10 then 1 else 2
namespace SF
theorem dF_le (n : Int) : dF n ≤ 2 := by unfold dF; split <;> (try split) <;> omega
theorem dF_2 {x : Int} (h : 10 ≤ x) : dF x = 2 := by unfold dF; rw [if_neg (by omega), if_neg (by omega)]
theorem dF_g {g : Int} (h : 0 ≤ g ∧ g < 10) {x : Int} (hx : 10 ≤ x) : dF g < dF x := by
  unfold dF
  rw [if_neg (by omega : ¬ x = 0), if_neg (by omega : ¬ x < 10)]
  split <;> (try split) <;> omega
/-- a unit more, the ranks as they are -/
theorem Ok.addD {s : SF} {d : Int → Nat} {m : Nat} {t : Int} (h : s.Ok d m t) (ht : 0 ≤ t) {z p w : Int} (hz : 0 < z ∧ z < 30) (hn : s.here z = false) (hp : 0 ≤ p ∧ p < 10 ∧ s.here p = true) (hw : 1 ≤ w) (hd : d p < d z) : (s.newU z p w true).Ok d m t := by
  have h1 := h.add ht hz hn hp hw
  refine ⟨⟨h1.inv.h0, fun i a b c => ?_, h1.inv.was, h1.inv.quo, h1.inv.wt⟩, h.dep, h1.set, h1.tk, h1.small, h1.now⟩
  obtain ⟨a1, a2, a3, a4⟩ := h1.inv.up i a b c
  refine ⟨a1, a2, a3, ?_⟩
  show d (fset s.par z p i) < d i
  by_cases e : i = z
  · subst e; rw [fset_eq]; exact hd
  · have c2 : fset s.here z true i = true := c
    rw [fset_ne _ _ e] at c2 ⊢
    exact (h.inv.up i a b c2).2.2.2
def Z (s : SF) : Prop := ∀ i, s.v i = 0 ∧ s.floor i = 0 ∧ s.ran i = 0
theorem Z.newU {s : SF} (h : s.Z) (z p w : Int) (b : Bool) : (s.newU z p w b).Z := fun i => by
  have hi := h i
  show fset s.v z 0 i = 0 ∧ fset s.floor z 0 i = 0 ∧ fset s.ran z 0 i = 0
  unfold fset; split <;> omega
theorem Z.lookF : ∀ (k : Nat) (s : SF) (n : Int), s.Z → (SF.lookF k s n).Z
  | 0, s, n, h => h
  | k + 1, s, n, h => by
    by_cases c : n ≤ 0
    · rw [lookF_stop _ _ c]; exact h
    · rw [lookF_go _ _ (by omega)]
      refine Z.lookF k (s.stp n) (s.par n) (fun i => ?_)
      obtain ⟨a, b, e⟩ := h i
      refine ⟨?_, b, e⟩
      show fset s.v n (if s.ready n = true ∧ s.was n = false then max (s.v n) (s.floor (s.par n)) else s.v n) i = 0
      have h1 := (h n).1
      have h2 := (h (s.par n)).2.1
      unfold fset
      split
      · split <;> omega
      · exact a
theorem Z.wake {s : SF} (h : s.Z) (d : Int → Nat) (x : Int) (on : Bool) : (s.wake d x on).Z := by
  unfold SF.wake
  split
  · exact Z.lookF _ { s with awake := fset s.awake (10 + x) on } _ h
  · exact h
theorem Z.init : SF.init.Z := fun i => by
  show fset (fun _ : Int => (0 : Int)) 0 0 i = 0 ∧ fset (fun _ : Int => (0 : Int)) 0 0 i = 0 ∧ fset (fun _ : Int => (0 : Int)) 0 0 i = 0
  unfold fset; split <;> simp
theorem wake_now {s : SF} {d : Int → Nat} {x : Int} {on : Bool} : (s.wake d x on).now = s.now := by
  unfold SF.wake
  split
  · exact (lookF_keeps (d (10 + x) + 1) { s with awake := fset s.awake (10 + x) on } (10 + x)).2.2.2.2.2.2.2.2.2.2
  · rfl
structure TF (s : SF) (G n : Int) (wt gp gw : Int → Int) (T : Int) : Prop where
  ok : s.Ok dF 2 T
  ab : s.AB
  G0 : 1 ≤ G ∧ G ≤ 4
  n0 : 0 ≤ n ∧ n ≤ 20
  here : ∀ i, 0 < i → i < 30 → (s.here i = true ↔ (1 ≤ i ∧ i < G) ∨ (10 ≤ i ∧ i < 10 + n))
  gr : ∀ g, 1 ≤ g → g < G → s.par g = 0 ∧ s.wt g = gw g ∧ s.quota g = 0 ∧ s.frz g = false
  tk : ∀ x, 0 ≤ x → x < n → s.par (10 + x) = gp x ∧ 0 ≤ gp x ∧ gp x ≤ 3 ∧ s.wt (10 + x) = wt x
  now : s.now = T
theorem TF.init (wt gp gw : Int → Int) : SF.init.TF 1 0 wt gp gw 0 :=
  ⟨init_okd dF_le, AB.init, by omega, by omega, fun i a b => ⟨fun c => (by
    have h2 : fset (fun _ : Int => false) 0 true i = true := c
    rw [fset_ne _ _ (by omega)] at h2; cases h2), fun c => by omega⟩, fun g a b => by omega, fun x a b => by omega, rfl⟩
theorem TF.no {s : SF} {G n : Int} {wt gp gw : Int → Int} {T : Int} (h : s.TF G n wt gp gw T) {i : Int} (h0 : 0 < i) (h1 : i < 30) (hc : ¬ ((1 ≤ i ∧ i < G) ∨ (10 ≤ i ∧ i < 10 + n))) : s.here i = false := by
  cases q : s.here i with
  | false => rfl
  | true => exact absurd ((h.here i h0 h1).1 q) hc
theorem TF.addG {s : SF} {G : Int} {wt gp gw : Int → Int} (h : s.TF G 0 wt gp gw 0) (hG : G ≤ 3) {w : Int} (hw : 1 ≤ w ∧ w ≤ 1000) : s.addGE G 0 w = 0 ∧ (s.addG G 0 w).TF (G + 1) 0 wt gp (fset gw G w) 0 ∧ (s.Z → (s.addG G 0 w).Z) := by
  have hG0 := h.G0
  have hh := h.no (i := G) (by omega) (by omega) (by omega)
  have hE : s.addGE G 0 w = 0 := by
    unfold addGE
    rw [if_neg (by omega), if_neg (by rw [hh]; simp)]
    exact grE_of (by omega) (by omega) h.ok.inv.h0
  have e : s.addG G 0 w = s.newU G 0 w true := by unfold SF.addG; rw [if_pos hE]
  rw [e]
  have hd : dF 0 < dF G := by unfold dF; rw [if_pos rfl, if_neg (by omega), if_pos (by omega)]; omega
  refine ⟨hE, ⟨h.ok.addD (by omega) (z := G) (p := 0) ⟨by omega, by omega⟩ hh ⟨by omega, by omega, h.ok.inv.h0⟩ hw.1 hd, AB.add h.ok h.ab hh ⟨by omega, by omega, h.ok.inv.h0⟩ hw.1, by omega, by omega, fun i a b => ?_, fun g a b => ?_, fun x a b => by omega, h.now⟩, fun hz => hz.newU _ _ _ _⟩
  · show fset s.here G true i = true ↔ _
    by_cases c : i = G
    · subst c; rw [fset_eq]; simp; omega
    · rw [fset_ne _ _ c, h.here i a b]; omega
  · show fset s.par G 0 g = 0 ∧ fset s.wt G w g = fset gw G w g ∧ fset s.quota G 0 g = 0 ∧ fset s.frz G false g = false
    by_cases c : g = G
    · subst c; rw [fset_eq, fset_eq, fset_eq, fset_eq, fset_eq]; exact ⟨rfl, rfl, rfl, rfl⟩
    · rw [fset_ne _ _ c, fset_ne _ _ c, fset_ne _ _ c, fset_ne _ _ c, fset_ne _ _ c]; exact h.gr g a (by omega)
theorem TF.addT {s : SF} {n : Int} {wt gp gw : Int → Int} (h : s.TF 4 n wt gp gw 0) (hn : n < 20) {g w : Int} (hg : 0 ≤ g ∧ g ≤ 3) (hE : s.addTE n g w = 0) :
    (s.addT n g w).TF 4 (n + 1) (fset wt n w) (fset gp n g) gw 0 ∧ (1 ≤ w ∧ w ≤ 1000) ∧ (s.Z → (s.addT n g w).Z) := by
  have hn0 := h.n0
  have e : s.addT n g w = s.newU (10 + n) g w true := by unfold SF.addT; rw [if_pos hE]
  have hw : 1 ≤ w ∧ w ≤ 1000 := by
    unfold addTE at hE
    split at hE <;> omega
  have hh := h.no (i := 10 + n) (by omega) (by omega) (by omega)
  have hgh : s.here g = true := by
    by_cases c : g = 0
    · subst c; exact h.ok.inv.h0
    · exact (h.here g (by omega) (by omega)).2 (by omega)
  rw [e]
  refine ⟨⟨h.ok.addD (by omega) (z := 10 + n) (p := g) ⟨by omega, by omega⟩ hh ⟨by omega, by omega, hgh⟩ hw.1 (dF_g ⟨by omega, by omega⟩ (by omega)), AB.add h.ok h.ab hh ⟨by omega, by omega, hgh⟩ hw.1, by omega, by omega, fun i a b => ?_, fun g2 a b => ?_, fun x a b => ?_, h.now⟩, hw, fun hz => hz.newU _ _ _ _⟩
  · show fset s.here (10 + n) true i = true ↔ _
    by_cases c : i = 10 + n
    · subst c; rw [fset_eq]; simp; omega
    · rw [fset_ne _ _ c, h.here i a b]; omega
  · show fset s.par (10 + n) g g2 = 0 ∧ fset s.wt (10 + n) w g2 = gw g2 ∧ fset s.quota (10 + n) 0 g2 = 0 ∧ fset s.frz (10 + n) false g2 = false
    have c : ¬ g2 = 10 + n := by omega
    rw [fset_ne _ _ c, fset_ne _ _ c, fset_ne _ _ c, fset_ne _ _ c]; exact h.gr g2 a b
  · show fset s.par (10 + n) g (10 + x) = fset gp n g x ∧ 0 ≤ fset gp n g x ∧ fset gp n g x ≤ 3 ∧ fset s.wt (10 + n) w (10 + x) = fset wt n w x
    by_cases c : x = n
    · subst c; rw [fset_eq, fset_eq, fset_eq, fset_eq]; exact ⟨rfl, hg.1, hg.2, rfl⟩
    · have c2 : ¬ 10 + x = 10 + n := by omega
      rw [fset_ne _ _ c, fset_ne _ _ c2, fset_ne _ _ c2, fset_ne _ _ c]; exact h.tk x a (by omega)
theorem noadd {s : SF} {n g w : Int} (hE : s.addTE n g w ≠ 0) : s.addT n g w = s := by unfold SF.addT; rw [if_neg hE]
theorem TF.tkE0 {s : SF} {G n : Int} {wt gp gw : Int → Int} {T : Int} (h : s.TF G n wt gp gw T) {x : Int} (h0 : 0 ≤ x) (h1 : x < n) : s.tkE x = 0 := by
  have := h.n0
  exact tkE_of h0 (by omega) ((h.here _ (by omega) (by omega)).2 (by omega))
theorem TF.keep {s t : SF} {G n : Int} {wt gp gw : Int → Int} {T T' : Int} (h : s.TF G n wt gp gw T) (ho : t.Ok dF 2 T') (ha : t.AB) (h1 : t.here = s.here) (h2 : t.par = s.par) (h3 : t.wt = s.wt) (h4 : t.quota = s.quota) (h5 : t.frz = s.frz) (h6 : t.now = T') : t.TF G n wt gp gw T' :=
  ⟨ho, ha, h.G0, h.n0, by rw [h1]; exact h.here, fun g a b => by rw [h2, h3, h4, h5]; exact h.gr g a b, fun x a b => by rw [h2, h3]; exact h.tk x a b, h6⟩
theorem TF.wake {s : SF} {G n : Int} {wt gp gw : Int → Int} {T : Int} (h : s.TF G n wt gp gw T) (x : Int) (on : Bool) : (s.wake dF x on).TF G n wt gp gw T := by
  obtain ⟨k1, k2, k3, k4, k5, k6, k7⟩ := wake_keeps (s := s) (d := dF) (x := x) (on := on)
  exact h.keep (h.ok.wake x on) (AB.wake h.ok.inv h.ab x on) k1 k2 k3 k5 k6 (by rw [wake_now]; exact h.now)
structure DF (s : SF) (n : Int) (ran gran : Int → Int) (T : Int) : Prop where
  aw : ∀ x, 0 ≤ x → x < n → s.awake (10 + x) = true
  v : ∀ x, 0 ≤ x → x < n → s.v (10 + x) = ran x * (1048576 / s.wt (10 + x))
  gv : ∀ g, 1 ≤ g → g ≤ 3 → s.v g = gran g * (1048576 / s.wt g)
  rn : ∀ x, 0 ≤ x → x < n → s.ran (10 + x) = ran x
  bd : ∀ x, 0 ≤ x → x < n → 0 ≤ ran x ∧ ran x ≤ T
  gbd : ∀ g, 0 ≤ g → g ≤ 3 → 0 ≤ gran g ∧ gran g ≤ T
theorem DF.start {s : SF} {n : Int} (hz : s.Z) (ha : ∀ x, 0 ≤ x → x < n → s.awake (10 + x) = true) : s.DF n (fun _ => 0) (fun _ => 0) 0 :=
  ⟨ha, fun x _ _ => by rw [(hz _).1]; simp, fun g _ _ => by rw [(hz _).1]; simp, fun x _ _ => (hz _).2.2, fun x _ _ => by show (0 : Int) ≤ 0 ∧ (0 : Int) ≤ 0; omega, fun x _ _ => by show (0 : Int) ≤ 0 ∧ (0 : Int) ≤ 0; omega⟩
theorem TF.q0 {s : SF} {n : Int} {wt gp gw : Int → Int} {T : Int} (h : s.TF 4 n wt gp gw T) : ∀ i, 1 ≤ i → i ≤ 9 → s.here i = true → s.quota i = 0 := fun i a b c => by
  have := (h.here i (by omega) (by omega)).1 c
  exact (h.gr i a (by omega)).2.2.1
theorem TF.th {s : SF} {n : Int} {wt gp gw : Int → Int} {T : Int} (h : s.TF 4 n wt gp gw T) {x : Int} (h0 : 0 ≤ x) (h1 : x < n) : 10 + x < 30 ∧ s.here (10 + x) = true := by
  have := h.n0
  exact ⟨by omega, (h.here _ (by omega) (by omega)).2 (by omega)⟩
/-- a group with a task awake stands in the root -/
theorem TF.was {s : SF} {n : Int} {wt gp gw : Int → Int} {T : Int} (h : s.TF 4 n wt gp gw T) {x : Int} (h0 : 0 ≤ x) (h1 : x < n) (ha : s.awake (10 + x) = true) : s.was (10 + x) = true ∧ (gp x ≠ 0 → s.was (gp x) = true) := by
  obtain ⟨t1, t2⟩ := h.th h0 h1
  have hw : s.was (10 + x) = true := by rw [h.ok.was_tk (by omega) t1 t2]; exact ha
  obtain ⟨p1, p2, p3, p4⟩ := h.tk x h0 h1
  refine ⟨hw, fun hg => ?_⟩
  obtain ⟨g1, g2, g3, g4⟩ := h.gr (gp x) (by omega) (by omega)
  have hgh : s.here (gp x) = true := (h.here (gp x) (by omega) (by omega)).2 (by omega)
  rw [h.ok.set (gp x) (by omega) (by omega) hgh]
  unfold ready
  rw [if_neg (by omega), (s.kid_true (gp x)).2 ⟨10 + x, by omega, t1, hw, p1⟩, g4, g3]
  rfl
theorem TF.pair {s : SF} {n : Int} {wt gp gw ran gran : Int → Int} {T : Int} (h : s.TF 4 n wt gp gw T) (hd : s.DF n ran gran T) {i j : Int} (i0 : 0 ≤ i) (i1 : i < n) (j0 : 0 ≤ j) (j1 : j < n) (hg : gp i = gp j) :
    ran i * (1048576 / wt i) - ran j * (1048576 / wt j) ≤ 1048576 / wt i := by
  obtain ⟨a1, a2, a3, a4⟩ := h.tk i i0 i1
  obtain ⟨b1, b2, b3, b4⟩ := h.tk j j0 j1
  obtain ⟨c1, c2⟩ := h.th i0 i1
  obtain ⟨d1, d2⟩ := h.th j0 j1
  have hi := (h.ab (10 + i) (by omega) c1 c2).2
  have hj := (h.ab (10 + j) (by omega) d1 d2).1 (h.was j0 j1 (hd.aw j j0 j1)).1
  rw [a1, hd.v i i0 i1, a4] at hi
  rw [b1, hd.v j j0 j1, b4, ← hg] at hj
  omega
theorem TF.gpair {s : SF} {n : Int} {wt gp gw ran gran : Int → Int} {T : Int} (h : s.TF 4 n wt gp gw T) (hd : s.DF n ran gran T) {i j : Int} (i0 : 0 ≤ i) (i1 : i < n) (j0 : 0 ≤ j) (j1 : j < n) (hi : gp i ≠ 0) (hj : gp j ≠ 0) :
    gran (gp i) * (1048576 / gw (gp i)) - gran (gp j) * (1048576 / gw (gp j)) ≤ 1048576 / gw (gp i) := by
  obtain ⟨a1, a2, a3, a4⟩ := h.tk i i0 i1
  obtain ⟨b1, b2, b3, b4⟩ := h.tk j j0 j1
  obtain ⟨c1, c2, c3, c4⟩ := h.gr (gp i) (by omega) (by omega)
  obtain ⟨d1, d2, d3, d4⟩ := h.gr (gp j) (by omega) (by omega)
  have hgi : s.here (gp i) = true := (h.here _ (by omega) (by omega)).2 (by omega)
  have hgj : s.here (gp j) = true := (h.here _ (by omega) (by omega)).2 (by omega)
  have h1 := (h.ab (gp i) (by omega) (by omega) hgi).2
  have h2 := (h.ab (gp j) (by omega) (by omega) hgj).1 ((h.was j0 j1 (hd.aw j j0 j1)).2 hj)
  rw [c1, hd.gv (gp i) (by omega) (by omega), c2] at h1
  rw [d1, hd.gv (gp j) (by omega) (by omega), d2] at h2
  omega
theorem TF.tick {s : SF} {n : Int} {wt gp gw ran gran : Int → Int} {T : Int} (h : s.TF 4 n wt gp gw T) (hd : s.DF n ran gran T) (hT : 0 ≤ T) :
    (s.tick dF).2.TF 4 n wt gp gw (T + 1) ∧ (n = 0 → (s.tick dF).1 = -1 ∧ (s.tick dF).2.DF n ran gran (T + 1)) ∧
    (0 < n → (0 ≤ (s.tick dF).1 ∧ (s.tick dF).1 < n) ∧ (s.tick dF).2.DF n (fset ran (s.tick dF).1 (ran (s.tick dF).1 + 1)) (fset gran (gp (s.tick dF).1) (gran (gp (s.tick dF).1) + 1)) (T + 1)) := by
  have h0 := h.ok.tick0 hT
  have e0 := tick0_flat (d := dF) h.q0
  have hO := h.ok.tick hT (by omega)
  have hA := AB.tick h.ok hT h.ab
  by_cases hw : who dF s < 0
  · obtain ⟨e, hno⟩ := tick_no h0 hw
    rw [e, e0] at hO hA ⊢
    rw [e0] at hno
    have hn : n = 0 := by
      apply Classical.byContradiction
      intro hn
      have hn0 := h.n0
      obtain ⟨w1, w2⟩ := h.was (x := 0) (by omega) (by omega) (hd.aw 0 (by omega) (by omega))
      obtain ⟨p1, p2, p3, p4⟩ := h.tk 0 (by omega) (by omega)
      by_cases c : gp 0 = 0
      · exact hno (10 + 0) w1 (by show s.par (10 + 0) = 0; rw [p1]; exact c)
      · exact hno (gp 0) (w2 c) (h.gr (gp 0) (by omega) (by omega)).1
    exact ⟨h.keep hO hA rfl rfl rfl rfl rfl (by show s.now + 1 = T + 1; rw [h.now]), fun _ => ⟨rfl, fun x a b => by omega, fun x a b => by omega, hd.gv, fun x a b => by omega, fun x a b => by omega, fun g a b => by have := hd.gbd g a b; omega⟩, fun q => by omega⟩
  · obtain ⟨⟨b1, b2, b3⟩, hu, e⟩ := tick_yes h0 hw
    rw [e0] at b3
    have hbn := (h.here _ (by omega) b2).1 b3
    have hk := chgF_keeps (dF (who dF s) + 1) (s.tick0 dF) (who dF s)
    have ha := fun m => chgF_at (dF (who dF s) + 1) (s.tick0 dF) (who dF s) m h0.inv (.inr ⟨by omega, b2, by rw [e0]; exact b3⟩)
    obtain ⟨p1, p2, p3, p4⟩ := h.tk (who dF s - 10) (by omega) (by omega)
    rw [show 10 + (who dF s - 10) = who dF s by omega] at p1 p4
    have hup : ∀ m, up (s.tick0 dF).par (dF (who dF s) + 1) (who dF s) m ↔ m = who dF s ∨ (0 < m ∧ m = gp (who dF s - 10)) := fun m => by
      have hpp : (s.tick0 dF).par (who dF s) = gp (who dF s - 10) := by rw [e0]; exact p1
      by_cases c : gp (who dF s - 10) = 0
      · rw [up_one (by omega) (by rw [hpp]; exact c)]; omega
      · rw [up_two (by omega) (by rw [hpp]; omega) (by rw [hpp, e0]; exact (h.gr _ (by omega) (by omega)).1) (by
          have := dF_2 b1
          omega), hpp]
        omega
    rw [e] at hO hA ⊢
    refine ⟨h.keep hO hA (by rw [hk.1, e0]) (by rw [hk.2.1, e0]) (by rw [hk.2.2.1, e0]) (by rw [hk.2.2.2.2.2.1, e0]) (by rw [hk.2.2.2.2.1, e0]) (by rw [hk.2.2.2.2.2.2.2, e0]; show s.now + 1 = T + 1; rw [h.now]), fun q => by omega, fun _ => ⟨by omega, fun x a b => ?_, fun x a b => ?_, fun g a b => ?_, fun x a b => ?_, fun x a b => ?_, fun g a b => ?_⟩⟩
    · rw [hk.2.2.2.1, e0]; exact hd.aw x a b
    · show _ = fset ran (who dF s - 10) (ran (who dF s - 10) + 1) x * _
      rw [hk.2.2.1, e0]
      have hv := hd.v x a b
      by_cases c : x = who dF s - 10
      · subst c
        rw [show 10 + (who dF s - 10) = who dF s by omega] at hv ⊢
        have h3 := ((ha (who dF s)).1 ((hup _).2 (.inl rfl))).1
        rw [e0] at h3
        rw [h3, fset_eq, Int.add_mul, Int.one_mul]
        show s.v (who dF s) + 1048576 / s.wt (who dF s) = _
        rw [hv]
      · have h3 := ((ha (10 + x)).2 (fun q => by rcases (hup _).1 q with q | q <;> omega)).1
        rw [e0] at h3
        rw [h3, fset_ne _ _ c]
        exact hv
    · show _ = fset gran (gp (who dF s - 10)) (gran (gp (who dF s - 10)) + 1) g * _
      rw [hk.2.2.1, e0]
      have hv := hd.gv g a b
      by_cases c : g = gp (who dF s - 10)
      · have h3 := ((ha g).1 ((hup _).2 (.inr ⟨by omega, c⟩))).1
        rw [e0] at h3
        rw [h3, ← c, fset_eq, Int.add_mul, Int.one_mul]
        show s.v g + 1048576 / s.wt g = _
        rw [hv]
      · have h3 := ((ha g).2 (fun q => by rcases (hup _).1 q with q | q <;> omega)).1
        rw [e0] at h3
        rw [h3, fset_ne _ _ c]
        exact hv
    · show _ = fset ran (who dF s - 10) (ran (who dF s - 10) + 1) x
      have hv := hd.rn x a b
      by_cases c : x = who dF s - 10
      · subst c
        rw [show 10 + (who dF s - 10) = who dF s by omega] at hv ⊢
        have h3 := ((ha (who dF s)).1 ((hup _).2 (.inl rfl))).2.1
        rw [e0] at h3
        rw [fset_eq, e0, h3]
        show s.ran (who dF s) + 1 = _
        rw [hv]
      · have h3 := ((ha (10 + x)).2 (fun q => by rcases (hup _).1 q with q | q <;> omega)).2.1
        rw [e0] at h3
        rw [fset_ne _ _ c, e0, h3]
        exact hv
    · show 0 ≤ fset ran (who dF s - 10) (ran (who dF s - 10) + 1) x ∧ fset ran (who dF s - 10) (ran (who dF s - 10) + 1) x ≤ T + 1
      have h1 := hd.bd x a b
      have h2 := hd.bd (who dF s - 10) (by omega) (by omega)
      unfold fset; split <;> omega
    · show 0 ≤ fset gran (gp (who dF s - 10)) (gran (gp (who dF s - 10)) + 1) g ∧ fset gran (gp (who dF s - 10)) (gran (gp (who dF s - 10)) + 1) g ≤ T + 1
      have h1 := hd.gbd g a b
      have h2 := hd.gbd (gp (who dF s - 10)) (by omega) (by omega)
      unfold fset; split <;> omega
end SF
def F1 : SF := SF.init.addT 0 0 1
def F2 : SF := F1.wake dW 0 true
theorem fA : SF.init.addTE 0 0 1 = 0 := by decide +kernel
theorem fB : F1.tkE 0 = 0 := by decide +kernel
theorem fC : (F2.tick dW).1 = 0 := by decide +kernel
theorem F1_tw : F1.TW 1 0 := (SF.TW.init.add (by omega) (by omega) fA).1
theorem F2_tw : F2.TW 1 0 := F1_tw.wake 0 true

end Go.X
