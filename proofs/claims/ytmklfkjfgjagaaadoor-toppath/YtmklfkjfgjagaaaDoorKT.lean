import Derived.Test.YtmklfkjfgjagaaaDoorKM
import Derived.Test.YtmklfkjfgjagaaaDoorNLW
import Derived.Test.YtmklfkjfgjagaaaDoorNP2
import Derived.Test.YtmklfkjfgjagaaaDoorNTM
namespace Go.X
open Go
/-! ### who is held -/
namespace FF
def HF (F : FF) (f : Int → Int) : Prop := ∀ n, 0 ≤ n → n < 40 → F.held n = f n
def one_ (z n : Int) : Int := if n = z then 1 else 0
def mcn : List MT → Int → Int
  | [], _ => 0
  | m :: l, n => one_ m.at_.node n + one_ m.to.node n + mcn l n
def inR (z : Int) : Prop := 0 ≤ z ∧ z < 40
theorem one_nn (z n : Int) : 0 ≤ one_ z n := by unfold one_; split <;> omega
theorem one_self (z : Int) : one_ z z = 1 := by unfold one_; rw [if_pos rfl]
theorem one_ne {z n : Int} (h : ¬ n = z) : one_ z n = 0 := by unfold one_; rw [if_neg h]
theorem mcn_nn (l : List MT) (n : Int) : 0 ≤ mcn l n := by
  induction l with
  | nil => exact Int.le_refl _
  | cons m l ih => have := one_nn m.at_.node n; have := one_nn m.to.node n; unfold mcn; omega
theorem mcn_app (l : List MT) (m : MT) (n : Int) : mcn (l ++ [m]) n = mcn l n + one_ m.at_.node n + one_ m.to.node n := by
  induction l with
  | nil => simp only [List.nil_append, mcn]; omega
  | cons a l ih => simp only [List.cons_append, mcn]; rw [ih]; omega
theorem mcn_erase {l : List MT} {i : Nat} (h : i < l.length) (n : Int) : mcn l n = mcn (l.eraseIdx i) n + one_ (mat l i).at_.node n + one_ (mat l i).to.node n := by
  induction l generalizing i with
  | nil => simp at h
  | cons a l ih =>
    cases i with
    | zero => simp only [List.eraseIdx_zero, List.tail_cons, mcn]; show _ = mcn l n + one_ a.at_.node n + one_ a.to.node n; omega
    | succ i =>
      have := ih (i := i) (by simpa using h)
      simp only [List.eraseIdx_cons_succ, mcn]
      have e : mat (a :: l) ((i + 1 : Nat) : Int) = mat l (i : Int) := by unfold mat; simp
      rw [e]; omega
theorem isE_range {F : FF} {z : Int} (h : F.isE z 0 = 0) : inR z ∧ F.kind z ≠ 0 := by
  obtain ⟨a, b, c⟩ := isE_0 h
  exact ⟨⟨a, b⟩, c⟩
theorem range_isE {F : FF} {z : Int} (h : inR z) (hk : F.kind z ≠ 0) : F.isE z 0 = 0 := by
  unfold isE; rw [if_neg (by have := h.1; have := h.2; omega), if_neg hk, if_neg (by omega)]
theorem HF.hold {F : FF} {f : Int → Int} (h : F.HF f) {z : Int} (hz : F.isE z 0 = 0) : (F.hold z).HF (fun n => f n + one_ z n) := fun n a b => by
  unfold FF.hold
  rw [if_pos hz]
  show fset F.held z (F.held z + 1) n = f n + one_ z n
  by_cases e : n = z
  · subst e; rw [fset_eq, h n a b, one_self]
  · rw [fset_ne _ _ e, h n a b, one_ne e]; omega
theorem gone_held (F : FF) (z n : Int) : (goneF F z).held n = F.held n := by
  unfold goneF; split
  · rename_i c
    show fset F.held z 0 n = _
    by_cases e : n = z
    · subst e; rw [fset_eq, c.2]
    · rw [fset_ne _ _ e]
  · rfl
theorem HF.letF {F : FF} {f : Int → Int} {d : Int → Nat} (hI : F.Inv d) (h : F.HF f) {z : Int} (hr : inR z) (hf : 1 ≤ f z) : (F.letF z).HF (fun n => f n - one_ z n) := by
  have hz := h z hr.1 hr.2
  have hk : F.kind z ≠ 0 := fun q => by have := (hI.zero z hr.1 hr.2 q).2; omega
  have he : F.letE z = 0 := by unfold letE; rw [if_neg (by rw [range_isE hr hk]; simp), if_neg (by omega)]
  intro n a b
  unfold FF.letF
  rw [if_pos he, gone_held]
  show fset F.held z (F.held z - 1) n = f n - one_ z n
  by_cases e : n = z
  · subst e; rw [fset_eq, h n a b, one_self]
  · rw [fset_ne _ _ e, h n a b, one_ne e]; omega
theorem HF.ext {F : FF} {f g : Int → Int} (h : F.HF f) (e : ∀ n, f n = g n) : F.HF g := fun n a b => (h n a b).trans (e n)
theorem held_make {F : FF} {d : Int → Nat} (hI : F.Inv d) (n : Int) (x : ByteArray) (k z : Int) (hz : inR z) : (F.make n x k).held z = F.held z := by
  unfold FF.make
  split
  · rename_i c
    have hf : ¬ F.free < 0 := by
      unfold makeE at c
      split at c
      · omega
      · split at c
        · omega
        · split at c
          · omega
          · assumption
    obtain ⟨f1, f2, f3⟩ := free_ok hf
    have h0 := (hI.zero _ f1 f2 f3).2
    show fset F.held F.free 0 z = _
    by_cases e : z = F.free
    · rw [e, fset_eq, h0]
    · rw [fset_ne _ _ e]
  · rfl
theorem held_remove (F : FF) (n : Int) (x : ByteArray) (z : Int) : (F.remove n x).held z = F.held z := by
  unfold FF.remove
  split
  · rw [gone_held]; rfl
  · rfl
/-- all mounts let go -/
theorem letM_all : ∀ (l : List MT) {F : FF} {f : Int → Int} {d : Int → Nat} {B : Int}, F.Ok d B → F.HF f → (∀ m ∈ l, inR m.at_.node ∧ inR m.to.node) → (∀ n, mcn l n ≤ f n) → (letM F l).Ok d (B + 2 * l.length) ∧ (letM F l).HF (fun n => f n - mcn l n)
  | [], F, f, d, B, hO, h, _, _ => ⟨by simpa [letM] using hO, h.ext fun n => by simp [mcn]⟩
  | m :: l, F, f, d, B, hO, h, hr, hf => by
    obtain ⟨r1, r2⟩ := hr m (List.mem_cons_self ..)
    have f1 := hf m.at_.node
    have f2 := hf m.to.node
    unfold mcn at f1 f2
    rw [one_self] at f1 f2
    have n1 := mcn_nn l m.at_.node
    have n2 := mcn_nn l m.to.node
    have o1 := one_nn m.to.node m.at_.node
    have o2 := one_nn m.at_.node m.to.node
    have g1 := h.letF hO.inv r1 (by omega)
    have k1 := hO.letF m.at_.node
    have g2 := g1.letF k1.inv r2 (by omega)
    have k2 := k1.letF m.to.node
    have ih := letM_all l k2 g2 (fun a ha => hr a (List.mem_cons_of_mem _ ha)) (fun n => by have := hf n; unfold mcn at this; omega)
    refine ⟨?_, ih.2.ext fun n => ?_⟩
    rotate_left
    · have e : mcn (m :: l) n = one_ m.at_.node n + one_ m.to.node n + mcn l n := rfl
      rw [e]; omega
    have := ih.1
    rw [List.length_cons, show B + 2 * ((l.length + 1 : Nat) : Int) = B + 1 + 1 + 2 * (l.length : Int) from by omega]
    exact this
/-- a table's own: its root, its mounts -/
def tcn (r : WH) (l : List MT) (n : Int) : Int := one_ r.node n + mcn l n
def rng (r : WH) (l : List MT) : Prop := inR r.node ∧ ∀ m ∈ l, inR m.at_.node ∧ inR m.to.node
theorem HF.tclose {F : FF} {g : Int → Int} {d : Int → Nat} {B : Int} {r : WH} {l : List MT} (hO : F.Ok d B) (h : F.HF (fun n => g n + tcn r l n)) (hr : rng r l) (hg : ∀ n, 0 ≤ g n) : (tcloseF F l r).HF g := by
  obtain ⟨k1, k2⟩ := letM_all l hO h hr.2 (fun n => by have := hg n; have := one_nn r.node n; unfold tcn; omega)
  have k3 := k2.letF k1.inv hr.1 (by have := hg r.node; have := one_self r.node; unfold tcn; omega)
  exact k3.ext fun n => by unfold tcn; omega
theorem HF.bind {F : FF} {g : Int → Int} {r : WH} {l : List MT} {a z : WH} (h : F.HF (fun n => g n + tcn r l n)) (hr : rng r l) : (bindF F l a z).HF (fun n => g n + tcn r (bindL F l a z) n) ∧ rng r (bindL F l a z) := by
  unfold bindF bindL
  split
  · rename_i c
    have hd : dirE F a = 0 ∧ dirE F z = 0 := by
      unfold bindE at c
      split at c
      · omega
      · split at c
        · omega
        · omega
    have dz : ∀ w, dirE F w = 0 → F.isE w.node 0 = 0 := fun w hw => by
      unfold dirE at hw
      split at hw
      · omega
      · omega
    have ha := dz a hd.1
    have hz := dz z hd.2
    have hz' : (F.hold a.node).isE z.node 0 = 0 := by
      unfold FF.hold; rw [if_pos ha]; exact hz
    refine ⟨((h.hold ha).hold hz').ext fun n => ?_, hr.1, fun m hm => ?_⟩
    · have e : mcn (l ++ [⟨a, z⟩]) n = mcn l n + one_ a.node n + one_ z.node n := mcn_app l ⟨a, z⟩ n
      unfold tcn; rw [e]; omega
    · rcases List.mem_append.1 hm with hm | hm
      · exact hr.2 m hm
      · rw [List.mem_singleton.1 hm]; exact ⟨(isE_range ha).1, (isE_range hz).1⟩
  · exact ⟨h, hr⟩
theorem HF.unbind {F : FF} {g : Int → Int} {d : Int → Nat} {B : Int} {r : WH} {l : List MT} {w : WH} (hO : F.Ok d B) (h : F.HF (fun n => g n + tcn r l n)) (hr : rng r l) (hg : ∀ n, 0 ≤ g n) : (unbindF F l w).HF (fun n => g n + tcn r (unbindL l w) n) ∧ rng r (unbindL l w) := by
  unfold unbindF unbindL
  split
  · rename_i c
    have hm := mat_get (l := l) (z := ((idxAt l w : Nat) : Int)) ⟨by omega, by omega⟩
    have hin : mat l ((idxAt l w : Nat) : Int) ∈ l := by
      rw [Int.toNat_natCast] at hm
      exact List.mem_of_getElem? hm
    obtain ⟨r1, r2⟩ := hr.2 _ hin
    have e := mcn_erase c
    have e1 := e (mat l ((idxAt l w : Nat) : Int)).at_.node
    have e2 := e (mat l ((idxAt l w : Nat) : Int)).to.node
    rw [one_self] at e1 e2
    have n1 := mcn_nn (l.eraseIdx (idxAt l w)) (mat l ((idxAt l w : Nat) : Int)).at_.node
    have n2 := mcn_nn (l.eraseIdx (idxAt l w)) (mat l ((idxAt l w : Nat) : Int)).to.node
    have o1 := one_nn (mat l ((idxAt l w : Nat) : Int)).to.node (mat l ((idxAt l w : Nat) : Int)).at_.node
    have o2 := one_nn (mat l ((idxAt l w : Nat) : Int)).at_.node (mat l ((idxAt l w : Nat) : Int)).to.node
    have g1 := hg (mat l ((idxAt l w : Nat) : Int)).at_.node
    have g2 := hg (mat l ((idxAt l w : Nat) : Int)).to.node
    have q1 := one_nn r.node (mat l ((idxAt l w : Nat) : Int)).at_.node
    have q2 := one_nn r.node (mat l ((idxAt l w : Nat) : Int)).to.node
    have k1 := h.letF hO.inv r1 (by unfold tcn; omega)
    have k2 := k1.letF (hO.letF _).inv r2 (by unfold tcn; omega)
    refine ⟨k2.ext fun n => ?_, hr.1, fun m hm => hr.2 m (List.mem_of_mem_eraseIdx hm)⟩
    have := e n
    unfold tcn; omega
  · rename_i c
    rw [show l.eraseIdx (idxAt l w) = l from List.eraseIdx_of_length_le (by omega)]
    exact ⟨h, hr⟩
theorem root_range {F : FF} {d : Int → Nat} (hI : F.Inv d) {t : Int} (h : F.rootE t = 0) : inR (F.rootV t) ∧ F.isE (F.rootV t) 0 = 0 := by
  have ht : 0 ≤ t ∧ t < F.roots.length := by
    unfold rootE at h
    split at h
    · omega
    · split at h
      · omega
      · omega
  have hv : F.rootV t = at0 F.roots t := by unfold rootV; rw [if_pos h]
  have hm : at0 F.roots t ∈ F.roots := by
    unfold at0
    rw [List.getD_eq_getElem?_getD, List.getElem?_eq_getElem (by omega)]
    exact List.getElem_mem _
  obtain ⟨a, b, c, _⟩ := hI.roots.2 _ hm
  rw [hv]
  exact ⟨⟨a, b⟩, range_isE ⟨a, b⟩ (by omega)⟩
theorem HF.pivot {F : FF} {g : Int → Int} {d : Int → Nat} {B : Int} {r : WH} {l : List MT} {t : Int} (hO : F.Ok d B) (h : F.HF (fun n => g n + tcn r l n)) (hr : rng r l) (hg : ∀ n, 0 ≤ g n) (he : F.rootE t = 0) :
    (tcloseF (F.hold (F.rootV t)) l r).HF (fun n => g n + tcn ⟨t, F.rootV t⟩ [] n) ∧ rng ⟨t, F.rootV t⟩ [] := by
  obtain ⟨r1, r2⟩ := root_range hO.inv he
  have k := (h.hold r2).ext (g := fun n => (g n + one_ (F.rootV t) n) + tcn r l n) (fun n => by omega)
  exact ⟨(HF.tclose (hO.hold _) k hr (fun n => by have := hg n; have := one_nn (F.rootV t) n; omega)).ext fun n => by simp only [tcn, mcn]; omega, r1, fun m hm => by cases hm⟩
end FF
theorem bindL_le {F : FF} {l : List MT} {a z : WH} (h : l.length ≤ 6) : (bindL F l a z).length ≤ 6 := by
  unfold bindL; split
  · rename_i c
    have : ¬ l.length = 6 := by
      intro q
      unfold bindE at c
      (repeat' split at c) <;> omega
    rw [List.length_append, List.length_singleton]; omega
  · exact h
theorem unbindL_le {l : List MT} {w : WH} (h : l.length ≤ 6) : (unbindL l w).length ≤ 6 := Nat.le_trans (List.length_eraseIdx_le ..) h
theorem holdM_roots (F : FF) : ∀ l : List MT, (holdM F l).roots = F.roots
  | [] => rfl
  | m :: l => by unfold holdM; rw [holdM_roots, FF.hold_roots, FF.hold_roots]
theorem letM_roots : ∀ (l : List MT) (F : FF), (letM F l).roots = F.roots
  | [], F => rfl
  | m :: l, F => by unfold letM; rw [letM_roots l, FF.letF_roots, FF.letF_roots]
theorem copyF_roots (F : FF) (l : List MT) (r : WH) : (copyF F l r).roots = F.roots := by unfold copyF; rw [holdM_roots, FF.hold_roots]
theorem tcloseF_roots (F : FF) (l : List MT) (r : WH) : (tcloseF F l r).roots = F.roots := by unfold tcloseF; rw [FF.letF_roots, letM_roots]
theorem bindF_roots (F : FF) (l : List MT) (a z : WH) : (bindF F l a z).roots = F.roots := by
  unfold bindF; split
  · rw [FF.hold_roots, FF.hold_roots]
  · rfl
theorem unbindF_roots (F : FF) (l : List MT) (w : WH) : (unbindF F l w).roots = F.roots := by
  unfold unbindF; split
  · rw [FF.letF_roots, FF.letF_roots]
  · rfl
/-- a table, as the code has it -/
structure TV where
  r : WH
  l : List MT
  p : Option Addr
  cap : Nat
  k : Nat
  c : Nat
  C : Nat → Value
structure TV.ok (x : TV) : Prop where
  v : RV.ok ⟨x.p, x.cap, x.k, x.l.length, x.c, x.C⟩
  m : MC x.C x.l
  le : x.l.length ≤ 6
namespace MTop
def F2 : FF := FF.void.plant.plant
def F3 : FF := F2.hold 0
theorem p1 : FF.void.plantE = 0 := by decide +kernel
theorem p2 : FF.void.plant.plantE = 0 := by decide +kernel
theorem r0 : F2.rootE 0 = 0 ∧ F2.rootV 0 = 0 := by decide +kernel
theorem is0 : F2.isE 0 0 = 0 := by decide +kernel
theorem ok : ∃ d1 d, FF.void.plant.Ok d1 1 ∧ F2.Ok d 2 := by
  obtain ⟨d1, o1⟩ := FF.inv_void.plant
  obtain ⟨d2, o2⟩ := o1.plant
  exact ⟨d1, d2, o1, o2⟩
theorem h2 : F2.HF (fun _ => 0) := fun n a b => by
  have : ∀ k : Fin 40, F2.held ((k.val : Nat) : Int) = 0 := by decide +kernel
  have h := this ⟨n.toNat, by omega⟩
  rwa [show (((⟨n.toNat, by omega⟩ : Fin 40).val : Nat) : Int) = n from by show ((n.toNat : Nat) : Int) = n; omega] at h
/-- what is so between the acts -/
structure St (F : FF) (B : Int) (x : TV) : Prop where
  ok : ∃ d, F.Ok d B
  held : F.HF (fun n => FF.one_ 0 n + FF.tcn x.r x.l n)
  rng : FF.rng x.r x.l
theorem St.ge {F : FF} {B B' : Int} {x : TV} (h : St F B x) (hB : B ≤ B') : St F B' x := ⟨by obtain ⟨d, o⟩ := h.ok; exact ⟨d, o.inv, fun n a b => Int.le_trans (o.held n a b) hB, Int.le_trans o.nn hB⟩, h.held, h.rng⟩
end MTop
namespace MTop
theorem st0 {d : Int → Nat} {F : FF} (hF : F = FF.hold F2 0) {G : FF} (hG : G = copyF F [] ⟨0, 0⟩) (hO : G.Ok d 16) (p : Option Addr) (cap k c : Nat) (C : Nat → Value) : St G 16 ⟨⟨0, 0⟩, [], p, cap, k, c, C⟩ := by
  refine ⟨⟨d, hO⟩, ?_, show FF.inR 0 from ⟨by omega, by omega⟩, fun m hm => by cases hm⟩
  have h3 := h2.hold is0
  have i3 : (FF.hold F2 0).isE 0 0 = 0 := by decide +kernel
  have h4 := h3.hold i3
  rw [hG, hF]
  exact h4.ext fun n => by simp only [FF.tcn, FF.mcn]; omega
theorem St.make {F G : FF} {B : Int} {x : TV} (h : St F B x) {n : Int} {y : ByteArray} {k : Int} (hG : G = F.make n y k) : St G (B + 14) x := by
  obtain ⟨⟨d, hO⟩, hH, hR⟩ := h
  obtain ⟨d2, o2⟩ := hO.make n y k
  subst hG
  exact ⟨⟨d2, o2.inv, fun n a b => Int.le_trans (o2.held n a b) (by omega), by have := o2.nn; omega⟩, fun z a b => (FF.held_make hO.inv n y k z ⟨a, b⟩).trans (hH z a b), hR⟩
theorem St.remove {F G : FF} {B : Int} {x : TV} (h : St F B x) {n : Int} {y : ByteArray} (hG : G = F.remove n y) : St G (B + 14) x := by
  obtain ⟨⟨d, hO⟩, hH, hR⟩ := h
  have o2 := hO.remove n y
  subst hG
  exact ⟨⟨d, o2.inv, fun n a b => Int.le_trans (o2.held n a b) (by omega), by have := o2.nn; omega⟩, fun z a b => (FF.held_remove F n y z).trans (hH z a b), hR⟩
theorem St.bind {F G : FF} {B : Int} {x : TV} (h : St F B x) {a z : WH} (hG : G = bindF F x.l a z) (p : Option Addr) (cap k c : Nat) (C : Nat → Value) : St G (B + 14) ⟨x.r, bindL F x.l a z, p, cap, k, c, C⟩ := by
  obtain ⟨⟨d, hO⟩, hH, hR⟩ := h
  have o2 := hold_ok2 hO x.l a z
  subst hG
  obtain ⟨q1, q2⟩ := hH.bind (a := a) (z := z) hR
  exact ⟨⟨d, o2.inv, fun n a b => Int.le_trans (o2.held n a b) (by omega), by have := o2.nn; omega⟩, q1, q2⟩
theorem St.unbind {F G : FF} {B : Int} {x : TV} (h : St F B x) {w : WH} (hG : G = unbindF F x.l w) (p : Option Addr) (cap k c : Nat) (C : Nat → Value) : St G (B + 14) ⟨x.r, unbindL x.l w, p, cap, k, c, C⟩ := by
  obtain ⟨⟨d, hO⟩, hH, hR⟩ := h
  have o2 := let_ok2 hO x.l w
  subst hG
  obtain ⟨q1, q2⟩ := FF.HF.unbind (w := w) hO hH hR (FF.one_nn 0)
  exact ⟨⟨d, o2.inv, fun n a b => Int.le_trans (o2.held n a b) (by omega), by have := o2.nn; omega⟩, q1, q2⟩
theorem St.pivot {F G : FF} {B : Int} {x : TV} (h : St F B x) {t : Int} (he : F.rootE t = 0) (hG : G = tcloseF (F.hold (F.rootV t)) x.l x.r) {d : Int → Nat} (hO2 : G.Ok d (B + 14)) : St G (B + 14) ⟨⟨t, F.rootV t⟩, [], none, 0, 0, 0, C0⟩ := by
  obtain ⟨⟨d', hO⟩, hH, hR⟩ := h
  obtain ⟨q1, q2⟩ := FF.HF.pivot hO hH hR (FF.one_nn 0) he
  subst hG
  exact ⟨⟨d, hO2⟩, q1, q2⟩
theorem nil_ok : TV.ok ⟨⟨0, 0⟩, [], none, 0, 0, 0, C0⟩ := ⟨C0_ok, MC.nil _, by decide⟩
theorem nil_ok' (t n : Int) : TV.ok ⟨⟨t, n⟩, [], none, 0, 0, 0, C0⟩ := ⟨C0_ok, MC.nil _, Nat.zero_le _⟩
theorem fin1 {F G : FF} {B : Int} {x : TV} (h : St F B x) (hG : G = tcloseF F x.l x.r) : G.HF (FF.one_ 0) := by
  obtain ⟨⟨d, hO⟩, hH, hR⟩ := h
  subst hG
  exact FF.HF.tclose hO hH hR (FF.one_nn 0)
theorem fin2 {F G : FF} {d : Int → Nat} {B : Int} (hO : F.Ok d B) (h : F.HF (FF.one_ 0)) (hG : G = tcloseF F [] ⟨0, 0⟩) : G.HF (fun _ => 0) := by
  subst hG
  exact FF.HF.tclose (g := fun _ => 0) hO (h.ext fun n => by simp only [FF.tcn, FF.mcn]; omega) ⟨show FF.inR 0 from ⟨by omega, by omega⟩, fun m hm => by cases hm⟩ (fun _ => Int.le_refl _)
end MTop

end Go.X
