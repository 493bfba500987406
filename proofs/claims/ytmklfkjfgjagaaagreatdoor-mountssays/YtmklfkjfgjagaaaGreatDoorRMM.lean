import Derived.Test.YtmklfkjfgjagaaaGreatDoorKSP
import Derived.Test.YtmklfkjfgjagaaaGreatDoorNTM
import Derived.Test.YtmklfkjfgjagaaaGreatDoorNRM
namespace Go.X
open Go
/-! ### who is held -/
namespace FF
def HF (F : FF) (f : Int → Int) : Prop := ∀ n, 0 ≤ n → n < 40 → F.held n = f n
def one_ (z n : Int) : Int := if n = z then 1 else 0
def mcn : List MT → Int → Int
  | [], _ => 0
  | m :: l, n => one_ m.at_.node n + one_ m.to.node n + mcn l n
def inR (z : Int) : Prop := 0 ≤ z ∧ z < 40
theorem one_nn (z n : Int) : 0 ≤ one_ z n := by unfold one_; split <;> omega
theorem one_self (z : Int) : one_ z z = 1 := by unfold one_; rw [if_pos rfl]
theorem one_ne {z n : Int} (h : ¬ n = z) : one_ z n = 0 := by unfold one_; rw [if_neg h]
theorem mcn_nn (l : List MT) (n : Int) : 0 ≤ mcn l n := by
  induction l with
  | nil => exact Int.le_refl _
  | cons m l ih => have := one_nn m.at_.node n; have := one_nn m.to.node n; unfold mcn; omega
theorem mcn_app (l : List MT) (m : MT) (n : Int) : mcn (l ++ [m]) n = mcn l n + one_ m.at_.node n + one_ m.to.node n := by
  induction l with
  | nil => simp only [List.nil_append, mcn]; omega
  | cons a l ih => simp only [List.cons_append, mcn]; rw [ih]; omega
theorem mcn_erase {l : List MT} {i : Nat} (h : i < l.length) (n : Int) : mcn l n = mcn (l.eraseIdx i) n + one_ (mat l i).at_.node n + one_ (mat l i).to.node n := by
  induction l generalizing i with
  | nil => simp at h
  | cons a l ih =>
    cases i with
    | zero => simp only [List.eraseIdx_zero, List.tail_cons, mcn]; show _ = mcn l n + one_ a.at_.node n + one_ a.to.node n; omega
    | succ i =>
      have := ih (i := i) (by simpa using h)
      simp only [List.eraseIdx_cons_succ, mcn]
      have e : mat (a :: l) ((i + 1 : Nat) : Int) = mat l (i : Int) := by unfold mat; simp
      rw [e]; omega
theorem isE_range {F : FF} {z : Int} (h : F.isE z 0 = 0) : inR z ∧ F.kind z ≠ 0 := by
  obtain ⟨a, b, c⟩ := isE_0 h
  exact ⟨⟨a, b⟩, c⟩
theorem range_isE {F : FF} {z : Int} (h : inR z) (hk : F.kind z ≠ 0) : F.isE z 0 = 0 := by
  unfold isE; rw [if_neg (by have := h.1; have := h.2; omega), if_neg hk, if_neg (by omega)]
theorem HF.hold {F : FF} {f : Int → Int} (h : F.HF f) {z : Int} (hz : F.isE z 0 = 0) : (F.hold z).HF (fun n => f n + one_ z n) := fun n a b => by
  unfold FF.hold
  rw [if_pos hz]
  show fset F.held z (F.held z + 1) n = f n + one_ z n
  by_cases e : n = z
  · subst e; rw [fset_eq, h n a b, one_self]
  · rw [fset_ne _ _ e, h n a b, one_ne e]; omega
theorem gone_held (F : FF) (z n : Int) : (goneF F z).held n = F.held n := by
  unfold goneF; split
  · rename_i c
    show fset F.held z 0 n = _
    by_cases e : n = z
    · subst e; rw [fset_eq, c.2]
    · rw [fset_ne _ _ e]
  · rfl
theorem HF.letF {F : FF} {f : Int → Int} {d : Int → Nat} (hI : F.Inv d) (h : F.HF f) {z : Int} (hr : inR z) (hf : 1 ≤ f z) : (F.letF z).HF (fun n => f n - one_ z n) := by
  have hz := h z hr.1 hr.2
  have hk : F.kind z ≠ 0 := fun q => by have := (hI.zero z hr.1 hr.2 q).2; omega
  have he : F.letE z = 0 := by unfold letE; rw [if_neg (by rw [range_isE hr hk]; simp), if_neg (by omega)]
  intro n a b
  unfold FF.letF
  rw [if_pos he, gone_held]
  show fset F.held z (F.held z - 1) n = f n - one_ z n
  by_cases e : n = z
  · subst e; rw [fset_eq, h n a b, one_self]
  · rw [fset_ne _ _ e, h n a b, one_ne e]; omega
theorem HF.ext {F : FF} {f g : Int → Int} (h : F.HF f) (e : ∀ n, f n = g n) : F.HF g := fun n a b => (h n a b).trans (e n)
theorem held_make {F : FF} {d : Int → Nat} (hI : F.Inv d) (n : Int) (x : ByteArray) (k z : Int) (hz : inR z) : (F.make n x k).held z = F.held z := by
  unfold FF.make
  split
  · rename_i c
    have hf : ¬ F.free < 0 := by
      unfold makeE at c
      split at c
      · omega
      · split at c
        · omega
        · split at c
          · omega
          · assumption
    obtain ⟨f1, f2, f3⟩ := free_ok hf
    have h0 := (hI.zero _ f1 f2 f3).2
    show fset F.held F.free 0 z = _
    by_cases e : z = F.free
    · rw [e, fset_eq, h0]
    · rw [fset_ne _ _ e]
  · rfl
theorem held_remove (F : FF) (n : Int) (x : ByteArray) (z : Int) : (F.remove n x).held z = F.held z := by
  unfold FF.remove
  split
  · rw [gone_held]; rfl
  · rfl
/-- all mounts let go -/
theorem letM_all : ∀ (l : List MT) {F : FF} {f : Int → Int} {d : Int → Nat} {B : Int}, F.Ok d B → F.HF f → (∀ m ∈ l, inR m.at_.node ∧ inR m.to.node) → (∀ n, mcn l n ≤ f n) → (letM F l).Ok d (B + 2 * l.length) ∧ (letM F l).HF (fun n => f n - mcn l n)
  | [], F, f, d, B, hO, h, _, _ => ⟨by simpa [letM] using hO, h.ext fun n => by simp [mcn]⟩
  | m :: l, F, f, d, B, hO, h, hr, hf => by
    obtain ⟨r1, r2⟩ := hr m (List.mem_cons_self ..)
    have f1 := hf m.at_.node
    have f2 := hf m.to.node
    unfold mcn at f1 f2
    rw [one_self] at f1 f2
    have n1 := mcn_nn l m.at_.node
    have n2 := mcn_nn l m.to.node
    have o1 := one_nn m.to.node m.at_.node
    have o2 := one_nn m.at_.node m.to.node
    have g1 := h.letF hO.inv r1 (by omega)
    have k1 := hO.letF m.at_.node
    have g2 := g1.letF k1.inv r2 (by omega)
    have k2 := k1.letF m.to.node
    have ih := letM_all l k2 g2 (fun a ha => hr a (List.mem_cons_of_mem _ ha)) (fun n => by have := hf n; unfold mcn at this; omega)
    refine ⟨?_, ih.2.ext fun n => ?_⟩
    rotate_left
    · have e : mcn (m :: l) n = one_ m.at_.node n + one_ m.to.node n + mcn l n := rfl
      rw [e]; omega
    have := ih.1
    rw [List.length_cons, show B + 2 * ((l.length + 1 : Nat) : Int) = B + 1 + 1 + 2 * (l.length : Int) from by omega]
    exact this
/-- a table's own: its root, its mounts -/
def tcn (r : WH) (l : List MT) (n : Int) : Int := one_ r.node n + mcn l n
def rng (r : WH) (l : List MT) : Prop := inR r.node ∧ ∀ m ∈ l, inR m.at_.node ∧ inR m.to.node
theorem HF.tclose {F : FF} {g : Int → Int} {d : Int → Nat} {B : Int} {r : WH} {l : List MT} (hO : F.Ok d B) (h : F.HF (fun n => g n + tcn r l n)) (hr : rng r l) (hg : ∀ n, 0 ≤ g n) : (tcloseF F l r).HF g := by
  obtain ⟨k1, k2⟩ := letM_all l hO h hr.2 (fun n => by have := hg n; have := one_nn r.node n; unfold tcn; omega)
  have k3 := k2.letF k1.inv hr.1 (by have := hg r.node; have := one_self r.node; unfold tcn; omega)
  exact k3.ext fun n => by unfold tcn; omega
theorem HF.bind {F : FF} {g : Int → Int} {r : WH} {l : List MT} {a z : WH} (h : F.HF (fun n => g n + tcn r l n)) (hr : rng r l) : (bindF F l a z).HF (fun n => g n + tcn r (bindL F l a z) n) ∧ rng r (bindL F l a z) := by
  unfold bindF bindL
  split
  · rename_i c
    have hd : dirE F a = 0 ∧ dirE F z = 0 := by
      unfold bindE at c
      split at c
      · omega
      · split at c
        · omega
        · omega
    have dz : ∀ w, dirE F w = 0 → F.isE w.node 0 = 0 := fun w hw => by
      unfold dirE at hw
      split at hw
      · omega
      · omega
    have ha := dz a hd.1
    have hz := dz z hd.2
    have hz' : (F.hold a.node).isE z.node 0 = 0 := by
      unfold FF.hold; rw [if_pos ha]; exact hz
    refine ⟨((h.hold ha).hold hz').ext fun n => ?_, hr.1, fun m hm => ?_⟩
    · have e : mcn (l ++ [⟨a, z⟩]) n = mcn l n + one_ a.node n + one_ z.node n := mcn_app l ⟨a, z⟩ n
      unfold tcn; rw [e]; omega
    · rcases List.mem_append.1 hm with hm | hm
      · exact hr.2 m hm
      · rw [List.mem_singleton.1 hm]; exact ⟨(isE_range ha).1, (isE_range hz).1⟩
  · exact ⟨h, hr⟩
theorem HF.unbind {F : FF} {g : Int → Int} {d : Int → Nat} {B : Int} {r : WH} {l : List MT} {w : WH} (hO : F.Ok d B) (h : F.HF (fun n => g n + tcn r l n)) (hr : rng r l) (hg : ∀ n, 0 ≤ g n) : (unbindF F l w).HF (fun n => g n + tcn r (unbindL l w) n) ∧ rng r (unbindL l w) := by
  unfold unbindF unbindL
  split
  · rename_i c
    have hm := mat_get (l := l) (z := ((idxAt l w : Nat) : Int)) ⟨by omega, by omega⟩
    have hin : mat l ((idxAt l w : Nat) : Int) ∈ l := by
      rw [Int.toNat_natCast] at hm
      exact List.mem_of_getElem? hm
    obtain ⟨r1, r2⟩ := hr.2 _ hin
    have e := mcn_erase c
    have e1 := e (mat l ((idxAt l w : Nat) : Int)).at_.node
    have e2 := e (mat l ((idxAt l w : Nat) : Int)).to.node
    rw [one_self] at e1 e2
    have n1 := mcn_nn (l.eraseIdx (idxAt l w)) (mat l ((idxAt l w : Nat) : Int)).at_.node
    have n2 := mcn_nn (l.eraseIdx (idxAt l w)) (mat l ((idxAt l w : Nat) : Int)).to.node
    have o1 := one_nn (mat l ((idxAt l w : Nat) : Int)).to.node (mat l ((idxAt l w : Nat) : Int)).at_.node
    have o2 := one_nn (mat l ((idxAt l w : Nat) : Int)).at_.node (mat l ((idxAt l w : Nat) : Int)).to.node
    have g1 := hg (mat l ((idxAt l w : Nat) : Int)).at_.node
    have g2 := hg (mat l ((idxAt l w : Nat) : Int)).to.node
    have q1 := one_nn r.node (mat l ((idxAt l w : Nat) : Int)).at_.node
    have q2 := one_nn r.node (mat l ((idxAt l w : Nat) : Int)).to.node
    have k1 := h.letF hO.inv r1 (by unfold tcn; omega)
    have k2 := k1.letF (hO.letF _).inv r2 (by unfold tcn; omega)
    refine ⟨k2.ext fun n => ?_, hr.1, fun m hm => hr.2 m (List.mem_of_mem_eraseIdx hm)⟩
    have := e n
    unfold tcn; omega
  · rename_i c
    rw [show l.eraseIdx (idxAt l w) = l from List.eraseIdx_of_length_le (by omega)]
    exact ⟨h, hr⟩
theorem root_range {F : FF} {d : Int → Nat} (hI : F.Inv d) {t : Int} (h : F.rootE t = 0) : inR (F.rootV t) ∧ F.isE (F.rootV t) 0 = 0 := by
  have ht : 0 ≤ t ∧ t < F.roots.length := by
    unfold rootE at h
    split at h
    · omega
    · split at h
      · omega
      · omega
  have hv : F.rootV t = at0 F.roots t := by unfold rootV; rw [if_pos h]
  have hm : at0 F.roots t ∈ F.roots := by
    unfold at0
    rw [List.getD_eq_getElem?_getD, List.getElem?_eq_getElem (by omega)]
    exact List.getElem_mem _
  obtain ⟨a, b, c, _⟩ := hI.roots.2 _ hm
  rw [hv]
  exact ⟨⟨a, b⟩, range_isE ⟨a, b⟩ (by omega)⟩
theorem HF.pivot {F : FF} {g : Int → Int} {d : Int → Nat} {B : Int} {r : WH} {l : List MT} {t : Int} (hO : F.Ok d B) (h : F.HF (fun n => g n + tcn r l n)) (hr : rng r l) (hg : ∀ n, 0 ≤ g n) (he : F.rootE t = 0) :
    (tcloseF (F.hold (F.rootV t)) l r).HF (fun n => g n + tcn ⟨t, F.rootV t⟩ [] n) ∧ rng ⟨t, F.rootV t⟩ [] := by
  obtain ⟨r1, r2⟩ := root_range hO.inv he
  have k := (h.hold r2).ext (g := fun n => (g n + one_ (F.rootV t) n) + tcn r l n) (fun n => by omega)
  exact ⟨(HF.tclose (hO.hold _) k hr (fun n => by have := hg n; have := one_nn (F.rootV t) n; omega)).ext fun n => by simp only [tcn, mcn]; omega, r1, fun m hm => by cases hm⟩
end FF
theorem bindL_le {F : FF} {l : List MT} {a z : WH} (h : l.length ≤ 6) : (bindL F l a z).length ≤ 6 := by
  unfold bindL; split
  · rename_i c
    have : ¬ l.length = 6 := by
      intro q
      unfold bindE at c
      (repeat' split at c) <;> omega
    rw [List.length_append, List.length_singleton]; omega
  · exact h
theorem unbindL_le {l : List MT} {w : WH} (h : l.length ≤ 6) : (unbindL l w).length ≤ 6 := Nat.le_trans (List.length_eraseIdx_le ..) h
theorem holdM_roots (F : FF) : ∀ l : List MT, (holdM F l).roots = F.roots
  | [] => rfl
  | m :: l => by unfold holdM; rw [holdM_roots, FF.hold_roots, FF.hold_roots]
theorem letM_roots : ∀ (l : List MT) (F : FF), (letM F l).roots = F.roots
  | [], F => rfl
  | m :: l, F => by unfold letM; rw [letM_roots l, FF.letF_roots, FF.letF_roots]
theorem copyF_roots (F : FF) (l : List MT) (r : WH) : (copyF F l r).roots = F.roots := by unfold copyF; rw [holdM_roots, FF.hold_roots]
theorem tcloseF_roots (F : FF) (l : List MT) (r : WH) : (tcloseF F l r).roots = F.roots := by unfold tcloseF; rw [FF.letF_roots, letM_roots]
theorem bindF_roots (F : FF) (l : List MT) (a z : WH) : (bindF F l a z).roots = F.roots := by
  unfold bindF; split
  · rw [FF.hold_roots, FF.hold_roots]
  · rfl
theorem unbindF_roots (F : FF) (l : List MT) (w : WH) : (unbindF F l w).roots = F.roots := by
  unfold unbindF; split
  · rw [FF.letF_roots, FF.letF_roots]
  · rfl
/-- a table, as the code has it -/
structure TV where
  r : WH
  l : List MT
  p : Option Addr
  cap : Nat
  k : Nat
  c : Nat
  C : Nat → Value
structure TV.ok (x : TV) : Prop where
  v : RV.ok ⟨x.p, x.cap, x.k, x.l.length, x.c, x.C⟩
  m : MC x.C x.l
  le : x.l.length ≤ 6
namespace MTop
def F2 : FF := FF.void.plant.plant
def F3 : FF := F2.hold 0
theorem p1 : FF.void.plantE = 0 := by decide +kernel
theorem p2 : FF.void.plant.plantE = 0 := by decide +kernel
theorem r0 : F2.rootE 0 = 0 ∧ F2.rootV 0 = 0 := by decide +kernel
theorem is0 : F2.isE 0 0 = 0 := by decide +kernel
theorem ok : ∃ d1 d, FF.void.plant.Ok d1 1 ∧ F2.Ok d 2 := by
  obtain ⟨d1, o1⟩ := FF.inv_void.plant
  obtain ⟨d2, o2⟩ := o1.plant
  exact ⟨d1, d2, o1, o2⟩
theorem h2 : F2.HF (fun _ => 0) := fun n a b => by
  have : ∀ k : Fin 40, F2.held ((k.val : Nat) : Int) = 0 := by decide +kernel
  have h := this ⟨n.toNat, by omega⟩
  rwa [show (((⟨n.toNat, by omega⟩ : Fin 40).val : Nat) : Int) = n from by show ((n.toNat : Nat) : Int) = n; omega] at h
/-- what is so between the acts -/
structure St (F : FF) (B : Int) (x : TV) : Prop where
  ok : ∃ d, F.Ok d B
  held : F.HF (fun n => FF.one_ 0 n + FF.tcn x.r x.l n)
  rng : FF.rng x.r x.l
theorem St.ge {F : FF} {B B' : Int} {x : TV} (h : St F B x) (hB : B ≤ B') : St F B' x := ⟨by obtain ⟨d, o⟩ := h.ok; exact ⟨d, o.inv, fun n a b => Int.le_trans (o.held n a b) hB, Int.le_trans o.nn hB⟩, h.held, h.rng⟩
end MTop
namespace MTop
theorem St.make {F G : FF} {B : Int} {x : TV} (h : St F B x) {n : Int} {y : ByteArray} {k : Int} (hG : G = F.make n y k) : St G (B + 14) x := by
  obtain ⟨⟨d, hO⟩, hH, hR⟩ := h
  obtain ⟨d2, o2⟩ := hO.make n y k
  subst hG
  exact ⟨⟨d2, o2.inv, fun n a b => Int.le_trans (o2.held n a b) (by omega), by have := o2.nn; omega⟩, fun z a b => (FF.held_make hO.inv n y k z ⟨a, b⟩).trans (hH z a b), hR⟩
theorem St.remove {F G : FF} {B : Int} {x : TV} (h : St F B x) {n : Int} {y : ByteArray} (hG : G = F.remove n y) : St G (B + 14) x := by
  obtain ⟨⟨d, hO⟩, hH, hR⟩ := h
  have o2 := hO.remove n y
  subst hG
  exact ⟨⟨d, o2.inv, fun n a b => Int.le_trans (o2.held n a b) (by omega), by have := o2.nn; omega⟩, fun z a b => (FF.held_remove F n y z).trans (hH z a b), hR⟩
theorem St.bind {F G : FF} {B : Int} {x : TV} (h : St F B x) {a z : WH} (hG : G = bindF F x.l a z) (p : Option Addr) (cap k c : Nat) (C : Nat → Value) : St G (B + 14) ⟨x.r, bindL F x.l a z, p, cap, k, c, C⟩ := by
  obtain ⟨⟨d, hO⟩, hH, hR⟩ := h
  have o2 := hold_ok2 hO x.l a z
  subst hG
  obtain ⟨q1, q2⟩ := hH.bind (a := a) (z := z) hR
  exact ⟨⟨d, o2.inv, fun n a b => Int.le_trans (o2.held n a b) (by omega), by have := o2.nn; omega⟩, q1, q2⟩
theorem St.unbind {F G : FF} {B : Int} {x : TV} (h : St F B x) {w : WH} (hG : G = unbindF F x.l w) (p : Option Addr) (cap k c : Nat) (C : Nat → Value) : St G (B + 14) ⟨x.r, unbindL x.l w, p, cap, k, c, C⟩ := by
  obtain ⟨⟨d, hO⟩, hH, hR⟩ := h
  have o2 := let_ok2 hO x.l w
  subst hG
  obtain ⟨q1, q2⟩ := FF.HF.unbind (w := w) hO hH hR (FF.one_nn 0)
  exact ⟨⟨d, o2.inv, fun n a b => Int.le_trans (o2.held n a b) (by omega), by have := o2.nn; omega⟩, q1, q2⟩
theorem St.pivot {F G : FF} {B : Int} {x : TV} (h : St F B x) {t : Int} (he : F.rootE t = 0) (hG : G = tcloseF (F.hold (F.rootV t)) x.l x.r) {d : Int → Nat} (hO2 : G.Ok d (B + 14)) : St G (B + 14) ⟨⟨t, F.rootV t⟩, [], none, 0, 0, 0, C0⟩ := by
  obtain ⟨⟨d', hO⟩, hH, hR⟩ := h
  obtain ⟨q1, q2⟩ := FF.HF.pivot hO hH hR (FF.one_nn 0) he
  subst hG
  exact ⟨⟨d, hO2⟩, q1, q2⟩
theorem nil_ok' (t n : Int) : TV.ok ⟨⟨t, n⟩, [], none, 0, 0, 0, C0⟩ := ⟨C0_ok, MC.nil _, Nat.zero_le _⟩
end MTop

end Go.X

namespace Go.X
open Go
/-! ### names of a path, and one behind them -/
def cut1 : List UInt8 → List (List UInt8)
  | [] => [[]]
  | b :: l => if b = 47 then [] :: cut1 l else match cut1 l with
    | [] => [[b]]
    | p :: r => (b :: p) :: r
theorem splitK_ne (b : UInt8) (hb : b ≠ 47) (l : List UInt8) (k : Nat) : Lib.splitK [47] 0 k (b :: l) = match Lib.splitK [47] 0 k l with
    | [] => [[b]]
    | p :: r => (b :: p) :: r := by
  cases k with
  | zero => rfl
  | succ k =>
    have hp : ([47] : List UInt8).isPrefixOf (b :: l) = false := by simp [List.isPrefixOf, Ne.symm hb]
    have hix : Lib.index (b :: l) [47] = if Lib.index l [47] == -1 then -1 else Lib.index l [47] + 1 := by rw [Lib.index, hp]; simp
    have hge := Lib.index_ge l [47]
    by_cases hm : Lib.index l [47] = -1
    · unfold Lib.splitK
      rw [hix, if_pos (beq_iff_eq.2 hm)]
      simp [hm]
    · have hm' : ¬ (Lib.index l [47] == -1) = true := fun e => hm (beq_iff_eq.1 e)
      unfold Lib.splitK
      rw [hix, if_neg hm']
      have h2 : ¬ (Lib.index l [47] + 1 == -1) = true := fun e => by have := beq_iff_eq.1 e; omega
      rw [if_neg h2]
      obtain ⟨j, hj⟩ : ∃ j : Nat, Lib.index l [47] = j := ⟨(Lib.index l [47]).toNat, by omega⟩
      rw [hj, show ((j : Int) + 1).toNat = j + 1 from by omega, show ((j : Int)).toNat = j from by omega]
      simp
theorem splitK_cut : ∀ s : List UInt8, Lib.splitK [47] 0 (s.count 47) s = cut1 s
  | [] => rfl
  | b :: l => by
    have ih := splitK_cut l
    by_cases hb : b = 47
    · subst hb
      rw [List.count_cons_self]
      have hix : Lib.index (47 :: l) [47] = 0 := by rw [Lib.index]; simp [List.isPrefixOf]
      unfold Lib.splitK cut1
      rw [hix, if_pos rfl, ← ih]
      simp
    · rw [List.count_cons_of_ne (by simpa using hb), splitK_ne b hb, ih]
      conv => rhs; unfold cut1
      rw [if_neg hb]
theorem cut1_one : ∀ {y : List UInt8}, (∀ b ∈ y, b ≠ 47) → cut1 y = [y]
  | [], _ => rfl
  | b :: l, h => by
    unfold cut1
    rw [if_neg (h b (List.mem_cons_self ..)), cut1_one (y := l) (fun c hc => h c (List.mem_cons_of_mem _ hc))]
theorem toL_inj {a b : ByteArray} (h : a.data.toList = b.data.toList) : a = b := by
  cases a with
  | mk a => cases b with
    | mk b => congr 1; exact Array.toList_inj.1 h
theorem mapL_inj : ∀ {a b : List ByteArray}, a.map (·.data.toList) = b.map (·.data.toList) → a = b
  | [], [], _ => rfl
  | [], _ :: _, h => by simp at h
  | _ :: _, [], h => by simp at h
  | x :: a, y :: b, h => by
    simp only [List.map_cons, List.cons.injEq] at h
    rw [toL_inj h.1, mapL_inj h.2]
theorem pieces_cut (s : ByteArray) : (pieces s).map (·.data.toList) = cut1 s.data.toList := by
  unfold pieces
  rw [Lib.splitB_data]
  show Lib.splitK [47] 0 (Lib.count s.data.toList [47]) s.data.toList = _
  rw [Lib.count_one, splitK_cut]
def noSl (y : ByteArray) : Prop := ∀ b ∈ y.data.toList, b ≠ 47
/-- a path, and a name behind it -/
def whole (p y : ByteArray) : ByteArray := if p = slash then slash ++ y else p ++ slash ++ y
/-! ### the way, one step on and back -/
theorem last_app (w : List WH) (x : WH) : last (w ++ [x]) = x := by
  unfold last wat
  simp
theorem splitE_cases (p : ByteArray) : splitE p = 0 ∨ splitE p = 9 := by
  unfold splitE
  split
  · exact .inr rfl
  · split
    · exact .inl rfl
    · split
      · exact .inl rfl
      · exact .inr rfl
/-- what TopPath says -/
structure PathOk (F : FF) (l : List MT) (r : WH) (p y : ByteArray) : Prop where
  lastE : lastE F l r (whole p y) = 0
  lastV : lastV F l r (whole p y) = walkV F l r p
  lastN : lastN F l r (whole p y) = y
  findE : F.findE (walkV F l r p).node y = 0
  rawE : rawE F l r (whole p y) = 0
  rawV : rawV F l r (whole p y) = ⟨(walkV F l r p).tree, F.findV (walkV F l r p).node y⟩
  deep : hasAt l ⟨(walkV F l r p).tree, F.findV (walkV F l r p).node y⟩ = false → walkV F l r (whole p y) = ⟨(walkV F l r p).tree, F.findV (walkV F l r p).node y⟩
  back : (whole p y).size + 3 ≤ 60 → walkE F l r (whole p y ++ ⟨#[47, 46, 46]⟩) = 0 ∧ walkV F l r (whole p y ++ ⟨#[47, 46, 46]⟩) = walkV F l r p
theorem MC.ldA {C : Nat → Value} {l : List MT} (h : MC C l) {k : Nat} (hk : l.length ≤ k) (z : Int) (q : 0 ≤ z ∧ z < l.length) : 0 + z.toNat * 4 + 0 + 2 ≤ k * 4 ∧ aggOf C (0 + z.toNat * 4 + 0) 2 = .agg (WH.arr (mat l z).at_) := by
  refine ⟨by omega, ?_⟩
  have e := fun j (hj : j < 4) => (h (0 + z.toNat * 4 + j) (by omega)).trans (mC_at l z q.1 j hj)
  simp only [aggOf, List.range, List.range.loop, List.map_cons, List.map_nil, Nat.add_zero]
  have e0 := e 0 (by omega)
  rw [Nat.add_zero] at e0
  rw [e0, e 1 (by omega)]
  rfl
namespace MTop
/-- what is so between the acts of TopPath -/
def PSt (F : FF) (B : Int) : Prop := ∃ d, F.Ok d B
theorem PSt.ge {F : FF} {B B' : Int} (h : PSt F B) (hB : B ≤ B') : PSt F B' := by
  obtain ⟨d, o⟩ := h
  exact ⟨d, o.inv, fun n a b => Int.le_trans (o.held n a b) hB, Int.le_trans o.nn hB⟩
theorem PSt.make {F G : FF} {B : Int} (h : PSt F B) {n : Int} {y : ByteArray} {k : Int} (hG : G = F.make n y k) : PSt G (B + 14) := by
  obtain ⟨d, hO⟩ := h
  obtain ⟨d2, o2⟩ := hO.make n y k
  subst hG
  exact ⟨d2, o2.inv, fun n a b => Int.le_trans (o2.held n a b) (by omega), by have := o2.nn; omega⟩
theorem PSt.bind {F G : FF} {B : Int} (h : PSt F B) {l : List MT} {a z : WH} (hG : G = bindF F l a z) : PSt G (B + 14) := by
  obtain ⟨d, hO⟩ := h
  have o2 := hold_ok2 hO l a z
  subst hG
  exact ⟨d, o2.inv, fun n a b => Int.le_trans (o2.held n a b) (by omega), by have := o2.nn; omega⟩
end MTop

end Go.X

namespace Go.X
open Go
/-! ### a struct of structs of ints, held against its like -/
def okG (P : Program) (n : Nat) (f : Field) : Bool := match P.underlying f.type with
  | some (.struct fs) => (P.stoodInHeld f.type == false) && aggT P f.type && decide (szOf P f.type = some 2) && fs.toList.all (okF P 2) && Nat.ble (f.offset + 2) n
  | _ => false
theorem eqFields_self2 {P : Program} {w : World} {xs : Array Value} {n d : Nat} (hx : ∀ i, i < n → ∃ v, xs[i]? = some (.int .i64 v)) : ∀ fs : List Field, fs.all (okG P n) = true → (Op.eqFields (d + 2) xs xs fs).run P w = .ok true w
  | [], _ => by simp [Op.eqFields]
  | f :: fs, h => by
    simp only [List.all_cons, Bool.and_eq_true] at h
    have ih := eqFields_self2 (P := P) (w := w) (d := d) hx fs h.2
    have h1 := h.1
    unfold okG at h1
    cases hu : P.underlying f.type with
    | none => simp [hu] at h1
    | some ds =>
      simp only [hu] at h1
      cases ds <;> simp only [] at h1 <;> try cases h1
      rename_i gs
      simp only [Bool.and_eq_true, decide_eq_true_eq, beq_iff_eq] at h1
      obtain ⟨⟨⟨⟨g1, g2⟩, g3⟩, g4⟩, g5⟩ := h1
      have g5 : f.offset + 2 ≤ n := Nat.le_of_ble_eq_true g5
      have hf : P.fieldsOf f.type = gs := by unfold Program.fieldsOf; rw [hu]
      have hp : (part f.type xs f.offset).run P w = .ok (.agg (xs.extract f.offset (f.offset + 2))) w := by
        simp [part, run_isAgg_agg g2, run_sizeOf g3]
      have he : (Op.equalIn (d + 2) f.type (.agg (xs.extract f.offset (f.offset + 2))) (.agg (xs.extract f.offset (f.offset + 2)))).run P w = .ok true w :=
        (run_equalIn_struct w (d + 1) f.type _ _ (by rw [hf]; exact hu) g1).trans (eqFields_self (n := 2) (fun i hi => by
          obtain ⟨v, hv⟩ := hx (f.offset + i) (by omega)
          refine ⟨v, ?_⟩
          have hsz : f.offset + i < xs.size := by
            rcases Nat.lt_or_ge (f.offset + i) xs.size with q | q
            · exact q
            · rw [Array.getElem?_eq_none q] at hv; cases hv
          rw [Array.getElem?_extract, if_pos (by omega)]
          exact hv) _ (by rw [hf]; exact g4))
      simp only [Op.eqFields]
      split
      · simp [hp, he, ih]
      · exact ih
theorem V.aggNe2 {P : Program} {n : Fr} {L : PF} {ty : TypeId} {pos : String} {af : Array Edge} {d m : Nat} {gd : Option (Nat × Bool)} {φ : World → Prop} {t t' : TypeId} {x y : Operand} {xs : Array Value} (hx : ev L x = some (.agg xs)) (hy : ev L y = some (.agg xs))
    (hP : (P.underlying t = some (.struct (P.fieldsOf t)) ∧ P.stoodInHeld t = false) ∧ P.eqGuardType P.depth t = false ∧ (P.fieldsOf t).toList.all (okG P m) = true) (hv : ∀ i, i < m → ∃ v, xs[i]? = some (.int .i64 v)) :
    RunsTo P n L φ ⟨some d, .binOp .neq t x y t', ty, pos, af, gd⟩ (.bool false) := fun a w ha _ => by
  have he : (Op.equal t (.agg xs) (.agg xs)).run P w = .ok true w := (run_equalIn_struct w 9999 t xs xs hP.1.1 hP.1.2).trans (eqFields_self2 (d := 9997) hv _ hP.2.2)
  have b2 : binOp .neq t (.agg xs) (.agg xs) = (do pure (.bool (!(← Op.equal t (.agg xs) (.agg xs))))) := rfl
  have hg : (eqGuard .neq t x y (.agg xs) (.agg xs)).run P w = .ok () w := by
    simp [eqGuard, run_program, hP.2.1]
  simp only [execOp, ev_eval ha hx, ev_eval ha hy, b2]
  simp [hg, he]
theorem MT.ints (m : MT) : ∀ i, i < 4 → ∃ v, (MT.arr m)[i]? = some (.int .i64 v)
  | 0, _ => ⟨_, rfl⟩
  | 1, _ => ⟨_, rfl⟩
  | 2, _ => ⟨_, rfl⟩
  | 3, _ => ⟨_, rfl⟩
  | k + 4, h => absurd h (by omega)
theorem MC.ldT {C : Nat → Value} {l : List MT} (h : MC C l) {k : Nat} (hk : l.length ≤ k) (z : Int) (q : 0 ≤ z ∧ z < l.length) : 0 + z.toNat * 4 + 2 + 2 ≤ k * 4 ∧ aggOf C (0 + z.toNat * 4 + 2) 2 = .agg (WH.arr (mat l z).to) := by
  refine ⟨by omega, ?_⟩
  have e := fun j (hj : j < 4) => (h (0 + z.toNat * 4 + j) (by omega)).trans (mC_at l z q.1 j hj)
  simp only [aggOf, List.range, List.range.loop, List.map_cons, List.map_nil]
  have e3 := e 3 (by omega)
  rw [Nat.add_zero, e 2 (by omega), Nat.add_assoc _ 2 1, e3]
  rfl
theorem MC.ldAn {C : Nat → Value} {l : List MT} (h : MC C l) {k : Nat} (hk : l.length ≤ k) (z : Int) (q : 0 ≤ z ∧ z < l.length) : 0 + z.toNat * 4 + 0 + 1 < k * 4 ∧ C (0 + z.toNat * 4 + 0 + 1) = .int .i64 (mat l z).at_.node := by
  refine ⟨by omega, ?_⟩
  exact (h (0 + z.toNat * 4 + 1) (by omega)).trans (mC_at l z q.1 1 (by omega))
theorem MC.ldTn {C : Nat → Value} {l : List MT} (h : MC C l) {k : Nat} (hk : l.length ≤ k) (z : Int) (q : 0 ≤ z ∧ z < l.length) : 0 + z.toNat * 4 + 2 + 1 < k * 4 ∧ C (0 + z.toNat * 4 + 2 + 1) = .int .i64 (mat l z).to.node := by
  refine ⟨by omega, ?_⟩
  exact (h (0 + z.toNat * 4 + 3) (by omega)).trans (mC_at l z q.1 3 (by omega))
/-! ### names, cut byte by byte -/
theorem cut1_cons {a : List UInt8} (ha : ∀ b ∈ a, b ≠ 47) (y : List UInt8) : cut1 (a ++ 47 :: y) = a :: cut1 y := by
  induction a with
  | nil =>
    show cut1 (47 :: y) = _
    conv => lhs; unfold cut1
    rw [if_pos rfl]
  | cons b l ih =>
    have ih := ih (fun c hc => ha c (List.mem_cons_of_mem _ hc))
    show cut1 (b :: (l ++ 47 :: y)) = _
    conv => lhs; unfold cut1
    rw [if_neg (ha b (List.mem_cons_self ..)), ih]
abbrev toL (s : ByteArray) : List UInt8 := s.data.toList
theorem toL_len (s : ByteArray) : (toL s).length = s.size := by simp [toL]
theorem toL_ext (s : ByteArray) (a b : Nat) : toL (s.extract a b) = ((toL s).take b).drop a := by
  unfold toL; rw [Lib.extract_data, List.drop_take]
theorem toL_get {s : ByteArray} {j : Nat} (h : j < s.size) : (toL s)[j]? = some (s.get! j) := by
  have e := get_of (s := s) (j := j) (u := s[j]) (getElem?_pos s j h)
  rw [e]
  unfold toL
  rw [Array.getElem?_toList, Array.getElem?_eq_getElem (by simpa using h)]
  rfl
structure NI (x : ByteArray) (fr i : Int) (l : List ByteArray) : Prop where
  b : 1 ≤ fr ∧ fr ≤ i ∧ i ≤ x.size + 1
  all : l.all partOk = true
  no : ∀ j : Nat, fr ≤ j → (j : Int) < i → j < x.size → x.get! j ≠ 47
  on : i ≤ x.size → (pieces (x.extract 1 x.size)).map (·.data.toList) = l.map (·.data.toList) ++ cut1 ((toL x).drop fr.toNat)
  done : i = x.size + 1 → pieces (x.extract 1 x.size) = l
  len : (l.length : Int) ≤ i
theorem NI.start {x : ByteArray} (h : 2 ≤ x.size) : NI x 1 1 [] := by
  refine ⟨⟨by omega, by omega, by omega⟩, rfl, fun j a b => by omega, fun _ => ?_, fun q => by omega, by simp⟩
  rw [pieces_cut, show (x.extract 1 x.size).data.toList = (toL x).drop 1 from Lib.extract_to_end x 1]
  rfl
theorem NI.step {x : ByteArray} {fr i : Int} {l : List ByteArray} (h : NI x fr i l) (hi : i < x.size) (hx : x.get! i.toNat ≠ 47) : NI x fr (i + 1) l := by
  obtain ⟨⟨b1, b2, b3⟩, h2, h3, h4, h5, h6⟩ := h
  refine ⟨⟨b1, by omega, by omega⟩, h2, fun j a b c => ?_, fun _ => h4 (by omega), fun q => by omega, by omega⟩
  by_cases e : (j : Int) = i
  · rw [show j = i.toNat from by omega]; exact hx
  · exact h3 j a (by omega) c
theorem NI.noSl {x : ByteArray} {fr i : Int} {l : List ByteArray} (h : NI x fr i l) (hi : i ≤ x.size) : ∀ b ∈ ((toL x).take i.toNat).drop fr.toNat, b ≠ 47 := by
  intro b hb
  obtain ⟨⟨b1, b2, b3⟩, h2, h3, h4, h5, h6⟩ := h
  obtain ⟨j, hj⟩ := List.mem_iff_getElem?.1 hb
  rw [List.getElem?_drop, List.getElem?_take] at hj
  split at hj
  · rename_i c
    rw [toL_get (by omega)] at hj
    rw [← Option.some.inj hj]
    exact h3 _ (by omega) (by omega) (by omega)
  · cases hj
theorem NI.cut {x : ByteArray} {fr i : Int} {l : List ByteArray} (h : NI x fr i l) (hi : i < x.size) (hx : x.get! i.toNat = 47) (hk : partOk (x.extract fr.toNat i.toNat) = true) : NI x (i + 1) (i + 1) (l ++ [x.extract fr.toNat i.toNat]) := by
  have hns := h.noSl (by omega)
  obtain ⟨⟨b1, b2, b3⟩, h2, h3, h4, h5, h6⟩ := h
  refine ⟨⟨by omega, by omega, by omega⟩, by rw [List.all_append, h2]; simp [hk], fun j a b c => by omega, fun q => ?_, fun q => by omega, by simp; omega⟩
  have e : (toL x).drop fr.toNat = ((toL x).take i.toNat).drop fr.toNat ++ 47 :: (toL x).drop (i + 1).toNat := by
    have hl := toL_len x
    have g := toL_get (s := x) (j := i.toNat) (by omega)
    rw [hx] at g
    have d : (toL x).drop i.toNat = 47 :: (toL x).drop (i + 1).toNat := by
      rw [List.drop_eq_getElem_cons (by omega), show (i + 1).toNat = i.toNat + 1 from by omega]
      congr 1
      rw [List.getElem?_eq_getElem (by omega)] at g
      exact Option.some.inj g
    rw [← d]
    conv => lhs; rw [← List.take_append_drop i.toNat (toL x)]
    rw [List.drop_append_of_le_length (by rw [List.length_take]; omega)]
  rw [h4 (by omega), e, cut1_cons hns, List.map_append, List.append_assoc]
  congr 1
  simp only [List.map_cons, List.map_nil, List.singleton_append]
  rw [show (x.extract fr.toNat i.toNat).data.toList = ((toL x).take i.toNat).drop fr.toNat from toL_ext x _ _]
theorem NI.fin {x : ByteArray} {fr i : Int} {l : List ByteArray} (h : NI x fr i l) (hi : i = x.size) (hk : partOk (x.extract fr.toNat i.toNat) = true) : NI x (i + 1) (i + 1) (l ++ [x.extract fr.toNat i.toNat]) := by
  have hns := h.noSl (by omega)
  obtain ⟨⟨b1, b2, b3⟩, h2, h3, h4, h5, h6⟩ := h
  refine ⟨⟨by omega, by omega, by omega⟩, by rw [List.all_append, h2]; simp [hk], fun j a b c => by omega, fun q => by omega, fun q => ?_, by simp; omega⟩
  apply mapL_inj
  have hl := toL_len x
  have e : ((toL x).take i.toNat) = toL x := List.take_of_length_le (by omega)
  rw [e] at hns
  rw [h4 (by omega), cut1_one hns, List.map_append]
  congr 1
  simp only [List.map_cons, List.map_nil]
  rw [show (x.extract fr.toNat i.toNat).data.toList = ((toL x).take i.toNat).drop fr.toNat from toL_ext x _ _, e]
theorem NI.mem {x : ByteArray} {fr i : Int} {l : List ByteArray} (h : NI x fr i l) (hi : i ≤ x.size) (he : i = x.size ∨ x.get! i.toNat = 47) : x.extract fr.toNat i.toNat ∈ pieces (x.extract 1 x.size) := by
  by_cases hk : partOk (x.extract fr.toNat i.toNat) = true
  · rcases he with he | he
    · have := (h.fin he hk).done (by omega)
      rw [this]; simp
    · by_cases c : i < x.size
      · have h4 := (h.cut c he hk).on (by omega)
        have : (x.extract fr.toNat i.toNat).data.toList ∈ (pieces (x.extract 1 x.size)).map (·.data.toList) := by rw [h4]; simp
        obtain ⟨y, hy, e⟩ := List.mem_map.1 this
        rwa [← toL_inj e]
      · have := (h.fin (by omega) hk).done (by omega)
        rw [this]; simp
  · have h9 : ∀ l' : List ByteArray, l'.all partOk = true → NI x fr i l' → True := fun _ _ _ => trivial
    have hns := h.noSl hi
    obtain ⟨⟨b1, b2, b3⟩, h2, h3, h4, h5, h6⟩ := h
    have h4 := h4 hi
    have : (x.extract fr.toNat i.toNat).data.toList ∈ cut1 ((toL x).drop fr.toNat) := by
      rw [show (x.extract fr.toNat i.toNat).data.toList = ((toL x).take i.toNat).drop fr.toNat from toL_ext x _ _]
      have hl := toL_len x
      by_cases c : i < x.size ∧ x.get! i.toNat = 47
      · have g := toL_get (s := x) (j := i.toNat) (by omega)
        rw [c.2] at g
        have d : (toL x).drop i.toNat = 47 :: (toL x).drop (i + 1).toNat := by
          rw [List.drop_eq_getElem_cons (by omega), show (i + 1).toNat = i.toNat + 1 from by omega]
          congr 1
          rw [List.getElem?_eq_getElem (by omega)] at g
          exact Option.some.inj g
        have e : (toL x).drop fr.toNat = ((toL x).take i.toNat).drop fr.toNat ++ 47 :: (toL x).drop (i + 1).toNat := by
          rw [← d]
          conv => lhs; rw [← List.take_append_drop i.toNat (toL x)]
          rw [List.drop_append_of_le_length (by rw [List.length_take]; omega)]
        rw [e, cut1_cons hns]; simp
      · have hi : i = x.size := by
          rcases he with he | he
          · exact he
          · by_cases q : i < x.size
            · exact absurd ⟨q, he⟩ c
            · omega
        have e : ((toL x).take i.toNat) = toL x := List.take_of_length_le (by omega)
        rw [e] at hns ⊢
        rw [cut1_one hns]; simp
    have : (x.extract fr.toNat i.toNat).data.toList ∈ (pieces (x.extract 1 x.size)).map (·.data.toList) := by rw [h4]; exact List.mem_append_right _ this
    obtain ⟨y, hy, e⟩ := List.mem_map.1 this
    rwa [← toL_inj e]
theorem NI.bad {x : ByteArray} {fr i : Int} {l : List ByteArray} (h : NI x fr i l) (hc : ¬ (60 < x.size ∨ x = ⟨#[]⟩ ∨ x.get! 0 ≠ 47)) (hs : ¬ x = slash) (hi : i ≤ x.size) (he : i = x.size ∨ x.get! i.toNat = 47) (hk : partOk (x.extract fr.toNat i.toNat) = false) : splitE x = 9 := by
  unfold splitE
  rw [if_neg hc, if_neg hs, if_neg (fun q => by have := List.all_eq_true.1 q _ (h.mem hi he); rw [hk] at this; cases this)]
theorem NI.good {x : ByteArray} {fr i : Int} {l : List ByteArray} (h : NI x fr i l) (hc : ¬ (60 < x.size ∨ x = ⟨#[]⟩ ∨ x.get! 0 ≠ 47)) (hs : ¬ x = slash) (hi : ¬ i ≤ x.size) : splitE x = 0 ∧ splitV x = l := by
  have e := h.done (by have := h.b; omega)
  have e0 : splitE x = 0 := by
    unfold splitE
    rw [if_neg hc, if_neg hs, if_pos (by rw [e]; exact h.all)]
  exact ⟨e0, by unfold splitV; rw [if_pos ⟨e0, hs⟩, e]⟩
theorem slash_iff {x : ByteArray} (hg : x.get! 0 = 47) : x = slash ↔ x.size = 1 := by
  constructor
  · rintro rfl; rfl
  · intro h
    apply toL_inj
    have hl := toL_len x
    have g := toL_get (s := x) (j := 0) (by omega)
    rw [hg] at g
    show toL x = [47]
    match hL : toL x, hl, g with
    | [a], _, g => simp at g; rw [g]
    | [], hl, _ => simp at hl; omega
    | a :: b :: c, hl, _ => simp at hl; omega
/-! ### the way of the document -/
theorem last_snoc (w : List WH) (a : WH) : last (w ++ [a]) = a := last_app w a
theorem way_last {w : List WH} (h : 1 ≤ w.length) : w.take (w.length - 1) ++ [last w] = w := by
  have e : w = w.take (w.length - 1) ++ w.drop (w.length - 1) := (List.take_append_drop _ _).symm
  have d : w.drop (w.length - 1) = [last w] := by
    rw [List.drop_eq_getElem_cons (by omega), List.drop_of_length_le (by omega)]
    unfold last wat
    rw [List.getD_eq_getElem?_getD, show ((w.length : Int) - 1).toNat = w.length - 1 from by omega, List.getElem?_eq_getElem (by omega)]
    rfl
  rw [← d]
  exact e.symm
theorem take_snoc1 (w : List WH) (a : WH) : (w ++ [a]).take ((w ++ [a]).length - 1) = w := by simp
/-! ### mounts at places of their own -/
def NdM (l : List MT) : Prop := ∀ i j : Int, 0 ≤ i → i < j → j < l.length → (mat l i).at_ ≠ (mat l j).at_
theorem mat_app_lt {l : List MT} {m : MT} {i : Int} (h0 : 0 ≤ i) (h : i < l.length) : mat (l ++ [m]) i = mat l i := by
  unfold mat
  rw [List.getD_eq_getElem?_getD, List.getD_eq_getElem?_getD, List.getElem?_append_left (by omega)]
theorem mat_app_len {l : List MT} {m : MT} {i : Int} (h : i = l.length) : mat (l ++ [m]) i = m := by
  subst h
  unfold mat
  simp
theorem NdM.nil : NdM [] := fun i j a b c => by simp at c; omega
theorem NdM.app {l : List MT} (h : NdM l) {a z : WH} (hn : hasAt l a = false) : NdM (l ++ [⟨a, z⟩]) := fun i j h0 hij hj => by
  simp only [List.length_append, List.length_singleton] at hj
  by_cases c : j = l.length
  · rw [mat_app_lt h0 (by omega), mat_app_len c]
    intro q
    have := hasAt_true (l := l) (w := a) (i := i) ⟨h0, by omega⟩ q
    rw [hn] at this; cases this
  · rw [mat_app_lt h0 (by omega), mat_app_lt (by omega) (by omega)]
    exact h i j h0 hij (by omega)
theorem NdM.bind {F : FF} {l : List MT} (h : NdM l) (a z : WH) : NdM (bindL F l a z) := by
  unfold bindL
  split
  · rename_i c
    refine h.app ?_
    cases q : hasAt l a with
    | false => rfl
    | true =>
      unfold bindE at c
      (repeat' split at c) <;> first | omega | (rename_i q2 _; exact absurd q q2) | (rename_i q2; exact absurd q q2)
  · exact h
theorem mat_erase {l : List MT} {n : Nat} {i : Int} (h0 : 0 ≤ i) : mat (l.eraseIdx n) i = if i < n then mat l i else mat l (i + 1) := by
  unfold mat
  rw [List.getD_eq_getElem?_getD, List.getElem?_eraseIdx]
  by_cases c : i < n
  · rw [if_pos c, if_pos (by omega), ← List.getD_eq_getElem?_getD]
  · rw [if_neg c, if_neg (by omega), show (i + 1).toNat = i.toNat + 1 from by omega, ← List.getD_eq_getElem?_getD]
theorem NdM.erase {l : List MT} (h : NdM l) (n : Nat) : NdM (l.eraseIdx n) := fun i j h0 hij hj => by
  by_cases cn : n < l.length
  · rw [List.length_eraseIdx_of_lt cn] at hj
    rw [mat_erase h0, mat_erase (by omega)]
    split <;> split
    · exact h _ _ (by omega) (by omega) (by omega)
    · exact h _ _ (by omega) (by omega) (by omega)
    · omega
    · exact h _ _ (by omega) (by omega) (by omega)
  · rw [List.eraseIdx_of_length_le (by omega)] at hj ⊢
    exact h i j h0 hij hj
theorem dirE_nn (F : FF) (w : WH) : 0 ≤ dirE F w := by
  unfold dirE
  split
  · exact FF.isE_nn _ _ _
  · split <;> omega
theorem bindE_nn (F : FF) (l : List MT) (a z : WH) : 0 ≤ bindE F l a z := by
  have := dirE_nn F a
  have := dirE_nn F z
  unfold bindE
  (repeat' split) <;> omega
theorem splitV_ne {x : ByteArray} (h : splitE x = 0) (hs : ¬ x = slash) : ¬ (splitV x).length = 0 := by
  unfold splitV
  rw [if_pos ⟨h, hs⟩, pieces_len]
  omega
theorem led_nn (F : FF) (l : List MT) : ∀ (ns : List ByteArray) (way : List WH), 0 ≤ (wk F l way ns).1
  | [], way => Int.le_refl _
  | s :: r, way => by
    unfold wk
    split
    · exact led_nn F l r _
    · split
      · exact FF.findE_nn _ _ _
      · exact led_nn F l r _
theorem splitE_nn (p : ByteArray) : 0 ≤ splitE p := by rcases splitE_cases p with h | h <;> omega
theorem walkE_nn (F : FF) (l : List MT) (r : WH) (p : ByteArray) : 0 ≤ walkE F l r p := by
  unfold walkE
  split
  · exact splitE_nn p
  · exact led_nn F l _ _
theorem lastE_nn (F : FF) (l : List MT) (r : WH) (p : ByteArray) : 0 ≤ lastE F l r p := by
  unfold lastE
  split
  · exact splitE_nn p
  · split
    · omega
    · exact led_nn F l _ _
theorem rawE_nn (F : FF) (l : List MT) (r : WH) (p : ByteArray) : 0 ≤ rawE F l r p := by
  unfold rawE
  split
  · exact splitE_nn p
  · split
    · omega
    · split
      · omega
      · split
        · exact led_nn F l _ _
        · exact FF.findE_nn _ _ _
theorem raw_slash {F : FF} {l : List MT} {r : WH} {x : ByteArray} (h : x = slash) : rawE F l r x = 0 ∧ rawV F l r x = r := by
  obtain ⟨e, v⟩ := splitE_slash h
  have h1 : rawE F l r x = 0 := by unfold rawE; rw [if_neg (by omega), v, if_pos (show ([] : List ByteArray).length = 0 from rfl)]
  exact ⟨h1, by unfold rawV; rw [if_neg (by omega), v, if_pos (show ([] : List ByteArray).length = 0 from rfl)]⟩
theorem raw_err {F : FF} {l : List MT} {r : WH} {x : ByteArray} (hs : ¬ x = slash) (h : lastE F l r x ≠ 0) : rawE F l r x = lastE F l r x ∧ rawV F l r x = WH.nil := by
  have e : rawE F l r x = lastE F l r x := by
    unfold lastE at h ⊢
    unfold rawE
    by_cases c : splitE x ≠ 0
    · rw [if_pos c, if_pos c]
    · rw [if_neg c] at h ⊢
      have hv := splitV_ne (by omega) hs
      rw [if_neg c, if_neg hv]
      by_cases c2 : nlast (splitV x) = dd
      · rw [if_pos c2, if_pos (.inr c2)]
      · have c3 : ¬ ((splitV x).length = 0 ∨ nlast (splitV x) = dd) := by rintro (q | q); exact hv q; exact c2 q
        rw [if_neg c3] at h ⊢
        rw [if_neg c2, if_pos h]
  exact ⟨e, by unfold rawV; rw [if_pos (by omega)]⟩
theorem raw_ok {F : FF} {l : List MT} {r : WH} {x : ByteArray} (hs : ¬ x = slash) (h : lastE F l r x = 0) : rawE F l r x = F.findE (lastV F l r x).node (lastN F l r x) ∧ (F.findE (lastV F l r x).node (lastN F l r x) = 0 → rawV F l r x = ⟨(lastV F l r x).tree, F.findV (lastV F l r x).node (lastN F l r x)⟩) := by
  have hV : lastV F l r x = (led F l r (ninit (splitV x))).2 := by unfold lastV; rw [if_neg (by omega)]
  have hN : lastN F l r x = nlast (splitV x) := by unfold lastN; rw [if_neg (by omega)]
  rw [hV, hN]
  unfold lastE at h
  by_cases c : splitE x ≠ 0
  · rw [if_pos c] at h; omega
  · rw [if_neg c] at h
    have hv := splitV_ne (by omega) hs
    by_cases c2 : nlast (splitV x) = dd
    · rw [if_pos (.inr c2)] at h; omega
    · have c3 : ¬ ((splitV x).length = 0 ∨ nlast (splitV x) = dd) := by rintro (q | q); exact hv q; exact c2 q
      rw [if_neg c3] at h
      have e : rawE F l r x = F.findE (led F l r (ninit (splitV x))).2.node (nlast (splitV x)) := by
        unfold rawE
        rw [if_neg c, if_neg hv, if_neg c2, if_neg (by omega)]
      exact ⟨e, fun q => by unfold rawV; rw [if_neg (by omega), if_neg hv]⟩
/-! ### unbinding, mount by mount -/
def UnS (l : List MT) (z : WH) (i g : Int) (u : List MT) : Prop := (g = -1 ∧ u = l.take i.toNat ∧ ∀ j : Int, 0 ≤ j → j < i → (mat l j).at_ ≠ z) ∨
  ((0 ≤ g ∧ g < i) ∧ (i ≤ l.length ∧ (mat l g).at_ = z ∧ u = (l.take i.toNat).eraseIdx g.toNat) ∧ ∀ j : Int, 0 ≤ j → j < g → (mat l j).at_ ≠ z)
theorem UnS.start (l : List MT) (z : WH) : UnS l z 0 (-1) [] := .inl ⟨rfl, by simp, fun j a b => by omega⟩
theorem UnS.le {l : List MT} {z : WH} {i g : Int} {u : List MT} (h : UnS l z i g u) : u.length ≤ l.length := by
  rcases h with ⟨_, rfl, _⟩ | ⟨_, ⟨_, _, rfl⟩, _⟩
  · rw [List.length_take]; omega
  · have := List.length_eraseIdx_le (l.take i.toNat) g.toNat
    rw [List.length_take] at this; omega
theorem take_next {l : List MT} {i : Int} (h : 0 ≤ i ∧ i < l.length) : l.take (i + 1).toNat = l.take i.toNat ++ [mat l i] := by
  rw [show (i + 1).toNat = i.toNat + 1 from by omega, List.take_add_one]
  unfold mat
  rw [List.getD_eq_getElem?_getD, List.getElem?_eq_getElem (by omega)]
  rfl
theorem UnS.hit {l : List MT} {z : WH} {i g : Int} {u : List MT} (h : UnS l z i g u) (hN : NdM l) (hi : 0 ≤ i ∧ i < l.length) (he : (mat l i).at_ = z) : UnS l z (i + 1) i u := by
  rcases h with ⟨_, rfl, h⟩ | ⟨⟨a, b⟩, ⟨_, c, _⟩, _⟩
  · refine .inr ⟨⟨hi.1, by omega⟩, ⟨by omega, he, ?_⟩, h⟩
    rw [take_next hi, List.eraseIdx_append_of_length_le (by rw [List.length_take]; omega), List.length_take, show i.toNat - min i.toNat l.length = 0 from by omega]
    simp
  · exact absurd (c.trans he.symm) (hN g i a b hi.2)
theorem UnS.miss {l : List MT} {z : WH} {i g : Int} {u : List MT} (h : UnS l z i g u) (hi : 0 ≤ i ∧ i < l.length) (he : (mat l i).at_ ≠ z) : UnS l z (i + 1) g (u ++ [mat l i]) := by
  rcases h with ⟨a, rfl, h⟩ | ⟨⟨a, b⟩, ⟨_, c, rfl⟩, d⟩
  · refine .inl ⟨a, (take_next hi).symm, fun j p q => ?_⟩
    by_cases e : j = i
    · subst e; exact he
    · exact h j p (by omega)
  · refine .inr ⟨⟨a, by omega⟩, ⟨by omega, c, ?_⟩, d⟩
    rw [take_next hi, List.eraseIdx_append_of_lt_length (by rw [List.length_take]; omega)]
theorem UnS.done {l : List MT} {z : WH} {i g : Int} {u : List MT} (h : UnS l z i g u) (hi : i = l.length) (hg : 0 ≤ g ∧ g < l.length) : idxAt l z = g.toNat ∧ u = l.eraseIdx g.toNat := by
  rcases h with ⟨a, _⟩ | ⟨_, ⟨_, c, rfl⟩, d⟩
  · omega
  · refine ⟨idxAt_some hg d c, ?_⟩
    rw [List.take_of_length_le (by omega)]
/-! ### a copy, and back -/
namespace FF
theorem move_held (s : FF) (d : Int → Nat) (n : Int) (x : ByteArray) (to : Int) (y : ByteArray) : (s.move d n x to y).held = s.held := by
  unfold move
  split
  · rfl
  · split
    · rfl
    · split <;> rfl
def addF (F : FF) (f : Int → Int) : FF := { F with held := fun z => F.held z + f z }
theorem addF_0 (F : FF) : addF F (fun _ => 0) = F := by
  unfold addF
  have e : (fun z => F.held z + 0) = F.held := by funext z; omega
  rw [e]
theorem addF_ext (F : FF) {f g : Int → Int} (h : ∀ n, f n = g n) : addF F f = addF F g := by rw [funext h]
theorem addF_hold {F : FF} {f : Int → Int} {z : Int} (hz : F.isE z 0 = 0) : (addF F f).hold z = addF F (fun n => f n + one_ z n) := by
  unfold FF.hold
  rw [if_pos (show (addF F f).isE z 0 = 0 from hz)]
  unfold addF
  have e : fset (fun z => F.held z + f z) z (F.held z + f z + 1) = fun n => F.held n + (f n + one_ z n) := by
    funext n
    by_cases c : n = z
    · subst c; rw [fset_eq, one_self]; omega
    · rw [fset_ne _ _ c, one_ne c]; omega
  show ({ F with held := _ } : FF) = _
  rw [e]
theorem addF_let {F : FF} {d : Int → Nat} (hI : F.Inv d) {f : Int → Int} {z : Int} (hz : F.isE z 0 = 0) (h1 : 1 ≤ f z) : (addF F f).letF z = addF F (fun n => f n - one_ z n) := by
  obtain ⟨i1, i2, i3⟩ := isE_0 hz
  have hn := hI.num z i1 i2
  have hp := hI.pos z i1 i2 i3 (by omega)
  have he : (addF F f).letE z = 0 := by
    unfold letE
    have h9 : ¬ (addF F f).held z = 0 := by show ¬ (F.held z + f z = 0); omega
    rw [if_neg (by rw [show (addF F f).isE z 0 = 0 from hz]; simp), if_neg h9]
  unfold letF
  rw [if_pos he]
  have e : fset (fun z => F.held z + f z) z (F.held z + f z - 1) = fun n => F.held n + (f n - one_ z n) := by
    funext n
    by_cases c : n = z
    · subst c; rw [fset_eq, one_self]; omega
    · rw [fset_ne _ _ c, one_ne c]; omega
  have e2 : ({ addF F f with held := fset (addF F f).held z ((addF F f).held z - 1) } : FF) = addF F (fun n => f n - one_ z n) := by
    show ({ F with held := fset (fun z => F.held z + f z) z (F.held z + f z - 1) } : FF) = _
    rw [e]; rfl
  rw [e2]
  unfold goneF
  rw [if_neg]
  rintro ⟨a, b⟩
  have a : F.links z = 0 := a
  have b : F.held z + (f z - one_ z z) = 0 := b
  rw [one_self] at b
  omega
def liveM (F : FF) (l : List MT) : Prop := ∀ m ∈ l, F.isE m.at_.node 0 = 0 ∧ F.isE m.to.node 0 = 0
theorem holdM_add {F : FF} : ∀ (l : List MT) (f : Int → Int), liveM F l → holdM (addF F f) l = addF F (fun n => f n + mcn l n)
  | [], f, _ => addF_ext F fun n => by simp [mcn]
  | m :: l, f, h => by
    obtain ⟨h1, h2⟩ := h m (List.mem_cons_self ..)
    unfold holdM
    rw [addF_hold h1, addF_hold h2, holdM_add l _ (fun a ha => h a (List.mem_cons_of_mem _ ha))]
    exact addF_ext F fun n => by
      have e : mcn (m :: l) n = one_ m.at_.node n + one_ m.to.node n + mcn l n := rfl
      rw [e]; omega
theorem letM_add {F : FF} {d : Int → Nat} (hI : F.Inv d) : ∀ (l : List MT) (f : Int → Int), liveM F l → (∀ n, 0 ≤ f n) → letM (addF F (fun n => f n + mcn l n)) l = addF F f
  | [], f, _, _ => addF_ext F fun n => by simp [mcn]
  | m :: l, f, h, hf => by
    obtain ⟨h1, h2⟩ := h m (List.mem_cons_self ..)
    have e : ∀ n, mcn (m :: l) n = one_ m.at_.node n + one_ m.to.node n + mcn l n := fun n => rfl
    unfold letM
    rw [addF_let hI h1 (by
        rw [e, one_self]
        have := hf m.at_.node; have := one_nn m.to.node m.at_.node; have := mcn_nn l m.at_.node
        omega),
      addF_let hI h2 (by
        rw [e, one_self]
        have := hf m.to.node; have := mcn_nn l m.to.node
        omega)]
    rw [addF_ext F (g := fun n => f n + mcn l n) (fun n => by rw [e]; omega)]
    exact letM_add hI l f (fun a ha => h a (List.mem_cons_of_mem _ ha)) hf
theorem copy_add {F : FF} {l : List MT} {r : WH} (hr : F.isE r.node 0 = 0) (hl : liveM F l) : copyF F l r = addF F (fun n => tcn r l n) := by
  unfold copyF
  have e := addF_hold (f := fun _ => 0) hr
  rw [addF_0] at e
  rw [e, holdM_add l _ hl]
  exact addF_ext F fun n => by unfold tcn; omega
theorem tclose_add {F : FF} {d : Int → Nat} (hI : F.Inv d) {l : List MT} {r : WH} {f : Int → Int} (hr : F.isE r.node 0 = 0) (hl : liveM F l) (hf : ∀ n, 0 ≤ f n) : tcloseF (addF F (fun n => f n + tcn r l n)) l r = addF F f := by
  unfold tcloseF
  rw [addF_ext F (g := fun n => (f n + one_ r.node n) + mcn l n) (fun n => by unfold tcn; omega), letM_add hI l _ hl (fun n => by have := hf n; have := one_nn r.node n; omega), addF_let hI hr (by rw [one_self]; have := hf r.node; omega)]
  exact addF_ext F fun n => by omega
theorem mcn_mem : ∀ {l : List MT} {m : MT}, m ∈ l → 1 ≤ mcn l m.at_.node ∧ 1 ≤ mcn l m.to.node
  | a :: l, m, h => by
    have n1 := fun n => mcn_nn l n
    have e : ∀ n, mcn (a :: l) n = one_ a.at_.node n + one_ a.to.node n + mcn l n := fun n => rfl
    have o1 := fun n => one_nn a.at_.node n
    have o2 := fun n => one_nn a.to.node n
    rw [e, e]
    rcases List.mem_cons.1 h with q | q
    · subst q
      have := n1 m.at_.node; have := n1 m.to.node; have := o2 m.at_.node; have := o1 m.to.node
      rw [one_self, one_self]; omega
    · have ih := mcn_mem q
      have := o1 m.at_.node; have := o1 m.to.node; have := o2 m.at_.node; have := o2 m.to.node
      omega
end FF
/-- a forest and the one table over it -/
structure StM (F : FF) (B : Int) (r : WH) (l : List MT) : Prop where
  ok : ∃ d, F.Ok d B
  held : F.HF (fun n => FF.tcn r l n)
  rng : FF.rng r l
  nd : NdM l
namespace StM
variable {F G : FF} {B : Int} {r : WH} {l : List MT}
theorem ge {B' : Int} (h : StM F B r l) (hB : B ≤ B') : StM F B' r l := ⟨by obtain ⟨d, o⟩ := h.ok; exact ⟨d, o.inv, fun n a b => Int.le_trans (o.held n a b) hB, Int.le_trans o.nn hB⟩, h.held, h.rng, h.nd⟩
theorem keep (h : StM F B r l) {d : Int → Nat} {B' : Int} (hO : G.Ok d B') (he : ∀ z, 0 ≤ z → z < 40 → G.held z = F.held z) : StM G B' r l := ⟨⟨d, hO⟩, fun n a b => (he n a b).trans (h.held n a b), h.rng, h.nd⟩
theorem bind (h : StM F B r l) {a z : WH} (hG : G = bindF F l a z) : StM G (B + 14) r (bindL F l a z) := by
  obtain ⟨⟨d, hO⟩, hH, hR, hN⟩ := h
  have o2 := hold_ok2 hO l a z
  subst hG
  obtain ⟨q1, q2⟩ := FF.HF.bind (g := fun _ => 0) (a := a) (z := z) (hH.ext fun n => by omega) hR
  exact ⟨⟨d, o2.inv, fun n a b => Int.le_trans (o2.held n a b) (by omega), by have := o2.nn; omega⟩, q1.ext fun n => by omega, q2, hN.bind _ _⟩
theorem unbind (h : StM F B r l) {w : WH} (hG : G = unbindF F l w) : StM G (B + 14) r (unbindL l w) := by
  obtain ⟨⟨d, hO⟩, hH, hR, hN⟩ := h
  have o2 := let_ok2 hO l w
  subst hG
  obtain ⟨q1, q2⟩ := FF.HF.unbind (g := fun _ => 0) (w := w) hO (hH.ext fun n => by omega) hR (fun _ => Int.le_refl _)
  exact ⟨⟨d, o2.inv, fun n a b => Int.le_trans (o2.held n a b) (by omega), by have := o2.nn; omega⟩, q1.ext fun n => by omega, q2, hN.erase _⟩
theorem pivot (h : StM F B r l) {t : Int} (he : F.rootE t = 0) (hG : G = tcloseF (F.hold (F.rootV t)) l r) {d : Int → Nat} (hO2 : G.Ok d (B + 14)) : StM G (B + 14) ⟨t, F.rootV t⟩ [] := by
  obtain ⟨⟨d', hO⟩, hH, hR, hN⟩ := h
  obtain ⟨q1, q2⟩ := FF.HF.pivot (g := fun _ => 0) hO (hH.ext fun n => by omega) hR (fun _ => Int.le_refl _) he
  subst hG
  exact ⟨⟨d, hO2⟩, q1.ext fun n => by omega, q2, NdM.nil⟩
theorem live (h : StM F B r l) : F.isE r.node 0 = 0 ∧ FF.liveM F l := by
  obtain ⟨⟨d, hO⟩, hH, hR, hN⟩ := h
  have al : ∀ z, FF.inR z → 1 ≤ FF.tcn r l z → F.isE z 0 = 0 := fun z hz h1 => FF.range_isE hz (fun q => by
    have := (hO.inv.zero z hz.1 hz.2 q).2
    have := hH z hz.1 hz.2
    simp only at this
    omega)
  refine ⟨al _ hR.1 (by unfold FF.tcn; rw [FF.one_self]; have := FF.mcn_nn l r.node; omega), fun m hm => ?_⟩
  obtain ⟨a, b⟩ := FF.mcn_mem hm
  obtain ⟨c, e⟩ := hR.2 m hm
  exact ⟨al _ c (by unfold FF.tcn; have := FF.one_nn r.node m.at_.node; omega), al _ e (by unfold FF.tcn; have := FF.one_nn r.node m.to.node; omega)⟩
theorem rootE_copy : (copyF F l r).rootE = F.rootE := by
  funext t; unfold FF.rootE; rw [copyF_roots]
theorem rootV_copy (t : Int) : (copyF F l r).rootV t = F.rootV t := by
  unfold FF.rootV; rw [rootE_copy, copyF_roots]
/-- a copy; the old one gone to another tree; and that one closed -/
theorem back (h : StM F B r l) (t : Int) (he : F.rootE t = 0) : tcloseF (tcloseF ((copyF F l r).hold ((copyF F l r).rootV t)) l r) [] ⟨t, (copyF F l r).rootV t⟩ = F := by
  obtain ⟨h1, h2⟩ := h.live
  obtain ⟨d, hO⟩ := h.ok
  obtain ⟨r1, r2⟩ := FF.root_range hO.inv he
  rw [rootV_copy, FF.copy_add h1 h2, FF.addF_hold r2, FF.addF_ext F (g := fun n => FF.one_ (F.rootV t) n + FF.tcn r l n) (fun n => by omega), FF.tclose_add hO.inv h1 h2 (fun n => FF.one_nn _ n),
    FF.addF_ext F (g := fun n => (fun _ => 0) n + FF.tcn ⟨t, F.rootV t⟩ [] n) (fun n => by simp [FF.tcn, FF.mcn]), FF.tclose_add hO.inv r2 (fun m hm => by cases hm) (fun n => Int.le_refl _), FF.addF_0]
theorem back0 (h : StM F B r l) : tcloseF (copyF F l r) l r = F := by
  obtain ⟨h1, h2⟩ := h.live
  obtain ⟨d, hO⟩ := h.ok
  rw [FF.copy_add h1 h2, FF.addF_ext F (g := fun n => (fun _ => 0) n + FF.tcn r l n) (fun n => by show _ = 0 + _; omega), FF.tclose_add hO.inv h1 h2 (fun n => Int.le_refl _), FF.addF_0]
end StM
namespace MTop
def L1 : FF := FF.void.plant
def L2 : FF := L1.make 0 ⟨#[97]⟩ 2
def L3 : FF := L2.hold 0
theorem l1 : L1.makeE 0 ⟨#[97]⟩ 2 = 0 ∧ L1.makeV 0 ⟨#[97]⟩ 2 = 1 := by decide +kernel
theorem l2 : L2.rootE 0 = 0 ∧ L2.rootV 0 = 0 := by decide +kernel
theorem l3 : walkE L3 [] ⟨0, 0⟩ ⟨#[47, 97]⟩ = 0 ∧ walkV L3 [] ⟨0, 0⟩ ⟨#[47, 97]⟩ = ⟨0, 1⟩ := by decide +kernel
theorem stM : StM F3 3 ⟨0, 0⟩ [] := by
  obtain ⟨d1, d2, o1, o2⟩ := MTop.ok
  refine ⟨⟨d2, o2.hold 0⟩, ?_, ⟨show FF.inR 0 from ⟨by omega, by omega⟩, fun m hm => by cases hm⟩, NdM.nil⟩
  · exact (h2.hold is0).ext fun n => by simp only [FF.tcn, FF.mcn]; omega
end MTop
theorem act_agg (x : ActV) : 0 + 8 ≤ 8 ∧ aggOf (encAct x) 0 8 = .agg #[.string x.kind, .int .i64 x.a, .int .i64 x.b, .int .i64 x.c, .int .u64 x.key, .bool x.on, .string x.s, .string x.t] := ⟨by omega, rfl⟩
/-! ### what MountsSays goes through -/
structure MSt where
  s : FC
  m : FC
  bt : Nat
  t : TV
  w : TV
structure MSt.Ok (x : MSt) (B : Int) : Prop where
  u : x.m.toFF = x.s.toFF
  st : StM x.s.toFF B x.t.r x.t.l
  t : x.t.ok
  w : RV.ok ⟨x.w.p, x.w.cap, x.w.k, x.t.l.length, x.w.c, x.w.C⟩
  c : MC x.w.C x.t.l
namespace MTop
def PL (i : Int) : FF := if i = 0 then FF.void else if i = 1 then FF.void.plant else F2
theorem PL_next {i : Int} (h0 : 0 ≤ i) (h : i < 2) : PL (i + 1) = (PL i).plant := by
  rcases (show i = 0 ∨ i = 1 by omega) with rfl | rfl
  · rfl
  · rfl
theorem PL_sh {i : Int} (h0 : 0 ≤ i) (h : i ≤ 2) : (PL i).Sh := by
  obtain ⟨d1, d2, o1, o2⟩ := MTop.ok
  rcases (show i = 0 ∨ i = 1 ∨ i = 2 by omega) with rfl | rfl | rfl
  · exact FF.inv_void.sh (by omega)
  · exact o1.sh (by omega)
  · exact o2.sh (by omega)
theorem v0 : FF.void.rootE 0 = 2 := by decide +kernel
end MTop

end Go.X
