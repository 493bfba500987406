import Derived.Test.YthdinakloheinaaGreatDoorXFn
import Derived.Test.YthdinakloheinaaGreatDoorkVA
import Derived.Test.YthdinakloheinaaGreatDoorkNL
import Derived.Test.YthdinakloheinaaGreatDoorkNKM
import Derived.Test.YthdinakloheinaaGreatDoorkNRM
namespace Go.X.Kn
open Go Go.X
/-! ### the kernel with all that it has: what is asked (KA), and where it lies (KC) -/
structure PA where
  st : Int
  par : Int
  grp : Int
  code : Int
  fd : Int → Int
  bx : Sg.BS
def PA.nil : PA := ⟨0, 0, 0, 0, fun _ => 0, Sg.BS.init⟩
structure KA where
  u : Int → PA
  g : Gr.TG
  s : Sp.SS
  dep : Int → Nat
  v : Vm.VB
  f : Nat → Vm.MS
  P : Tr.PS
  O : Tr.OS
structure TB where
  b : Nat
  r : Tr.WH
  l : List Tr.MT
  p : Option Addr
  cap : Nat
  k : Nat
  c : Nat
  C : Nat → Value
structure TB.Ok (t : TB) : Prop where
  rv : RV.ok ⟨t.p, t.cap, t.k, t.l.length, t.c, t.C⟩
  mc : Tr.MC t.C t.l
  len : t.l.length ≤ 6
structure KZ where
  kb : Nat
  gb : Nat
  sb : Nat
  qb : Nat
  bb : Nat
  tb : Nat
  pi : Nat
  ob : Nat
  vp : Nat
structure KC where
  mb : Nat → Nat
  pp : Nat → Option Addr
  cc : Nat → Nat
  q : Fa.SC
  d : Int → Nat
  F : Tr.FC
  dF : Int → Nat
  rp : Option Addr
  rc : Nat
  rl : List Int
  t : Nat → TB
def PA.pu (p : PA) (b : Nat) : PU := ⟨p.st, p.par, p.grp, p.code, if p.st = 0 then .pointer none else ptr b 0 0, p.fd, p.bx⟩
def kp (a : KA) (b : KZ) (c : KC) : KP := ⟨fun n => (a.u n).pu (c.mb n.toNat), b.gb, b.sb, b.qb, b.bb, b.tb, b.pi, b.ob, fun z => if a.s.here z then ptr (c.t z.toNat).b 0 0 else .pointer none⟩
theorem kp_mem (a : KA) (b : KZ) (c : KC) {n : Int} (h : (a.u n).st ≠ 0) : ((kp a b c).u n).mem = ptr (c.mb n.toNat) 0 0 := by
  show (if (a.u n).st = 0 then Value.pointer none else ptr (c.mb n.toNat) 0 0) = _
  rw [if_neg h]
theorem KP.ext {k k' : KP} (hu : ∀ n, k.u n = k'.u n) (hm : k.ms = k'.ms) (h : (k.gb = k'.gb ∧ k.sb = k'.sb ∧ k.qb = k'.qb ∧ k.bb = k'.bb) ∧ k.tb = k'.tb ∧ k.pi = k'.pi ∧ k.ob = k'.ob) : k = k' := by
  cases k; cases k'
  obtain ⟨⟨h1, h2, h3, h4⟩, h5, h6, h7⟩ := h
  simp only at hm h1 h2 h3 h4 h5 h6 h7 hu
  have e := funext hu
  subst e; subst hm; subst h1; subst h2; subst h3; subst h4; subst h5; subst h6; subst h7
  rfl
/-- one process is another one now -/
theorem kp_put (a : KA) (b : KZ) (c : KC) (n : Int) (p : PA) : (kp a b c).put n (p.pu (c.mb n.toNat)) = kp { a with u := fset a.u n p } b c := by
  refine KP.ext (fun m => ?_) rfl ⟨⟨rfl, rfl, rfl, rfl⟩, rfl, rfl, rfl⟩
  by_cases e : m = n
  · subst e
    rw [KP.put_u]
    show _ = (fset a.u m p m).pu _
    rw [fset_eq]
  · rw [KP.put_ne _ _ e]
    show (a.u m).pu _ = (fset a.u n p m).pu _
    rw [fset_ne _ _ e]
theorem kp_put' (a : KA) (b : KZ) (c : KC) (n : Int) (p : PA) (u : PU) (h : u = p.pu (c.mb n.toNat)) : (kp a b c).put n u = kp { a with u := fset a.u n p } b c := by rw [h, kp_put]
def lvA (a : KA) : Nat → Bool := fun j => decide (j < 20 ∧ (a.u (j : Int)).st ≠ 0)
theorem lvA_at {a : KA} {n : Int} (h : 0 ≤ n ∧ n < 20) (hs : (a.u n).st ≠ 0) : lvA a n.toNat = true := by
  unfold lvA; rw [decide_eq_true_iff]; exact ⟨by omega, by rw [show ((n.toNat : Nat) : Int) = n from by omega]; exact hs⟩
theorem lvA_congr {a a' : KA} (h : ∀ n, 0 ≤ n → n < 20 → ((a.u n).st = 0 ↔ (a'.u n).st = 0)) : lvA a = lvA a' := by
  funext j
  unfold lvA
  rw [decide_eq_decide]
  constructor
  · rintro ⟨x, y⟩; exact ⟨x, fun q => y ((h j (by omega) (by omega)).2 q)⟩
  · rintro ⟨x, y⟩; exact ⟨x, fun q => y ((h j (by omega) (by omega)).1 q)⟩
theorem lvA_gone {a : KA} {n : Int} {p : PA} (h : 0 ≤ n ∧ n < 20) (hp : p.st = 0) : lvA { a with u := fset a.u n p } = outP (lvA a) n.toNat := by
  funext j
  rw [Bool.eq_iff_iff, outP_iff]
  unfold lvA
  rw [decide_eq_true_iff, decide_eq_true_iff]
  show (j < 20 ∧ (fset a.u n p (j : Int)).st ≠ 0) ↔ _
  by_cases e : (j : Int) = n
  · rw [e, fset_eq]
    constructor
    · rintro ⟨_, y⟩; exact absurd hp y
    · rintro ⟨_, y⟩; exact absurd (by omega) y
  · rw [fset_ne _ _ e]
    constructor
    · rintro ⟨x, y⟩; exact ⟨⟨x, y⟩, by omega⟩
    · rintro ⟨⟨x, y⟩, _⟩; exact ⟨x, y⟩
theorem lvA_new {a : KA} {n : Int} {p : PA} (h : 0 ≤ n ∧ n < 20) (hp : p.st ≠ 0) : lvA { a with u := fset a.u n p } = inP (lvA a) n.toNat := by
  funext j
  rw [Bool.eq_iff_iff, inP_iff]
  unfold lvA
  rw [decide_eq_true_iff, decide_eq_true_iff]
  show (j < 20 ∧ (fset a.u n p (j : Int)).st ≠ 0) ↔ _
  by_cases e : (j : Int) = n
  · rw [e, fset_eq]
    constructor
    · rintro _; right; omega
    · rintro _; exact ⟨by omega, hp⟩
  · rw [fset_ne _ _ e]
    constructor
    · rintro ⟨x, y⟩; exact .inl ⟨x, y⟩
    · rintro (⟨x, y⟩ | y)
      · exact ⟨x, y⟩
      · exact absurd y (by omega)
/-- spaces that there are, and their tables -/
def hrA (a : KA) : Nat → Bool := fun j => decide (j < 6) && a.s.here (j : Int)
theorem hrA_iff {a : KA} {j : Nat} : hrA a j = true ↔ j < 6 ∧ a.s.here (j : Int) = true := by simp [hrA]
theorem hrA_at {a : KA} {z : Int} (h : 0 ≤ z ∧ z < 6) (hs : a.s.here z = true) : hrA a z.toNat = true := hrA_iff.2 ⟨by omega, by rw [show ((z.toNat : Nat) : Int) = z from by omega]; exact hs⟩
abbrev cT (tb : Nat) (t : Nat → TB) : Nat → Nat → Value := fun z => Tr.encT tb (t z).r (.slice (t z).p (t z).l.length (t z).c)
abbrev rT (e : TypeId) (t : Nat → TB) : Nat → RowD := fun z => ⟨.slice (t z).p (t z).k (t z).cap, e, 4, (t z).k, newsOf (t z).C ((t z).k * 4)⟩
abbrev famT (P : Nat → Bool) (tb : Nat) (e : TypeId) (t : Nat → TB) : List Ent := [.cfam P (fun z => (t z).b) 4 (cT tb t), .fam P (rT e t)]
abbrev oneT (tb : Nat) (e : TypeId) (t : TB) : List Ent := [.cells t.b 0 4 (Tr.encT tb t.r (.slice t.p t.l.length t.c)), frow t.p t.cap e 4 t.k t.C]
theorem cT_set (tb : Nat) (t : Nat → TB) (z : Nat) (m : TB) : cset (cT tb t) z (Tr.encT tb m.r (.slice m.p m.l.length m.c)) = cT tb (fupd t z m) := by
  funext j
  by_cases q : j = z
  · subst q; rw [cset_eq]; unfold cT; rw [fupd_eq]
  · rw [cset_ne _ _ q]; unfold cT; rw [fupd_ne _ _ q]
theorem rT_set (e : TypeId) (t : Nat → TB) (z : Nat) (m : TB) : rset (rT e t) z ⟨.slice m.p m.k m.cap, e, 4, m.k, newsOf m.C (m.k * 4)⟩ = rT e (fupd t z m) := by
  funext j
  by_cases q : j = z
  · subst q; rw [rset_eq]; unfold rT; rw [fupd_eq]
  · rw [rset_ne _ _ q]; unfold rT; rw [fupd_ne _ _ q]
theorem bT_set (t : Nat → TB) (z : Nat) (m : TB) : bset (fun z => (t z).b) z m.b = fun j => (fupd t z m j).b := by
  funext j
  by_cases q : j = z
  · subst q; rw [bset_eq, fupd_eq]
  · rw [bset_ne _ _ q, fupd_ne _ _ q]
section
variable {W w : World} {S : Nat → Nat → Prop} {H H0 : List Ent} {tb : Nat} {e : TypeId} {t : Nat → TB} {P : Nat → Bool}
theorem XM.outT {z : Nat} (hz : P z = true) (hp : Pick H0 (famT P tb e t) H) (h : XM W S H0 w) : XM W S (.cells (t z).b 0 4 (Tr.encT tb (t z).r (.slice (t z).p (t z).l.length (t z).c)) :: frow (t z).p (t z).cap e 4 (t z).k (t z).C :: .cfam (outP P z) (fun z => (t z).b) 4 (cT tb t) :: .fam (outP P z) (rT e t) :: H) w := by
  have h0 : XM W S (.cfam P (fun z => (t z).b) 4 (cT tb t) :: .fam P (rT e t) :: H) w := h.perm hp.perm
  have h1 := XM.cfamOut z hz h0
  have h2 := h1.perm (Pick.cons (.t2 .here) (Pick.nil)).perm
  simp only [List.cons_append, List.nil_append] at h2
  have h3 := XM.famOut z hz h2
  have h4 := h3.perm (Pick.cons (.t2 .here) (.cons .here (.cons (.there .here) (.cons .here .nil)))).perm
  simp only [List.cons_append, List.nil_append] at h4
  exact h4
theorem XM.newT {z : Nat} (m : TB) (hz : P z = false) (hp : Pick H0 (oneT tb e m ++ famT P tb e t) H) (h : XM W S H0 w) : XM W S (famT (inP P z) tb e (fupd t z m) ++ H) w := by
  have h : XM W S (.cells m.b 0 4 (Tr.encT tb m.r (.slice m.p m.l.length m.c)) :: frow m.p m.cap e 4 m.k m.C :: .cfam P (fun z => (t z).b) 4 (cT tb t) :: .fam P (rT e t) :: H) w := h.perm hp.perm
  have h0 := h.perm (Pick.cons .here (.cons (.there .here) .nil)).perm
  simp only [List.cons_append, List.nil_append] at h0
  have h1 := XM.cfamIn z (by omega) hz h0
  have h2 := h1.perm (Pick.cons (.there .here) (.cons (.there .here) .nil)).perm
  simp only [List.cons_append, List.nil_append] at h2
  have h3 := XM.famIn (x := ⟨.slice m.p m.k m.cap, e, 4, m.k, newsOf m.C (m.k * 4)⟩) z hz h2
  have h4 := h3.perm (Pick.cons (.there .here) (.cons .here .nil)).perm
  simp only [List.cons_append, List.nil_append] at h4
  rw [cT_set, rT_set, bT_set] at h4
  exact h4
theorem XM.backT {z : Nat} (m : TB) (hz : P z = true) (hp : Pick H0 (oneT tb e m ++ famT (outP P z) tb e t) H) (h : XM W S H0 w) : XM W S (famT P tb e (fupd t z m) ++ H) w := by
  have h1 := XM.newT m (outP_at _ _) hp h
  rwa [inout hz] at h1
theorem XM.sameT {z : Nat} (hz : P z = true) (hp : Pick H0 (oneT tb e (t z) ++ famT (outP P z) tb e t) H) (h : XM W S H0 w) : XM W S (famT P tb e t ++ H) w := by
  have h1 := XM.backT (t z) hz hp h
  rwa [fupd_self] at h1
theorem XM.startT {z : Nat} (m : TB) (hp : Pick H0 (oneT tb e m) H) (h : XM W S H0 w) : XM W S (famT (inP (fun _ => false) z) tb e (fupd (fun _ => m) z m) ++ H) w := by
  have h0 : XM W S (oneT tb e m ++ H) w := h.perm hp.perm
  have h1 : XM W S (.cfam (fun _ => false) (fun _ => m.b) 4 (cT tb (fun _ => m)) :: .fam (fun _ => false) (rT e (fun _ => m)) :: .cells m.b 0 4 (Tr.encT tb m.r (.slice m.p m.l.length m.c)) :: frow m.p m.cap e 4 m.k m.C :: H) w := XM.cfamNil (XM.famNil h0)
  exact XM.newT m rfl (Pick.cons (.t2 .here) (.cons (.t2 .here) (.cons .here (.cons .here .nil)))) h1
end
/-! ### what holds all the time -/
structure KA.Wk (a : KA) (T : Int) : Prop where
  T0 : 0 ≤ T ∧ T ≤ 1000000
  gI : a.g.Inv
  gS : a.g.Small (1000 * T)
  sI : a.s.Inv a.dep
  sys : Vm.Sys a.v a.f 20
  nilf : ∀ n, 0 ≤ n → n < 20 → (a.u n).st ≠ 1 → a.f n.toNat = Vm.MS.nil
  PI : a.P.Inv T
  OI : a.O.Inv T
  lc : ∀ n, 0 ≤ n → n < 20 → ((a.u n).st ≠ 0 ↔ 0 ≤ a.s.loc n)
  st : ∀ n, (a.u n).st = 0 ∨ (a.u n).st = 1 ∨ (a.u n).st = 2
  out : ∀ n, (n < 0 ∨ 20 ≤ n) → a.u n = PA.nil
  fd : ∀ n i, 0 ≤ (a.u n).fd i ∧ (a.u n).fd i ≤ 24
  bx : ∀ n, (a.u n).bx.wait 0 = false
structure Con (a : KA) (c : KC) (N : Nat) (T : Int) : Prop where
  qO : c.q.toSF.Ok c.d N N
  qR : c.q.Rep
  F : c.F.toFF.Ok c.dF T
  rp : c.F.rP = c.rp
  rc : c.F.rC = c.rc
  rl : c.F.roots = c.rl
  tb : ∀ z, 0 ≤ z → z < 6 → a.s.here z = true → (c.t z.toNat).Ok
theorem FF.Ok.up {s : Tr.FF} {d : Int → Nat} {B B' : Int} (h : s.Ok d B) (hB : B ≤ B') : s.Ok d B' := ⟨h.inv, fun n a b => Int.le_trans (h.held n a b) hB, Int.le_trans h.nn hB⟩
theorem KA.Wk.up {a : KA} {T T' : Int} (h : a.Wk T) (hT : T ≤ T') (hT' : T' ≤ 1000000) : a.Wk T' := ⟨⟨by have := h.T0; omega, hT'⟩, h.gI, h.gS.mono (by omega), h.sI, h.sys, h.nilf, h.PI.mono hT, h.OI.mono hT, h.lc, h.st, h.out, h.fd, h.bx⟩
theorem Con.up {a : KA} {c : KC} {N N' : Nat} {T T' : Int} (h : Con a c N T) (hN : N ≤ N') (hT : T ≤ T') : Con a c N' T' := ⟨h.qO.mono hN (by omega), h.qR, FF.Ok.up h.F hT, h.rp, h.rc, h.rl, h.tb⟩
theorem Con.sh {a : KA} {c : KC} {N : Nat} {T : Int} (h : Con a c N T) (hT : T ≤ 1000000) : c.F.toFF.Sh := h.F.sh hT
/-! ### what is let go makes nothing greater -/
theorem letF_held (s : Tr.FF) (n m : Int) : (s.letF n).held m ≤ s.held m ∨ (s.letF n).held m = 0 := by
  unfold Tr.FF.letF
  split
  · have e : fset s.held n (s.held n - 1) m ≤ s.held m := by
      by_cases c : m = n
      · subst c; rw [fset_eq]; omega
      · rw [fset_ne _ _ c]; omega
    unfold Tr.FF.goneF
    split
    · by_cases c : m = n
      · right; subst c; exact fset_eq _ _ _
      · left; exact Int.le_trans (Int.le_of_eq (fset_ne _ _ c)) e
    · exact .inl e
  · exact .inl (Int.le_refl _)
theorem FF.Ok.let0 {s : Tr.FF} {d : Int → Nat} {B : Int} (h : s.Ok d B) (n : Int) : (s.letF n).Ok d B :=
  ⟨(h.letF n).inv, fun m a b => by
    have h1 := h.held m a b
    have h2 := h.nn
    rcases letF_held s n m with q | q <;> omega, h.nn⟩
theorem FF.Ok.letM0 : ∀ (l : List Tr.MT) {s : Tr.FF} {d : Int → Nat} {B : Int}, s.Ok d B → (Tr.letM s l).Ok d B
  | [], _, _, _, h => h
  | m :: r, _, _, _, h => FF.Ok.letM0 r (FF.Ok.let0 (FF.Ok.let0 h _) _)
theorem FF.Ok.tclose0 {s : Tr.FF} {d : Int → Nat} {B : Int} (h : s.Ok d B) (l : List Tr.MT) (r : Tr.WH) : (Tr.tcloseF s l r).Ok d B := FF.Ok.let0 (FF.Ok.letM0 l h) _
theorem FF.Ok.close0 {s : Tr.FF} {d : Int → Nat} {B : Int} (h : s.Ok d B) (O : Tr.OS) (n : Int) : (Tr.closeF s O n).Ok d B := by
  unfold Tr.closeF; split
  · exact FF.Ok.let0 h _
  · exact h
theorem OS.Inv.close0 {O : Tr.OS} {J : Int} (h : O.Inv J) (n : Int) : (Tr.closeO O n).Inv J := by
  have hm := h.close n
  refine ⟨fun m a b => ?_, hm.at_, hm.kind, hm.write⟩
  have h1 := (hm.refs m a b).1
  have h2 := (h.refs m a b)
  refine ⟨h1, ?_⟩
  unfold Tr.closeO
  split
  · exact h2.2
  · split
    · show fset O.refs n (O.refs n - 1) m ≤ J
      by_cases c : m = n
      · subst c; rw [fset_eq]; omega
      · rw [fset_ne _ _ c]; exact h2.2
    · show fset O.refs n 0 m ≤ J
      by_cases c : m = n
      · subst c; rw [fset_eq]; omega
      · rw [fset_ne _ _ c]; exact h2.2
theorem PS.turn0 {P : Tr.PS} {K : Int} (h : P.Inv K) (n : Int) (w : Bool) : (P.turn n w (-1)).2.Inv K := by
  have hm := Tr.PS.turn_inv (n := n) (w := w) h (.inr rfl)
  have key : ∀ m k, (P.turn n w (-1)).2.e m k ≤ P.e m k := fun m k => by
    unfold Tr.PS.turn
    split
    · exact Int.le_refl _
    · split
      · exact Int.le_refl _
      · show fset2 P.e n (Tr.sel w) (P.e n (Tr.sel w) + -1) m k ≤ _
        unfold fset2
        split
        · rename_i c; rw [c.1, c.2]; omega
        · exact Int.le_refl _
  exact ⟨fun m => ⟨(hm.e0 m).1, Int.le_trans (key m 0) (h.e0 m).2⟩, fun m => ⟨(hm.e1 m).1, Int.le_trans (key m 1) (h.e1 m).2⟩, hm.cl, hm.len⟩
theorem PS.close0 {P : Tr.PS} {K : Int} (h : P.Inv K) (O : Tr.OS) (n : Int) : (Tr.closeP P O n).Inv K := by
  unfold Tr.closeP; split
  · exact PS.turn0 h _ _
  · exact h
theorem TG.unch0 {g : Gr.TG} {B : Int} (h : g.Inv) (hS : g.Small B) (n p m : Int) : (g.unch n p m).Small B := by
  have hI := h.unch n p m
  intro y y0 y1
  have h1 := hS y y0 y1
  unfold Gr.TG.unch at hI ⊢
  split
  · rename_i c
    rw [if_pos c] at hI
    obtain ⟨⟨n0, n1, n2⟩, p0, p1, m0, m1⟩ := Gr.TG.unchE_0 c
    have hw := h.ok.way n0 n1 n2
    show -B ≤ g.pr y + -p * ((g.way n).count y : Int) ∧ g.pr y + -p * ((g.way n).count y : Int) ≤ B ∧ -B ≤ g.pg y + -m * ((g.way n).count y : Int) ∧ g.pg y + -m * ((g.way n).count y : Int) ≤ B
    have k0 : (0 : Int) ≤ ((g.way n).count y : Int) := by omega
    have e1 : 0 ≤ p * ((g.way n).count y : Int) := Int.mul_nonneg (by omega) k0
    have e2 : 0 ≤ m * ((g.way n).count y : Int) := Int.mul_nonneg (by omega) k0
    have e3 : -p * ((g.way n).count y : Int) = -(p * ((g.way n).count y : Int)) := Int.neg_mul _ _
    have e4 : -m * ((g.way n).count y : Int) = -(m * ((g.way n).count y : Int)) := Int.neg_mul _ _
    by_cases q : y ∈ g.way n
    · have hn := hI.nn y0 y1 (hw.2.2 y q)
      have hn1 : 0 ≤ g.pr y + -p * ((g.way n).count y : Int) ∧ 0 ≤ g.pg y + -m * ((g.way n).count y : Int) := hn
      omega
    · have z : (g.way n).count y = 0 := List.count_eq_zero.2 q
      rw [z]; simp only [Int.ofNat_zero, Int.mul_zero, Int.natCast_zero] at *
      simp; omega
  · exact h1
theorem mem_membersL {f : Int → Int} {x : Int} : ∀ {k : Nat}, x ∈ Sp.membersL f k ↔ ∃ j : Int, 0 ≤ j ∧ j < k ∧ 0 ≤ f j ∧ f j = x
  | 0 => by simp [Sp.membersL]; omega
  | k + 1 => by
    rw [Sp.membersL, List.mem_append, mem_membersL]
    constructor
    · rintro (⟨j, a, b, c, d⟩ | h)
      · exact ⟨j, a, by omega, c, d⟩
      · split at h
        · rename_i q
          exact ⟨k, by omega, by omega, q, (List.mem_singleton.1 h).symm⟩
        · cases h
    · rintro ⟨j, a, b, c, d⟩
      by_cases e : j = (k : Int)
      · subst e
        right; rw [if_pos c]; exact List.mem_singleton.2 d.symm
      · exact .inl ⟨j, a, by omega, c, d⟩
theorem membersL_nodup {f : Int → Int} (hi : ∀ q q', 0 ≤ f q → f q' = f q → q' = q) : ∀ k : Nat, (Sp.membersL f k).Nodup
  | 0 => List.nodup_nil
  | k + 1 => by
    rw [Sp.membersL]
    split
    · rename_i c
      refine List.nodup_append.2 ⟨membersL_nodup hi k, List.nodup_cons.2 ⟨by simp, List.nodup_nil⟩, fun x hx y hy => ?_⟩
      rw [List.mem_singleton.1 hy]
      rintro rfl
      obtain ⟨j, a, b, _, d⟩ := mem_membersL.1 hx
      have := hi k j c d
      omega
    · rw [List.append_nil]; exact membersL_nodup hi k
theorem SS.mem_nodup {s : Sp.SS} {dep : Int → Nat} (h : s.Inv dep) (z : Int) : (s.mem z).1.Nodup := by
  unfold Sp.SS.mem
  split
  · exact List.nodup_nil
  · exact membersL_nodup (fun q q' a b => h.inj z q q' a b) 21
theorem SS.drop_loc (s : Sp.SS) (z : Int) : (s.drop z).2.loc = s.loc := by
  unfold Sp.SS.drop
  split
  · rfl
  · split
    · rfl
    · split <;> rfl
theorem SS.leave_loc {s : Sp.SS} {p : Int} (hp : 0 ≤ p ∧ p < 20) : (s.leave p).2.loc p < 0 := by
  unfold Sp.SS.leave
  split
  · rename_i c
    unfold Sp.SS.in_ at c
    rw [if_neg (by omega)] at c
    split at c
    · assumption
    · exact absurd rfl c
  · show fset s.loc p (-1) p < 0
    rw [fset_eq]; omega
theorem SS.leave_ne (s : Sp.SS) {p m : Int} (h : m ≠ p) : (s.leave p).2.loc m = s.loc m := by
  unfold Sp.SS.leave
  split
  · rfl
  · exact fset_ne _ _ h
theorem SS.drop_cases (s : Sp.SS) (z : Int) : ((s.drop z).1 ≠ 0 ∧ (s.drop z).2 = s) ∨ ((s.drop z).1 = 0 ∧ (0 ≤ z ∧ z < 6) ∧ z ≠ 0 ∧ s.here z = true ∧ (s.drop z).2 = { s with here := fset s.here z false, par := fset s.par z 0 } ∧ (∀ j, s.who z j < 0 ∨ ¬ (0 ≤ j ∧ j < 21)) ∧ ∀ j : Int, 0 ≤ j → j < 6 → ¬ (s.here j = true ∧ s.par j = z)) := by
  by_cases h : (s.drop z).1 = 0
  · right
    refine ⟨h, ?_⟩
    unfold Sp.SS.drop at h ⊢
    split at h
    · rename_i c; exact absurd h c
    · rename_i c
      have hi : (0 ≤ z ∧ z < 6) ∧ s.here z = true := by
        have c : s.is z = 0 := by omega
        unfold Sp.SS.is at c
        split at c
        · omega
        · split at c
          · exact ⟨by omega, by assumption⟩
          · omega
      rw [if_neg c]
      split at h
      · simp at h
      · rename_i d
        rw [if_neg d]
        split at h
        · simp at h
        · rename_i e
          refine ⟨hi.1, fun q => d (.inl q), hi.2, rfl, fun j => ?_, fun j j0 j1 q => ?_⟩
          · by_cases q : 0 ≤ j ∧ j < 21
            · left
              refine Decidable.byContradiction fun r => d (.inr ?_)
              have : s.who z j ∈ s.members z := mem_membersL.2 ⟨j, by omega, by omega, by omega, rfl⟩
              exact List.length_pos_of_mem this
            · exact .inr q
          · unfold Sp.SS.kids at e
            have := Vm.firstN_none_spec e j j0 (by omega)
            simp [q.1, q.2] at this
  · exact .inl ⟨h, SS.drop_no h⟩
/-! ### the end of a process -/
/-- a process's numbers, those before i let go -/
def fdZ (f : Int → Int) (i : Int) : Int → Int := fun j => if 0 ≤ j ∧ j < i ∧ f j > 0 then 0 else f j
theorem fdZ_0 (f : Int → Int) : fdZ f 0 = f := by funext j; unfold fdZ; rw [if_neg (by omega)]
theorem fdZ_hit (f : Int → Int) {i : Int} (hi : 0 ≤ i) (h : f i > 0) : fset (fdZ f i) i 0 = fdZ f (i + 1) := by
  funext j
  by_cases c : j = i
  · subst c; rw [fset_eq]; unfold fdZ; rw [if_pos ⟨hi, by omega, h⟩]
  · rw [fset_ne _ _ c]; unfold fdZ
    by_cases e : 0 ≤ j ∧ j < i ∧ f j > 0
    · rw [if_pos e, if_pos ⟨e.1, by omega, e.2.2⟩]
    · rw [if_neg e, if_neg (fun q => e ⟨q.1, by omega, q.2.2⟩)]
theorem fdZ_miss (f : Int → Int) {i : Int} (h : ¬ f i > 0) : fdZ f i = fdZ f (i + 1) := by
  funext j
  unfold fdZ
  by_cases e : 0 ≤ j ∧ j < i ∧ f j > 0
  · rw [if_pos e, if_pos ⟨e.1, by omega, e.2.2⟩]
  · rw [if_neg e, if_neg (fun q => by
      by_cases c : j = i
      · subst c; exact h q.2.2
      · exact e ⟨q.1, by omega, q.2.2⟩)]
def clN (f : Int → Int) (O : Tr.OS) (P : Tr.PS) : Nat → Tr.OS × Tr.PS
  | 0 => (O, P)
  | k + 1 => if f (k : Int) > 0 then (Tr.closeO (clN f O P k).1 (f (k : Int) - 1), Tr.closeP (clN f O P k).2 (clN f O P k).1 (f (k : Int) - 1)) else clN f O P k
theorem clN_hit {f : Int → Int} (O : Tr.OS) (P : Tr.PS) {i : Int} (hi : 0 ≤ i) (h : f i > 0) : clN f O P (i + 1).toNat = (Tr.closeO (clN f O P i.toNat).1 (f i - 1), Tr.closeP (clN f O P i.toNat).2 (clN f O P i.toNat).1 (f i - 1)) := by
  rw [show (i + 1).toNat = i.toNat + 1 by omega]
  conv => lhs; unfold clN
  rw [show ((i.toNat : Nat) : Int) = i by omega, if_pos h]
theorem clN_miss {f : Int → Int} (O : Tr.OS) (P : Tr.PS) {i : Int} (hi : 0 ≤ i) (h : ¬ f i > 0) : clN f O P (i + 1).toNat = clN f O P i.toNat := by
  rw [show (i + 1).toNat = i.toNat + 1 by omega]
  conv => lhs; unfold clN
  rw [show ((i.toNat : Nat) : Int) = i by omega, if_neg h]
theorem clN_inv {f : Int → Int} {O : Tr.OS} {P : Tr.PS} {T : Int} (hO : O.Inv T) (hP : P.Inv T) : ∀ k : Nat, (clN f O P k).1.Inv T ∧ (clN f O P k).2.Inv T
  | 0 => ⟨hO, hP⟩
  | k + 1 => by
    obtain ⟨h1, h2⟩ := clN_inv (f := f) hO hP k
    unfold clN
    split
    · exact ⟨OS.Inv.close0 h1 _, PS.close0 h2 _ _⟩
    · exact ⟨h1, h2⟩
/-- all of a memory is unmapped -/
abbrev KA.um (a : KA) (n : Int) : Int × Int × Vm.VB × Vm.MS := (a.f n.toNat).unmap a.v 0 16
theorem unmap_all {m : Vm.MS} (h : m.Ok) (v : Vm.VB) : (m.unmap v 0 16).2.2.2 = Vm.MS.nil := by
  unfold Vm.MS.unmap
  rw [if_neg (by decide)]
  have e : ∀ {α : Type} (f : Int → α) (v : α), (∀ i, i < 0 ∨ 16 ≤ i → f i = v) → Vm.setI f 0 16 v = fun _ => v := fun f v h => by
    funext i; unfold Vm.setI; split
    · rfl
    · exact h i (by omega)
  have h1 : ∀ i, i < 0 ∨ 16 ≤ i → m.fr i = 0 := fun i hi => h.un i (h.f.out i hi)
  show Vm.MS.mk _ _ _ = _
  rw [e m.is_ 0 h.f.out, e m.fr 0 h1, e m.own false (fun i hi => h.ow i (h1 i hi))]
  rfl
def KA.endA (a : KA) (n co : Int) : KA :=
  { a with u := fset a.u n { a.u n with st := 2, code := co, fd := fdZ (a.u n).fd 6 }, g := a.g.unch (a.u n).grp 0 (a.um n).1, v := (a.um n).2.2.1, f := (fupd a.f n.toNat (a.um n).2.2.2), O := (clN (a.u n).fd a.O a.P 6).1, P := (clN (a.u n).fd a.O a.P 6).2 }
theorem fset_at {α : Type} (f : Int → α) (n m : Int) (x : α) {Q : α → Prop} (h1 : m = n → Q x) (h2 : m ≠ n → Q (f m)) : Q (fset f n x m) := by
  by_cases e : m = n
  · subst e; rw [fset_eq]; exact h1 rfl
  · rw [fset_ne _ _ e]; exact h2 e
theorem KA.Wk.endA {a : KA} {T : Int} (h : a.Wk T) {n : Int} (hn : 0 ≤ n ∧ n < 20) (hl : (a.u n).st = 1) (co : Int) : (a.endA n co).Wk T where
  T0 := h.T0
  gI := h.gI.unch _ _ _
  gS := TG.unch0 h.gI h.gS _ _ _
  sI := h.sI
  sys := h.sys.unmap (z := n.toNat) (by omega) 0 16
  nilf := fun m h0 h1 h2 => by
    show fupd a.f n.toNat (a.um n).2.2.2 m.toNat = _
    by_cases e : m = n
    · subst e; rw [fupd_eq]; exact unmap_all (h.sys.mo _ (by omega)) _
    · rw [fupd_ne _ _ (by omega)]
      refine h.nilf m h0 h1 (fun q => h2 ?_)
      show (fset a.u n _ m).st = 1
      rw [fset_ne _ _ e]; exact q
  PI := (clN_inv (f := (a.u n).fd) h.OI h.PI 6).2
  OI := (clN_inv (f := (a.u n).fd) h.OI h.PI 6).1
  lc := fun m a0 a1 => fset_at a.u n m _ (Q := fun x => x.st ≠ 0 ↔ 0 ≤ a.s.loc m) (fun e => by
    subst e; exact ⟨fun _ => (h.lc m a0 a1).1 (by omega), fun _ => (by decide : (2 : Int) ≠ 0)⟩) (fun _ => h.lc m a0 a1)
  st := fun m => fset_at a.u n m _ (Q := fun x => x.st = 0 ∨ x.st = 1 ∨ x.st = 2) (fun _ => .inr (.inr rfl)) (fun _ => h.st m)
  out := fun m hm => by
    show fset a.u n _ m = _
    rw [fset_ne _ _ (by omega)]; exact h.out m hm
  fd := fun m i => fset_at a.u n m _ (Q := fun x => 0 ≤ x.fd i ∧ x.fd i ≤ 24) (fun _ => by
    have := h.fd n i
    show 0 ≤ fdZ _ 6 i ∧ fdZ _ 6 i ≤ 24
    unfold fdZ; split <;> omega) (fun _ => h.fd m i)
  bx := fun m => fset_at a.u n m _ (Q := fun x => x.bx.wait 0 = false) (fun _ => h.bx n) (fun _ => h.bx m)
def KA.awayA (a : KA) (n : Int) : KA := { a with u := fset a.u n PA.nil, g := a.g.unch (a.u n).grp 1 0, s := (a.s.leave n).2 }
theorem KA.Wk.awayA {a : KA} {T : Int} (h : a.Wk T) {n : Int} (hn : 0 ≤ n ∧ n < 20) (hs : (a.u n).st ≠ 1) : (a.awayA n).Wk T where
  T0 := h.T0
  gI := h.gI.unch _ _ _
  gS := TG.unch0 h.gI h.gS _ _ _
  sI := h.sI.leave _
  sys := h.sys
  nilf := fun m h0 h1 h2 => by
    by_cases e : m = n
    · subst e; exact h.nilf m h0 h1 hs
    · refine h.nilf m h0 h1 (fun q => h2 ?_)
      show (fset a.u n _ m).st = 1
      rw [fset_ne _ _ e]; exact q
  PI := h.PI
  OI := h.OI
  lc := fun m a0 a1 => by
    show (fset a.u n PA.nil m).st ≠ 0 ↔ 0 ≤ (a.s.leave n).2.loc m
    by_cases e : m = n
    · subst e
      rw [fset_eq]
      exact ⟨fun q => absurd rfl q, fun q => absurd q (by have := SS.leave_loc (s := a.s) (p := m) hn; omega)⟩
    · rw [fset_ne _ _ e, SS.leave_ne _ e]; exact h.lc m a0 a1
  st := fun m => fset_at a.u n m _ (Q := fun x => x.st = 0 ∨ x.st = 1 ∨ x.st = 2) (fun _ => .inl rfl) (fun _ => h.st m)
  out := fun m hm => fset_at a.u n m _ (Q := fun x => x = PA.nil) (fun _ => rfl) (fun _ => h.out m hm)
  fd := fun m i => fset_at a.u n m _ (Q := fun x => 0 ≤ x.fd i ∧ x.fd i ≤ 24) (fun _ => by simp [PA.nil]) (fun _ => h.fd m i)
  bx := fun m => fset_at a.u n m _ (Q := fun x => x.bx.wait 0 = false) (fun _ => rfl) (fun _ => h.bx m)
def KA.shutA (a : KA) (z : Int) : KA := { a with s := (a.s.drop z).2 }
theorem KA.Wk.shutA {a : KA} {T : Int} (h : a.Wk T) (z : Int) : (a.shutA z).Wk T := ⟨h.T0, h.gI, h.gS, h.sI.drop z, h.sys, h.nilf, h.PI, h.OI, (fun n a0 a1 => by rw [show (a.shutA z).s.loc = a.s.loc from SS.drop_loc _ _]; exact h.lc n a0 a1), h.st, h.out, h.fd, h.bx⟩
/-! ### small things -/
def slotF (f : Int → Int) (a : Int) : Int := match firstN (fun k => decide (a ≤ k) && (f k == 0)) 6 with
  | some k => k
  | none => -1
theorem slotF_hit {f : Int → Int} {a i : Int} (h0 : 0 ≤ i ∧ a ≤ i ∧ i < 6) (h1 : f i = 0) (hn : ∀ j : Int, 0 ≤ j → a ≤ j → j < i → f j ≠ 0) : slotF f a = i := by
  unfold slotF
  have e : firstN (fun k => decide (a ≤ k) && (f k == 0)) 6 = some i.toNat := by
    refine firstN_some (k := i) h0.1 (by omega) ?_ (fun j hj0 hj => ?_)
    · simp [h0.2.1, h1]
    · by_cases c : a ≤ j
      · have := hn j hj0 c hj; simp [this]
      · simp [c]
  rw [e]; show ((i.toNat : Nat) : Int) = i; omega
theorem slotF_none {f : Int → Int} {a : Int} (hn : ∀ j : Int, 0 ≤ j → a ≤ j → j < 6 → f j ≠ 0) : slotF f a = -1 := by
  unfold slotF
  rw [firstN_none (fun j hj0 hj => by
    by_cases c : a ≤ j
    · have := hn j hj0 c (by omega); simp [this]
    · simp [c])]
def KP.openE (k : KP) (n i : Int) : Int := if k.live n ≠ 0 then k.live n else if i < 0 ∨ 6 ≤ i then 1 else if (k.u n).fd i = 0 then 2 else 0
def KP.openV (k : KP) (n i : Int) : Int := if k.openE n i = 0 then (k.u n).fd i - 1 else 0
theorem KP.open_0 {k : KP} {n i : Int} (h : k.openE n i = 0) : (0 ≤ n ∧ n < 20) ∧ (k.u n).st = 1 ∧ (0 ≤ i ∧ i < 6) ∧ (k.u n).fd i ≠ 0 ∧ k.openV n i = (k.u n).fd i - 1 := by
  have hv : k.openV n i = (k.u n).fd i - 1 := by unfold KP.openV; rw [if_pos h]
  unfold KP.openE at h
  split at h
  · omega
  · split at h
    · omega
    · split at h
      · omega
      · have := KP.live_rng (k := k) (n := n) (by omega)
        exact ⟨this.1, this.2, by omega, by assumption, hv⟩
theorem kp_fd0 (a : KA) (b : KZ) (c : KC) (n : Int) : (kp a b c).put n { (kp a b c).u n with fd := fdZ (a.u n).fd 0 } = kp a b c := by
  rw [fdZ_0]; exact KP.put_self _ _
theorem kp_fd1 (a : KA) (b : KZ) (c : KC) {n i : Int} (hi : 0 ≤ i) (h : (a.u n).fd i > 0) : ((kp a b c).put n { (kp a b c).u n with fd := fdZ (a.u n).fd i }).put n { ((kp a b c).put n { (kp a b c).u n with fd := fdZ (a.u n).fd i }).u n with fd := fset (((kp a b c).put n { (kp a b c).u n with fd := fdZ (a.u n).fd i }).u n).fd i 0 } = (kp a b c).put n { (kp a b c).u n with fd := fdZ (a.u n).fd (i + 1) } := by
  rw [KP.put_put, KP.put_u]
  show (kp a b c).put n { (kp a b c).u n with fd := fset (fdZ (a.u n).fd i) i 0 } = _
  rw [fdZ_hit _ hi h]
theorem kp_end (a : KA) (b : KZ) (c : KC) {n co : Int} (hl : (a.u n).st = 1) (hn : 0 ≤ n ∧ n < 20) (K : KP) (hK : K = (kp a b c).put n { (kp a b c).u n with fd := fdZ (a.u n).fd 6 }) : (K.put n { K.u n with st := 2 }).put n { (K.put n { K.u n with st := 2 }).u n with code := co } = kp (a.endA n co) b c := by
  subst hK
  rw [KP.put_u, KP.put_put, KP.put_put, KP.put_u]
  refine (kp_put' a b c n { a.u n with st := 2, code := co, fd := fdZ (a.u n).fd 6 } _ ?_).trans rfl
  show PU.mk 2 (a.u n).par (a.u n).grp co (if (a.u n).st = 0 then _ else _) _ _ = PU.mk 2 (a.u n).par (a.u n).grp co (if (2 : Int) = 0 then _ else _) _ _
  rw [if_neg (by omega), if_neg (by omega)]
  rfl
theorem lvA_end (a : KA) {n co : Int} (hl : (a.u n).st = 1) : lvA (a.endA n co) = lvA a := by
  refine (lvA_congr fun m _ _ => ?_).symm
  show (a.u m).st = 0 ↔ (fset a.u n _ m).st = 0
  by_cases e : m = n
  · subst e; rw [fset_eq]; constructor
    · intro q; omega
    · intro q; exact absurd (show (2 : Int) = 0 from q) (by decide)
  · rw [fset_ne _ _ e]
theorem kp_away (a : KA) (b : KZ) (c : KC) (n : Int) : (kp a b c).put n PU.nil = kp (a.awayA n) b c := by
  refine KP.ext (fun m => ?_) ?_ ⟨⟨rfl, rfl, rfl, rfl⟩, rfl, rfl, rfl⟩
  · by_cases e : m = n
    · subst e
      rw [KP.put_u]
      show _ = (fset a.u m PA.nil m).pu _
      rw [fset_eq]; rfl
    · rw [KP.put_ne _ _ e]
      show (a.u m).pu _ = (fset a.u n PA.nil m).pu _
      rw [fset_ne _ _ e]
  · have e : (a.s.leave n).2.here = a.s.here := by unfold Sp.SS.leave; split <;> rfl
    show _ = fun z => if (a.s.leave n).2.here z then _ else _
    rw [e]; rfl
theorem SS.leave_here (s : Sp.SS) (n : Int) : (s.leave n).2.here = s.here := by unfold Sp.SS.leave; split <;> rfl
theorem hrA_away (a : KA) (n : Int) : hrA (a.awayA n) = hrA a := by
  unfold hrA
  rw [show (a.awayA n).s.here = a.s.here from SS.leave_here _ _]
theorem lvA_away (a : KA) {n : Int} (hn : 0 ≤ n ∧ n < 20) : lvA (a.awayA n) = outP (lvA a) n.toNat := (lvA_congr fun _ _ _ => Iff.rfl).trans (lvA_gone (p := PA.nil) hn rfl)
theorem hrA_shut {a : KA} {z : Int} (hz : 0 ≤ z ∧ z < 6) (h : (a.s.drop z).2 = { a.s with here := fset a.s.here z false, par := fset a.s.par z 0 }) : hrA (a.shutA z) = outP (hrA a) z.toNat := by
  funext j
  rw [Bool.eq_iff_iff, outP_iff, hrA_iff, hrA_iff]
  show j < 6 ∧ (a.s.drop z).2.here j = true ↔ _
  rw [h]
  show j < 6 ∧ fset a.s.here z false j = true ↔ _
  by_cases e : (j : Int) = z
  · rw [e, fset_eq]
    constructor
    · rintro ⟨_, q⟩; cases q
    · rintro ⟨_, q⟩; exact absurd (by omega) q
  · rw [fset_ne _ _ e]
    constructor
    · rintro ⟨x, y⟩; exact ⟨⟨x, y⟩, by omega⟩
    · rintro ⟨x, _⟩; exact x
theorem kp_ms (a : KA) (b : KZ) (c : KC) {z : Int} (h : a.s.here z = true) : (kp a b c).ms z = ptr (c.t z.toNat).b 0 0 := if_pos h
theorem kp_shut (a : KA) (b : KZ) (c : KC) {z : Int} (h : (a.s.drop z).2 = { a.s with here := fset a.s.here z false, par := fset a.s.par z 0 }) : ({ kp a b c with ms := fset (kp a b c).ms z (.pointer none) } : KP) = kp (a.shutA z) b c := by
  refine KP.ext (fun m => rfl) ?_ ⟨⟨rfl, rfl, rfl, rfl⟩, rfl, rfl, rfl⟩
  show fset (kp a b c).ms z (.pointer none) = fun y => if (a.s.drop z).2.here y then ptr (c.t y.toNat).b 0 0 else .pointer none
  rw [h]
  funext y
  by_cases e : y = z
  · subst e
    rw [fset_eq]
    show _ = if fset a.s.here y false y = true then _ else _
    rw [fset_eq]; rfl
  · rw [fset_ne _ _ e]
    show (if a.s.here y then _ else _) = if fset a.s.here z false y = true then _ else _
    rw [fset_ne _ _ e]
/-! ### a space is emptied -/
def KA.stepE (h : Int) (a : KA) (m : Int) : KA := if m = h then a else (if (a.u m).st = 1 then a.endA m 0 else a).awayA m
def KA.round (a : KA) : KA := (Sp.allL a.s.here 6).foldl KA.shutA a
def KA.members (a : KA) (z h : Int) : KA := (a.s.mem z).1.foldl (KA.stepE h) a
def KA.rounds (a : KA) : Nat → KA
  | 0 => a
  | k + 1 => (a.rounds k).round
def KA.emptyA (a : KA) (z h : Int) : KA := (a.members z h).rounds 4
theorem foldl_snoc {α β : Type} (f : α → β → α) (a : α) (l : List β) (x : β) : (l ++ [x]).foldl f a = f (l.foldl f a) x := by rw [List.foldl_append]; rfl
theorem endA_ne (a : KA) {n m : Int} (co : Int) (h : m ≠ n) : (a.endA n co).u m = a.u m := fset_ne _ _ h
theorem awayA_ne (a : KA) {n m : Int} (h : m ≠ n) : (a.awayA n).u m = a.u m := fset_ne _ _ h
theorem stepE_ne (a : KA) (h : Int) {n m : Int} (e : m ≠ n) : (a.stepE h n).u m = a.u m := by
  unfold KA.stepE
  split
  · rfl
  · rw [awayA_ne _ e]
    split
    · exact endA_ne _ _ e
    · rfl
theorem endA_st (a : KA) (n co : Int) : ((a.endA n co).u n).st = 2 := by
  show (fset a.u n _ n).st = 2
  rw [fset_eq]
theorem SS.mem_who {s : Sp.SS} {z p : Int} (h : p ∈ (s.mem z).1) : ∃ q : Int, 0 ≤ q ∧ q < 21 ∧ s.who z q = p ∧ 0 ≤ p := by
  unfold Sp.SS.mem at h
  split at h
  · cases h
  · obtain ⟨j, h0, h1, h2, h3⟩ := mem_membersL.1 h
    exact ⟨j, by omega, by omega, h3, by omega⟩
theorem KA.goE_ne (a : KA) (h : Int) {m : Int} : ∀ {l : List Int}, m ∉ l → (l.foldl (KA.stepE h) a).u m = a.u m
  | [], _ => rfl
  | x :: r, hm => by
    rw [List.foldl_cons, KA.goE_ne (a.stepE h x) h (fun q => hm (.tail _ q)), stepE_ne _ _ (by rintro rfl; exact hm (.head _))]
theorem KA.Wk.stepE {a : KA} {T : Int} (w : a.Wk T) (h : Int) {m : Int} (hm : 0 ≤ m ∧ m < 20) : (a.stepE h m).Wk T := by
  unfold KA.stepE
  split
  · exact w
  · split
    · rename_i c
      exact (w.endA hm c 0).awayA hm (by rw [endA_st]; decide)
    · rename_i c; exact w.awayA hm c
theorem SS.mem_range {s : Sp.SS} {dep : Int → Nat} (h : s.Inv dep) {z p : Int} (hp : p ∈ (s.mem z).1) : (0 ≤ p ∧ p < 20) ∧ 0 ≤ s.loc p := by
  obtain ⟨q, _, _, e, p0⟩ := SS.mem_who hp
  have := h.mem z q p p0 e
  exact ⟨⟨p0, this.1⟩, this.2.2.2.1⟩
theorem KA.Wk.members_ok {a : KA} {T : Int} (w : a.Wk T) (z : Int) {p : Int} (hp : p ∈ (a.s.mem z).1) : (0 ≤ p ∧ p < 20) ∧ (a.u p).st ≠ 0 := by
  obtain ⟨h1, h2⟩ := SS.mem_range w.sI hp
  exact ⟨h1, (w.lc p h1.1 h1.2).2 h2⟩
theorem KA.Wk.goE {T : Int} (h : Int) : ∀ {l : List Int} {a : KA}, a.Wk T → (∀ m ∈ l, 0 ≤ m ∧ m < 20) → (l.foldl (KA.stepE h) a).Wk T
  | [], _, w, _ => w
  | x :: r, _, w, hl => KA.Wk.goE (l := r) h (w.stepE h (hl x (.head _))) (fun m hm => hl m (.tail _ hm))
theorem KA.Wk.members {a : KA} {T : Int} (w : a.Wk T) (z h : Int) : (a.members z h).Wk T := KA.Wk.goE h w (fun _ hm => (SS.mem_range w.sI hm).1)
theorem KA.Wk.shuts {T : Int} : ∀ {l : List Int} {a : KA}, a.Wk T → (l.foldl KA.shutA a).Wk T
  | [], _, w => w
  | x :: r, _, w => KA.Wk.shuts (l := r) (w.shutA x)
theorem KA.Wk.round {a : KA} {T : Int} (w : a.Wk T) : a.round.Wk T := KA.Wk.shuts w
theorem KA.Wk.rounds {a : KA} {T : Int} (w : a.Wk T) : ∀ k, (a.rounds k).Wk T
  | 0 => w
  | k + 1 => (w.rounds k).round
theorem KA.Wk.emptyA {a : KA} {T : Int} (w : a.Wk T) (z h : Int) : (a.emptyA z h).Wk T := (w.members z h).rounds 4
theorem KA.rounds_next (a : KA) {i : Int} (h : 0 ≤ i) : a.rounds (i + 1).toNat = (a.rounds i.toNat).round := by
  rw [show (i + 1).toNat = i.toNat + 1 by omega]; rfl
theorem take_next {l : List Int} {i : Int} (h : 0 ≤ i ∧ i < l.length) : l.take (i + 1).toNat = l.take i.toNat ++ [at0 l i] := Vm.itake h
theorem take_nin {l : List Int} (hn : l.Nodup) {i : Int} (h : 0 ≤ i ∧ i < l.length) : at0 l i ∉ l.take i.toNat := by
  intro q
  have h1 : (l.take i.toNat ++ l.drop i.toNat).Nodup := by rwa [List.take_append_drop]
  have h2 : at0 l i ∈ l.drop i.toNat := by
    rw [List.drop_eq_getElem_cons (by omega)]
    have e2 : at0 l i = l[i.toNat]'(by omega) := by
      unfold at0
      rw [List.getD_eq_getElem?_getD, List.getElem?_eq_getElem (by omega)]; rfl
    rw [e2]; exact .head _
  exact (List.nodup_append.1 h1).2.2 _ q _ h2 rfl
theorem FF.letF_roots (s : Tr.FF) (n : Int) : (s.letF n).roots = s.roots := by
  unfold Tr.FF.letF Tr.FF.goneF; split
  · split <;> rfl
  · rfl
theorem FF.letM_roots : ∀ (l : List Tr.MT) (s : Tr.FF), (Tr.letM s l).roots = s.roots
  | [], _ => rfl
  | m :: r, s => (FF.letM_roots r _).trans ((FF.letF_roots _ _).trans (FF.letF_roots _ _))
theorem FF.tclose_roots (s : Tr.FF) (l : List Tr.MT) (r : Tr.WH) : (Tr.tcloseF s l r).roots = s.roots := (FF.letF_roots _ _).trans (FF.letM_roots _ _)
theorem SS.drop_here {s : Sp.SS} {z y : Int} (h : (s.drop z).2.here y = true) : s.here y = true := by
  rcases SS.drop_cases s z with ⟨_, e⟩ | ⟨_, _, _, _, e, _⟩
  · rwa [e] at h
  · rw [e] at h
    have h : fset s.here z false y = true := h
    by_cases c : y = z
    · subst c; rw [fset_eq] at h; cases h
    · rwa [fset_ne _ _ c] at h
theorem encKn.ld_msP (k : KP) {z : Int} (h : 0 ≤ z ∧ z < 6) {v : Value} (e : k.ms z = v) : 0 + 447 + z.toNat * 1 < 453 ∧ encKn k (0 + 447 + z.toNat * 1) = v := ⟨(encKn.ld_ms k h).1, (encKn.ld_ms k h).2.trans e⟩
theorem Con.awayC {a : KA} {c : KC} {N : Nat} {T : Int} {n : Int} (h : Con a c N T) : Con (a.awayA n) c N T := ⟨h.qO, h.qR, h.F, h.rp, h.rc, h.rl, fun z h0 h1 h2 => h.tb z h0 h1 (by rwa [show (a.awayA n).s.here = a.s.here from SS.leave_here _ _] at h2)⟩
/-! ### signals, and who ends by them -/
theorem send_wait0 (x : Sg.BS) (n : Int) (h : x.wait 0 = false) : (x.send n).2.wait 0 = false := by
  unfold Sg.BS.send
  split
  · rename_i c
    have := (Sg.BS.num_iff n).1 c
    show (if x.does n = 1 then x else _).wait 0 = false
    split
    · exact h
    · show fset x.wait n true 0 = false
      rw [fset_ne _ _ (by omega)]; exact h
  · exact h
theorem first_congr {x y : Sg.BS} {h : Int} (e : ∀ k : Int, 0 ≤ k → k < 9 → (x.wait k && (!x.held k && decide (x.how k = h))) = (y.wait k && (!y.held k && decide (y.how k = h)))) : x.first h = y.first h := by
  unfold Sg.BS.first
  have e2 : firstN (fun k => x.wait k && (!x.held k && decide (x.how k = h))) 9 = firstN (fun k => y.wait k && (!y.held k && decide (y.how k = h))) 9 := by
    cases hy : firstN (fun k => y.wait k && (!y.held k && decide (y.how k = h))) 9 with
    | none => exact firstN_none (fun j j0 j1 => (e j j0 (by omega)).trans (Vm.firstN_none_spec hy j j0 j1))
    | some m =>
      obtain ⟨h1, h2, h3⟩ := Vm.firstN_spec hy
      have := firstN_some (p := fun k => x.wait k && (!x.held k && decide (x.how k = h))) (m := 9) (k := (m : Int)) (by omega) (by omega) ((e m (by omega) (by omega)).trans h2) (fun j j0 j1 => (e j j0 (by omega)).trans (h3 j j0 j1))
      rw [this]; rfl
  rw [e2]
theorem first_kid (x : Sg.BS) : (x.send 3).2.first 0 = x.first 0 := by
  unfold Sg.BS.send
  rw [if_pos (by decide)]
  show (if x.does 3 = 1 then x else _).first 0 = _
  split
  · rfl
  · rename_i c
    refine first_congr fun k k0 k1 => ?_
    show (fset x.wait 3 true k && _) = _
    by_cases e : k = 3
    · subst e
      have h0 : ¬ x.how 3 = 0 := fun q => c (by unfold Sg.BS.does; rw [if_pos ⟨rfl, q⟩])
      rw [decide_eq_false h0]; simp
    · rw [fset_ne _ _ e]
def KA.boxA (a : KA) (n : Int) (x : Sg.BS) : KA := { a with u := fset a.u n { a.u n with bx := x } }
def KA.live (a : KA) (n : Int) : Int := if n < 0 ∨ 20 ≤ n then 1 else if (a.u n).st = 1 then 0 else 2
theorem kp_live (a : KA) (b : KZ) (c : KC) (n : Int) : (kp a b c).live n = a.live n := rfl
theorem KA.live_0 {a : KA} {n : Int} (h : a.live n = 0) : (0 ≤ n ∧ n < 20) ∧ (a.u n).st = 1 := by
  unfold KA.live at h
  split at h
  · omega
  · split at h
    · exact ⟨by omega, by assumption⟩
    · omega
theorem KA.live_of {a : KA} {n : Int} (h : 0 ≤ n ∧ n < 20) (e : (a.u n).st = 1) : a.live n = 0 := by unfold KA.live; rw [if_neg (by omega), if_pos e]
theorem kp_box (a : KA) (b : KZ) (c : KC) (n : Int) (x : Sg.BS) : (kp a b c).box n x = kp (a.boxA n x) b c := kp_put' a b c n { a.u n with bx := x } _ rfl
theorem boxA_ne (a : KA) {n m : Int} (x : Sg.BS) (h : m ≠ n) : (a.boxA n x).u m = a.u m := fset_ne _ _ h
theorem boxA_at (a : KA) (n : Int) (x : Sg.BS) : (a.boxA n x).u n = { a.u n with bx := x } := fset_eq _ _ _
theorem boxA_st (a : KA) (n m : Int) (x : Sg.BS) : ((a.boxA n x).u m).st = (a.u m).st := by
  by_cases e : m = n
  · subst e; rw [boxA_at]
  · rw [boxA_ne _ _ e]
theorem lvA_box (a : KA) (n : Int) (x : Sg.BS) : lvA (a.boxA n x) = lvA a := lvA_congr fun m _ _ => by rw [boxA_st]
theorem KA.Wk.boxA {a : KA} {T : Int} (h : a.Wk T) {n : Int} (hn : 0 ≤ n ∧ n < 20) {x : Sg.BS} (hx : x.wait 0 = false) : (a.boxA n x).Wk T where
  T0 := h.T0
  gI := h.gI
  gS := h.gS
  sI := h.sI
  sys := h.sys
  nilf := fun m a0 a1 q => h.nilf m a0 a1 (by rwa [boxA_st] at q)
  PI := h.PI
  OI := h.OI
  lc := fun m a0 a1 => by rw [boxA_st]; exact h.lc m a0 a1
  st := fun m => by rw [boxA_st]; exact h.st m
  out := fun m hm => by rw [boxA_ne _ _ (by omega)]; exact h.out m hm
  fd := fun m i => fset_at a.u n m _ (Q := fun z => 0 ≤ z.fd i ∧ z.fd i ≤ 24) (fun _ => h.fd n i) (fun _ => h.fd m i)
  bx := fun m => fset_at a.u n m _ (Q := fun z => z.bx.wait 0 = false) (fun _ => hx) (fun _ => h.bx m)
def KA.head (a : KA) (n : Int) : Int := (a.s.find (a.s.in_ n).1 1).1
def KA.adoptA (a : KA) (n h : Int) : KA := { a with u := fun j => if 0 ≤ j ∧ j < 20 ∧ (a.u j).st ≠ 0 ∧ (a.u j).par = n then { a.u j with par := h } else a.u j }
theorem adoptA_keep (a : KA) (n h j : Int) : ((a.adoptA n h).u j).st = (a.u j).st ∧ ((a.adoptA n h).u j).bx = (a.u j).bx ∧ ((a.adoptA n h).u j).grp = (a.u j).grp ∧ ((a.adoptA n h).u j).code = (a.u j).code ∧ ((a.adoptA n h).u j).fd = (a.u j).fd := by
  show ((if 0 ≤ j ∧ j < 20 ∧ (a.u j).st ≠ 0 ∧ (a.u j).par = n then { a.u j with par := h } else a.u j) : PA).st = _ ∧ ((if 0 ≤ j ∧ j < 20 ∧ (a.u j).st ≠ 0 ∧ (a.u j).par = n then { a.u j with par := h } else a.u j) : PA).bx = _ ∧ ((if 0 ≤ j ∧ j < 20 ∧ (a.u j).st ≠ 0 ∧ (a.u j).par = n then { a.u j with par := h } else a.u j) : PA).grp = _ ∧ ((if 0 ≤ j ∧ j < 20 ∧ (a.u j).st ≠ 0 ∧ (a.u j).par = n then { a.u j with par := h } else a.u j) : PA).code = _ ∧ ((if 0 ≤ j ∧ j < 20 ∧ (a.u j).st ≠ 0 ∧ (a.u j).par = n then { a.u j with par := h } else a.u j) : PA).fd = _
  split <;> exact ⟨rfl, rfl, rfl, rfl, rfl⟩
theorem kp_adopt (a : KA) (b : KZ) (c : KC) (n h : Int) : (kp a b c).adopt n h 20 = kp (a.adoptA n h) b c := by
  refine KP.ext (fun m => ?_) rfl ⟨⟨rfl, rfl, rfl, rfl⟩, rfl, rfl, rfl⟩
  show (if 0 ≤ m ∧ m < 20 ∧ (a.u m).st ≠ 0 ∧ (a.u m).par = n then { (a.u m).pu _ with par := h } else (a.u m).pu _) = PA.pu (if 0 ≤ m ∧ m < 20 ∧ (a.u m).st ≠ 0 ∧ (a.u m).par = n then { a.u m with par := h } else a.u m) _
  split <;> rfl
theorem lvA_adopt (a : KA) (n h : Int) : lvA (a.adoptA n h) = lvA a := lvA_congr fun m _ _ => by rw [(adoptA_keep _ _ _ _).1]
theorem KA.Wk.adoptA {a : KA} {T : Int} (w : a.Wk T) (n h : Int) : (a.adoptA n h).Wk T where
  T0 := w.T0
  gI := w.gI
  gS := w.gS
  sI := w.sI
  sys := w.sys
  nilf := fun m a0 a1 q => w.nilf m a0 a1 (by rwa [(adoptA_keep _ _ _ _).1] at q)
  PI := w.PI
  OI := w.OI
  lc := fun m a0 a1 => by rw [(adoptA_keep _ _ _ _).1]; exact w.lc m a0 a1
  st := fun m => by rw [(adoptA_keep _ _ _ _).1]; exact w.st m
  out := fun m hm => by
    show (if 0 ≤ m ∧ m < 20 ∧ (a.u m).st ≠ 0 ∧ (a.u m).par = n then { a.u m with par := h } else a.u m) = PA.nil
    rw [if_neg (by omega)]; exact w.out m hm
  fd := fun m i => by rw [(adoptA_keep _ _ _ _).2.2.2.2]; exact w.fd m i
  bx := fun m => by rw [(adoptA_keep _ _ _ _).2.1]; exact w.bx m
def KA.kidA (a : KA) (p : Int) : KA := if a.live p = 0 then a.boxA p ((a.u p).bx.send 3).2 else a
theorem KA.Wk.kidA {a : KA} {T : Int} (w : a.Wk T) (p : Int) : (a.kidA p).Wk T := by
  unfold KA.kidA; split
  · rename_i c; exact w.boxA (KA.live_0 c).1 (send_wait0 _ _ (w.bx p))
  · exact w
/-- the end of a process, and of what is in its space, if it is the head of one -/
def KA.exit1 (a : KA) (n co : Int) : KA := if a.head n = n then (a.endA n co).emptyA (a.s.in_ n).1 n else a.endA n co
def KA.exitA (a : KA) (n co : Int) : KA := ((a.exit1 n co).adoptA n (a.head n)).kidA (((a.exit1 n co).adoptA n (a.head n)).u n).par
theorem KA.Wk.exit1 {a : KA} {T : Int} (w : a.Wk T) {n : Int} (hn : 0 ≤ n ∧ n < 20) (hl : (a.u n).st = 1) (co : Int) : (a.exit1 n co).Wk T := by
  unfold KA.exit1; split
  · exact (w.endA hn hl co).emptyA _ _
  · exact w.endA hn hl co
theorem KA.Wk.exitA {a : KA} {T : Int} (w : a.Wk T) {n : Int} (hn : 0 ≤ n ∧ n < 20) (hl : (a.u n).st = 1) (co : Int) : (a.exitA n co).Wk T := ((w.exit1 hn hl co).adoptA _ _).kidA _
/-- who is live is not about to end, but for heads -/
def KA.Hx (a : KA) (n : Int) : Prop := ∀ p, 0 ≤ p → p < 20 → p ≠ n → (a.u p).st = 1 → (a.u p).bx.first 0 = 0 ∨ a.s.who (a.s.loc p) 1 = p
theorem KA.Hx.endA {a : KA} {n : Int} (h : a.Hx n) (co : Int) : (a.endA n co).Hx n := fun p h0 h1 h2 h3 => by
  rw [endA_ne _ _ h2] at h3 ⊢; exact h p h0 h1 h2 h3
theorem KA.Hx.end2 {a : KA} {n m : Int} (h : a.Hx n) (co : Int) : (a.endA m co).Hx n := fun p h0 h1 h2 h3 => by
  by_cases e : p = m
  · subst e; rw [endA_st] at h3; omega
  · rw [endA_ne _ _ e] at h3 ⊢; exact h p h0 h1 h2 h3
theorem SS.leave_who {s : Sp.SS} {n p z q : Int} (e : p ≠ n) (h : s.who z q = p) : (s.leave n).2.who z q = p := by
  unfold Sp.SS.leave; split
  · exact h
  · show (if s.who z q = n then -1 else s.who z q) = p
    rw [if_neg (by omega)]; exact h
theorem KA.Hx.awayA {a : KA} {n m : Int} (h : a.Hx n) : (a.awayA m).Hx n := fun p h0 h1 h2 h3 => by
  by_cases e : p = m
  · subst e
    have : ((a.awayA p).u p).st = 0 := by
      show (fset a.u p PA.nil p).st = 0
      rw [fset_eq]; rfl
    omega
  · rw [awayA_ne _ e] at h3 ⊢
    rcases h p h0 h1 h2 h3 with q | q
    · exact .inl q
    · right
      show (a.s.leave m).2.who ((a.s.leave m).2.loc p) 1 = p
      rw [SS.leave_ne _ e]
      exact SS.leave_who e q
theorem SS.drop_who (s : Sp.SS) (z : Int) : (s.drop z).2.who = s.who := by
  rcases SS.drop_cases s z with ⟨_, e⟩ | ⟨_, _, _, _, e, _⟩ <;> rw [e]
theorem KA.Hx.shutA {a : KA} {n : Int} (h : a.Hx n) (z : Int) : (a.shutA z).Hx n := fun p h0 h1 h2 h3 => by
  show _ ∨ (a.s.drop z).2.who ((a.s.drop z).2.loc p) 1 = p
  rw [SS.drop_who, SS.drop_loc]
  exact h p h0 h1 h2 h3
theorem KA.Hx.goE {n : Int} (k : Int) : ∀ {l : List Int} {a : KA}, a.Hx n → (l.foldl (KA.stepE k) a).Hx n
  | [], _, w => w
  | x :: r, a, w => KA.Hx.goE k (l := r) (by
      unfold KA.stepE
      split
      · exact w
      · refine KA.Hx.awayA ?_
        split
        · exact w.end2 0
        · exact w)
theorem KA.Hx.shuts {n : Int} : ∀ {l : List Int} {a : KA}, a.Hx n → (l.foldl KA.shutA a).Hx n
  | [], _, w => w
  | x :: r, _, w => KA.Hx.shuts (l := r) (w.shutA x)
theorem KA.Hx.rounds {a : KA} {n : Int} (w : a.Hx n) : ∀ k, (a.rounds k).Hx n
  | 0 => w
  | k + 1 => KA.Hx.shuts (w.rounds k)
theorem KA.Hx.exit1 {a : KA} {n : Int} (w : a.Hx n) (co : Int) : (a.exit1 n co).Hx n := by
  unfold KA.exit1; split
  · exact KA.Hx.rounds (KA.Hx.goE n (w.endA co)) 4
  · exact w.endA co
theorem KA.Hx.adoptA {a : KA} {n : Int} (w : a.Hx n) (m h : Int) : (a.adoptA m h).Hx n := fun p h0 h1 h2 h3 => by
  rw [(adoptA_keep _ _ _ _).1] at h3
  rw [(adoptA_keep _ _ _ _).2.1]
  exact w p h0 h1 h2 h3
theorem KA.Hx.kidA {a : KA} {n : Int} (w : a.Hx n) (m : Int) : (a.kidA m).Hx n := fun p h0 h1 h2 h3 => by
  unfold KA.kidA at h3 ⊢
  split
  · rename_i c
    rw [if_pos c, boxA_st] at h3
    by_cases e : p = m
    · subst e
      rw [boxA_at]
      show ((a.u p).bx.send 3).2.first 0 = 0 ∨ _
      rw [first_kid]
      exact w p h0 h1 h2 h3
    · rw [boxA_ne _ _ e]; exact w p h0 h1 h2 h3
  · rename_i c
    rw [if_neg c] at h3
    exact w p h0 h1 h2 h3
theorem KA.Wk.who_head {a : KA} {T : Int} (w : a.Wk T) {p : Int} (h0 : 0 ≤ p ∧ p < 20) (hs : (a.u p).st ≠ 0) (h : a.s.who (a.s.loc p) 1 = p) : a.head p = p := by
  have h1 := (w.lc p h0.1 h0.2).1 hs
  have h2 := w.sI.loc p
  have h3 := w.sI.at_ p h0.1 h0.2 h1
  have e1 : a.s.in_ p = (a.s.loc p, 0) := by unfold Sp.SS.in_; rw [if_neg (by omega), if_neg (by omega)]
  unfold KA.head
  rw [e1]
  have e2 : a.s.is (a.s.loc p) = 0 := by unfold Sp.SS.is; rw [if_neg (by omega), if_pos h3]
  show (a.s.find (a.s.loc p) 1).1 = p
  unfold Sp.SS.find
  rw [if_neg (by omega), if_neg (by omega), if_neg (by omega)]
  exact h
def KA.ends (a : KA) (n : Int) (o : Bool) : Prop := (a.u n).bx.first 0 ≠ 0 ∧ (o = true ∨ a.head n ≠ n)
instance (a : KA) (n : Int) (o : Bool) : Decidable (a.ends n o) := by unfold KA.ends; infer_instance
def KA.settleA (a : KA) (n : Int) (o : Bool) : KA := if a.ends n o then a.exitA n (128 + (a.u n).bx.first 0) else a
def KA.sendA (a : KA) (n sig : Int) (o : Bool) : KA := if a.live n = 0 then (a.boxA n ((a.u n).bx.send sig).2).settleA n o else a
theorem rounds_u (a : KA) : ∀ k, (a.rounds k).u = a.u
  | 0 => rfl
  | k + 1 => by
    show ((Sp.allL (a.rounds k).s.here 6).foldl KA.shutA (a.rounds k)).u = a.u
    have e : ∀ (l : List Int) (x : KA), (l.foldl KA.shutA x).u = x.u := fun l => by
      induction l with
      | nil => intro x; rfl
      | cons y r ih => intro x; rw [List.foldl_cons, ih]; rfl
    rw [e]; exact rounds_u a k
theorem goE_head (h : Int) : ∀ (l : List Int) (a : KA), (l.foldl (KA.stepE h) a).u h = a.u h
  | [], _ => rfl
  | x :: r, a => by
    rw [List.foldl_cons, goE_head h r]
    by_cases e : h = x
    · unfold KA.stepE; rw [if_pos e.symm]
    · exact stepE_ne a h e
theorem emptyA_head (a : KA) (z h : Int) : (a.emptyA z h).u h = a.u h := by
  unfold KA.emptyA
  rw [rounds_u]
  unfold KA.members
  exact goE_head h _ a
theorem exit1_st (a : KA) (n co : Int) : ((a.exit1 n co).u n).st ≠ 1 := by
  have h2 : ((a.endA n co).u n).st = 2 := endA_st a n co
  unfold KA.exit1; split
  · rw [emptyA_head, h2]; decide
  · rw [h2]; decide
theorem KA.kid_ok {a : KA} {T : Int} {n : Int} {b : KZ} {c : KC} (w : a.Wk T) (hx : a.Hx n) (hs : (a.u n).st ≠ 1) {p : Int} (q : (kp a b c).live p = 0) : (((kp a b c).u p).bx.send 3).2.first 0 = 0 ∨ (false = false ∧ (a.s.find (a.s.in_ p).1 1).1 = p) := by
  obtain ⟨h1, h2⟩ := KA.live_0 (a := a) (n := p) q
  have hne : p ≠ n := by rintro rfl; exact hs h2
  rcases hx p h1.1 h1.2 hne h2 with e | e
  · left
    rw [first_kid]; exact e
  · exact .inr ⟨rfl, w.who_head h1 (by omega) e⟩
theorem kp_kid (a : KA) (b : KZ) (c : KC) (p : Int) : (if (kp a b c).live p = 0 then (kp a b c).box p (((kp a b c).u p).bx.send 3).2 else kp a b c) = kp (a.kidA p) b c := by
  unfold KA.kidA
  rw [kp_live]
  split
  · exact kp_box a b c p _
  · rfl
theorem lvA_kid (a : KA) (p : Int) : lvA (a.kidA p) = lvA a := by
  unfold KA.kidA; split
  · exact lvA_box _ _ _
  · rfl
theorem KA.kid_rest (a : KA) (p : Int) : (a.kidA p).s = a.s ∧ (a.kidA p).g = a.g ∧ (a.kidA p).v = a.v ∧ (a.kidA p).f = a.f ∧ (a.kidA p).P = a.P ∧ (a.kidA p).O = a.O := by
  unfold KA.kidA; split <;> exact ⟨rfl, rfl, rfl, rfl, rfl, rfl⟩
theorem Con.kid {a : KA} {c : KC} {N : Nat} {T : Int} (h : Con a c N T) (n m p : Int) : Con ((a.adoptA n m).kidA p) c N T := ⟨h.qO, h.qR, h.F, h.rp, h.rc, h.rl, fun z h0 h1 h2 => h.tb z h0 h1 (by rwa [(KA.kid_rest _ _).1] at h2)⟩

end Go.X.Kn

namespace Go.X.Kn
open Go Go.X
theorem hrA_adopt (a : KA) (n h : Int) : hrA (a.adoptA n h) = hrA a := rfl
theorem Con.box {a : KA} {c : KC} {N : Nat} {T : Int} (h : Con a c N T) (n : Int) (x : Sg.BS) : Con (a.boxA n x) c N T := ⟨h.qO, h.qR, h.F, h.rp, h.rc, h.rl, h.tb⟩
theorem hrA_box (a : KA) (n : Int) (x : Sg.BS) : hrA (a.boxA n x) = hrA a := rfl
theorem KA.Hx.any {a : KA} (h : a.Hx (-1)) (n : Int) : a.Hx n := fun p h0 h1 _ h3 => h p h0 h1 (by omega) h3
theorem KA.Hx.box {a : KA} {n : Int} (h : a.Hx n) (x : Sg.BS) : (a.boxA n x).Hx n := fun p h0 h1 h2 h3 => by
  rw [boxA_ne _ _ h2] at h3 ⊢; exact h p h0 h1 h2 h3
theorem KA.Wk.rng {a : KA} {T : Int} (w : a.Wk T) {n : Int} (h : (a.u n).st ≠ 0) : 0 ≤ n ∧ n < 20 := by
  by_cases e : n < 0 ∨ 20 ≤ n
  · rw [w.out n e] at h; exact absurd rfl h
  · omega
/-- the process 0 is there -/
structure KA.R0 (a : KA) : Prop where
  st : (a.u 0).st = 1
  loc : a.s.loc 0 = 0
  who : a.s.who 0 1 = 0
structure KA.Ok (a : KA) (T : Int) : Prop where
  wk : a.Wk T
  hx : a.Hx (-1)
  r0 : a.R0
  d0 : a.dep 0 = 1
theorem shuts_dep : ∀ (l : List Int) (x : KA), (l.foldl KA.shutA x).dep = x.dep
  | [], _ => rfl
  | _ :: r, x => shuts_dep r (x.shutA _)
theorem rounds_dep (a : KA) : ∀ k, (a.rounds k).dep = a.dep
  | 0 => rfl
  | k + 1 => (shuts_dep _ _).trans (rounds_dep a k)
theorem goE_dep (h : Int) : ∀ (l : List Int) (x : KA), (l.foldl (KA.stepE h) x).dep = x.dep
  | [], _ => rfl
  | y :: r, x => (goE_dep h r (KA.stepE h x y)).trans (by
    unfold KA.stepE; split
    · rfl
    · show (if (x.u y).st = 1 then x.endA y 0 else x).dep = _
      split <;> rfl)
theorem exitA_dep (a : KA) (n co : Int) : (a.exitA n co).dep = a.dep := by
  have e1 : (a.exit1 n co).dep = a.dep := by
    unfold KA.exit1; split
    · exact (rounds_dep _ 4).trans (goE_dep n _ _)
    · rfl
  unfold KA.exitA KA.kidA
  split
  · exact e1
  · exact e1
theorem KA.R0.end_ {a : KA} (h : a.R0) {n : Int} (hn : n ≠ 0) (co : Int) : (a.endA n co).R0 := ⟨by rw [endA_ne _ _ (fun e => hn e.symm)]; exact h.st, h.loc, h.who⟩
theorem KA.R0.away {a : KA} (h : a.R0) {n : Int} (hn : n ≠ 0) : (a.awayA n).R0 :=
  ⟨by rw [awayA_ne _ (fun e => hn e.symm)]; exact h.st, by show (a.s.leave n).2.loc 0 = 0; rw [SS.leave_ne _ (fun e => hn e.symm)]; exact h.loc, SS.leave_who (fun e => hn e.symm) h.who⟩
theorem KA.R0.shut {a : KA} (h : a.R0) (z : Int) : (a.shutA z).R0 := ⟨h.st, by show (a.s.drop z).2.loc 0 = 0; rw [SS.drop_loc]; exact h.loc, by show (a.s.drop z).2.who 0 1 = 0; rw [SS.drop_who]; exact h.who⟩
theorem KA.R0.goE (k : Int) : ∀ {l : List Int} {a : KA}, a.R0 → (0 ∉ l) → (l.foldl (KA.stepE k) a).R0
  | [], _, w, _ => w
  | x :: r, a, w, hl => KA.R0.goE k (l := r) (by
      have hx : x ≠ 0 := by rintro rfl; exact hl (.head _)
      unfold KA.stepE
      split
      · exact w
      · refine KA.R0.away ?_ hx
        split
        · exact w.end_ hx 0
        · exact w) (fun q => hl (.tail _ q))
theorem KA.R0.shuts : ∀ {l : List Int} {a : KA}, a.R0 → (l.foldl KA.shutA a).R0
  | [], _, w => w
  | x :: r, _, w => KA.R0.shuts (l := r) (w.shut x)
theorem KA.R0.rounds {a : KA} (w : a.R0) : ∀ k, (a.rounds k).R0
  | 0 => w
  | k + 1 => KA.R0.shuts (w.rounds k)
theorem SS.Inv.at0 {s : Sp.SS} {dep : Int → Nat} (h : s.Inv dep) (hl : s.loc 0 = 0) : s.here 0 = true := by
  have := h.at_ 0 (by omega) (by omega) (by omega)
  rwa [hl] at this
/-- the process 0 is in no space but the root -/
theorem SS.Inv.in0 {s : Sp.SS} {dep : Int → Nat} (h : s.Inv dep) (hl : s.loc 0 = 0) (hd : dep 0 = 1) {z q : Int} (e : s.who z q = 0) : z = 0 := by
  have := (h.mem z q 0 (by omega) e).2.2.2.2
  rw [hl] at this
  unfold Sp.SS.way at this
  rw [hd] at this
  simpa [Sp.SS.wayF] using this
theorem head_who {a : KA} {T : Int} (w : a.Wk T) (r : a.R0) {n : Int} (hn : (a.u n).st ≠ 0) (h : a.head n = n) : a.s.who (a.s.loc n) 1 = n := by
  have hr := w.rng hn
  have h1 := (w.lc n hr.1 hr.2).1 hn
  by_cases e : n = 0
  · subst e; rw [r.loc]; exact r.who
  · unfold KA.head at h
    have e1 : a.s.in_ n = (a.s.loc n, 0) := by unfold Sp.SS.in_; rw [if_neg (by omega), if_neg (by omega)]
    rw [e1] at h
    have h : (a.s.find (a.s.loc n) 1).1 = n := h
    unfold Sp.SS.find at h
    split at h
    · exact absurd h.symm e
    · split at h
      · omega
      · split at h
        · exact absurd h.symm e
        · exact h
theorem KA.Wk.exitOk {a : KA} {T : Int} (w : a.Wk T) (r0 : a.R0) (hd : a.dep 0 = 1) {n : Int} (hn : n ≠ 0) (hl : (a.u n).st = 1) (hx : a.Hx n) (co : Int) : (a.exitA n co).Ok T := by
  have hr := w.rng (n := n) (by omega)
  have hx2 := ((hx.exit1 co).adoptA n (a.head n)).kidA (((a.exit1 n co).adoptA n (a.head n)).u n).par
  refine ⟨w.exitA hr hl co, fun p h0 h1 _ h3 => ?_, ?_, (congrFun (exitA_dep _ _ _) 0).trans hd⟩
  · by_cases e : p = n
    · subst e
      exfalso
      have : ((a.exitA p co).u p).st ≠ 1 := by
        unfold KA.exitA KA.kidA
        split
        · rw [boxA_st, (adoptA_keep _ _ _ _).1]; exact exit1_st a p co
        · rw [(adoptA_keep _ _ _ _).1]; exact exit1_st a p co
      exact this h3
    · exact hx2 p h0 h1 e h3
  · have r1 : (a.exit1 n co).R0 := by
      unfold KA.exit1; split
      · rename_i hh
        unfold KA.emptyA
        refine KA.R0.rounds (KA.R0.goE n (r0.end_ hn co) fun q => ?_) 4
        obtain ⟨j, _, _, e, _⟩ := SS.mem_who q
        have hz := SS.Inv.in0 w.sI r0.loc hd e
        have hw := head_who w r0 (n := n) (by omega) hh
        have h1 := (w.lc n hr.1 hr.2).1 (by omega)
        have e1 : a.s.in_ n = (a.s.loc n, 0) := by unfold Sp.SS.in_; rw [if_neg (by omega), if_neg (by omega)]
        rw [e1] at hz
        have hz : a.s.loc n = 0 := hz
        rw [hz, r0.who] at hw
        exact hn hw.symm
      · exact r0.end_ hn co
    unfold KA.exitA
    have r2 : ((a.exit1 n co).adoptA n (a.head n)).R0 := ⟨by rw [(adoptA_keep _ _ _ _).1]; exact r1.st, r1.loc, r1.who⟩
    refine ⟨?_, by rw [(KA.kid_rest _ _).1]; exact r2.loc, by rw [(KA.kid_rest _ _).1]; exact r2.who⟩
    unfold KA.kidA
    split
    · rw [boxA_st]; exact r2.st
    · exact r2.st
theorem KA.settle_no {a : KA} {n : Int} {o : Bool} (h : ¬ a.ends n o) : a.settleA n o = a := if_neg h
theorem KA.settle_yes {a : KA} {n : Int} {o : Bool} (h : a.ends n o) : a.settleA n o = a.exitA n (128 + (a.u n).bx.first 0) := if_pos h

end Go.X.Kn
