import Derived.Test.YthdinakloheinaaGreatDoorkJA2
import Derived.Test.YthdinakloheinaaGreatDoorkVA
namespace Go.X.Kn
open Go Go.X
/-! ### what the kernel's acts do, and what they answer -/
theorem KA.Hx.same {a a' : KA} {n : Int} (h : a.Hx n) (hu : ∀ p, (a'.u p).st = (a.u p).st ∧ (a'.u p).bx = (a.u p).bx) (hs : a'.s = a.s) : a'.Hx n := fun p h0 h1 h2 h3 => by
  rw [(hu p).2, hs]; exact h p h0 h1 h2 (by rw [← (hu p).1]; exact h3)
theorem KA.R0.same {a a' : KA} (h : a.R0) (hu : (a'.u 0).st = (a.u 0).st) (hs : a'.s = a.s) : a'.R0 := ⟨by rw [hu]; exact h.st, by rw [hs]; exact h.loc, by rw [hs]; exact h.who⟩
theorem head0 {a : KA} {T : Int} (w : a.Wk T) (r : a.R0) : a.head 0 = 0 := w.who_head ⟨by omega, by omega⟩ (by rw [r.st]; decide) (by rw [r.loc]; exact r.who)
theorem KA.Wk.settleOk {a : KA} {T : Int} (w : a.Wk T) (r : a.R0) (hd : a.dep 0 = 1) {n : Int} (hl : (a.u n).st = 1) (hx : a.Hx n) (o : Bool) (ho : o = true → n ≠ 0) : (a.settleA n o).Ok T := by
  by_cases he : a.ends n o
  · rw [KA.settle_yes he]
    refine w.exitOk r hd (fun e => ?_) hl hx _
    subst e
    rcases he.2 with q | q
    · exact ho q rfl
    · exact q (head0 w r)
  · rw [KA.settle_no he]
    refine ⟨w, fun p h0 h1 h2 h3 => ?_, r, hd⟩
    by_cases e : p = n
    · subst e
      by_cases f : (a.u p).bx.first 0 = 0
      · exact .inl f
      · right
        exact head_who w r (by omega) (Decidable.byContradiction fun q => he ⟨f, .inr q⟩)
    · exact hx p h0 h1 e h3
theorem KA.R0.box {a : KA} (h : a.R0) (n : Int) (x : Sg.BS) : (a.boxA n x).R0 := h.same (boxA_st _ _ _ _) rfl
theorem KA.Ok.boxS {a : KA} {T : Int} (h : a.Ok T) {n : Int} (c : a.live n = 0) {x : Sg.BS} (hx : x.wait 0 = false) (o : Bool) (ho : o = true → n ≠ 0) : ((a.boxA n x).settleA n o).Ok T := by
  obtain ⟨hr, hl⟩ := KA.live_0 c
  exact (h.wk.boxA hr hx).settleOk (h.r0.box _ _) h.d0 (by rw [boxA_st]; exact hl) ((h.hx.any n).box _) o ho
theorem KA.Ok.boxK {a : KA} {T : Int} (h : a.Ok T) {n : Int} (c : a.live n = 0) {x : Sg.BS} (hx : x.wait 0 = false) (hf : x.first 0 = (a.u n).bx.first 0) : (a.boxA n x).Ok T := by
  obtain ⟨hr, hl⟩ := KA.live_0 c
  refine ⟨h.wk.boxA hr hx, fun p h0 h1 h2 h3 => ?_, h.r0.box _ _, h.d0⟩
  rw [boxA_st] at h3
  by_cases e : p = n
  · subst e; rw [boxA_at]
    show x.first 0 = 0 ∨ _
    rw [hf]; exact h.hx p h0 h1 (by omega) h3
  · rw [boxA_ne _ _ e]; exact h.hx p h0 h1 (by omega) h3
theorem KA.Ok.send {a : KA} {T : Int} (h : a.Ok T) (n sig : Int) (o : Bool) (ho : o = true → n ≠ 0) : (a.sendA n sig o).Ok T := by
  unfold KA.sendA; split
  · rename_i c; exact h.boxS c (send_wait0 _ _ (h.wk.bx n)) o ho
  · exact h
theorem hold_wait0 (x : Sg.BS) (n : Int) (on : Bool) (h : x.wait 0 = false) : (x.hold n on).2.wait 0 = false := by
  unfold Sg.BS.hold; split
  · split
    · exact h
    · exact h
  · exact h
theorem set_wait0 (x : Sg.BS) (n v : Int) (h : x.wait 0 = false) : (x.set n v).2.wait 0 = false := by
  unfold Sg.BS.set; split
  · rename_i c
    have := (Sg.BS.num_iff n).1 c.1
    split
    · exact h
    · show (if _ then _ else _ : Sg.BS).wait 0 = false
      split
      · show fset x.wait n false 0 = false
        rw [fset_ne _ _ (by omega)]; exact h
      · exact h
  · exact h
theorem take_wait0 (x : Sg.BS) (h : x.wait 0 = false) : x.take.2.wait 0 = false := by
  show fset x.wait (x.first 2) false 0 = false
  by_cases e : (0 : Int) = x.first 2
  · rw [← e]; exact fset_eq _ _ _
  · rw [fset_ne _ _ e]; exact h
theorem first_how {x : Sg.BS} {v : Int} (h : x.first v ≠ 0) : x.how (x.first v) = v := by
  unfold Sg.BS.first at h ⊢
  cases e : firstN (fun k => x.wait k && (!x.held k && decide (x.how k = v))) 9 with
  | none => rw [e] at h; exact absurd rfl h
  | some k =>
    have h2 := (Vm.firstN_spec e).2.1
    simp only [Bool.and_eq_true, decide_eq_true_eq] at h2
    exact h2.2.2
theorem take_first (x : Sg.BS) (h : x.wait 0 = false) : x.take.2.first 0 = x.first 0 := by
  refine first_congr fun k k0 k1 => ?_
  show (fset x.wait (x.first 2) false k && (!x.held k && decide (x.how k = 0))) = _
  by_cases e : k = x.first 2
  · by_cases z : x.first 2 = 0
    · have : k = 0 := by omega
      subst this
      rw [e, fset_eq, ← e, h]
    · have h2 := first_how z
      rw [e, decide_eq_false (show ¬ x.how (x.first 2) = 0 by rw [h2]; decide)]; simp
  · rw [fset_ne _ _ e]
/-! signals -/
def KA.see (a : KA) (n q : Int) : Int × Int :=
  if a.live n ≠ 0 then (0, a.live n) else if (a.s.find (a.s.in_ n).1 q).2 ≠ 0 then (0, (a.s.find (a.s.in_ n).1 q).2) else
  if (a.u (a.s.find (a.s.in_ n).1 q).1).st = 1 then ((a.s.find (a.s.in_ n).1 q).1, 0) else (0, 8)
def KA.exitE (a : KA) (n c : Int) : Int := if a.live n ≠ 0 then a.live n else if c < 0 ∨ 255 < c then 1 else if n = 0 then 8 else 0
def KA.exitK (a : KA) (n co : Int) : KA := if a.exitE n co = 0 then a.exitA n co else a
theorem KA.exitE_0 {a : KA} {n c : Int} (h : a.exitE n c = 0) : a.live n = 0 ∧ n ≠ 0 := by
  unfold KA.exitE at h
  split at h
  · omega
  · split at h
    · omega
    · split at h
      · omega
      · exact ⟨by omega, by assumption⟩
theorem KA.Ok.exitK {a : KA} {T : Int} (h : a.Ok T) (n co : Int) : (a.exitK n co).Ok T := by
  unfold KA.exitK; split
  · rename_i c
    obtain ⟨h1, h2⟩ := KA.exitE_0 c
    exact h.wk.exitOk h.r0 h.d0 h2 (KA.live_0 h1).2 (h.hx.any n) co
  · exact h
def KA.holdE (a : KA) (n sig : Int) (on : Bool) : Int := if a.live n ≠ 0 then a.live n else ((a.u n).bx.hold sig on).1
def KA.holdA (a : KA) (n sig : Int) (on : Bool) : KA := if a.live n ≠ 0 then a else if ((a.u n).bx.hold sig on).1 = 0 then (a.boxA n ((a.u n).bx.hold sig on).2).settleA n false else a
theorem KA.Ok.hold {a : KA} {T : Int} (h : a.Ok T) (n sig : Int) (on : Bool) : (a.holdA n sig on).Ok T := by
  unfold KA.holdA; split
  · exact h
  · rename_i c; split
    · exact h.boxS (by omega) (hold_wait0 _ _ _ (h.wk.bx n)) false (by simp)
    · exact h
def KA.howE (a : KA) (n sig v : Int) : Int := if a.live n ≠ 0 then a.live n else ((a.u n).bx.set sig v).1
def KA.howA (a : KA) (n sig v : Int) : KA := if a.live n ≠ 0 then a else if ((a.u n).bx.set sig v).1 = 0 then (a.boxA n ((a.u n).bx.set sig v).2).settleA n false else a
theorem KA.Ok.how {a : KA} {T : Int} (h : a.Ok T) (n sig v : Int) : (a.howA n sig v).Ok T := by
  unfold KA.howA; split
  · exact h
  · rename_i c; split
    · exact h.boxS (by omega) (set_wait0 _ _ _ (h.wk.bx n)) false (by simp)
    · exact h
def KA.takeE (a : KA) (n : Int) : Int := if a.live n ≠ 0 then a.live n else if (a.u n).bx.take.1 = 0 then 2 else 0
def KA.takeV (a : KA) (n : Int) : Int := if a.live n ≠ 0 then 0 else (a.u n).bx.take.1
def KA.takeA (a : KA) (n : Int) : KA := if a.live n ≠ 0 then a else a.boxA n (a.u n).bx.take.2
theorem KA.Ok.take {a : KA} {T : Int} (h : a.Ok T) (n : Int) : (a.takeA n).Ok T := by
  unfold KA.takeA; split
  · exact h
  · exact h.boxK (by omega) (take_wait0 _ (h.wk.bx n)) (take_first _ (h.wk.bx n))
def KA.signalE (a : KA) (n pid sig : Int) : Int := if (a.see n pid).2 ≠ 0 then (a.see n pid).2 else if sig < 1 ∨ 8 < sig then 1 else if pid = 1 then 8 else 0
def KA.signalA (a : KA) (n pid sig : Int) : KA := if a.signalE n pid sig = 0 then a.sendA (a.see n pid).1 sig (decide ((a.s.in_ (a.see n pid).1).1 ≠ (a.s.in_ n).1)) else a
/-! open files -/
theorem KA.Wk.io {a : KA} {T T' : Int} (h : a.Wk T) (hT : T ≤ T') (hT' : T' ≤ 1000000) {u : Int → PA} {O : Tr.OS} {P : Tr.PS} (hst : ∀ p, (u p).st = (a.u p).st) (hbx : ∀ p, (u p).bx = (a.u p).bx) (hout : ∀ p, (p < 0 ∨ 20 ≤ p) → u p = PA.nil) (hfd : ∀ p i, 0 ≤ (u p).fd i ∧ (u p).fd i ≤ 24) (hO : O.Inv T') (hP : P.Inv T') : ({ a with u := u, O := O, P := P } : KA).Wk T' where
  T0 := ⟨by have := h.T0; omega, hT'⟩
  gI := h.gI
  gS := h.gS.mono (by omega)
  sI := h.sI
  sys := h.sys
  nilf := fun m a0 a1 q => h.nilf m a0 a1 (by rw [← hst]; exact q)
  PI := hP
  OI := hO
  lc := fun m a0 a1 => by rw [show (({ a with u := u, O := O, P := P } : KA).u m).st = (a.u m).st from hst m]; exact h.lc m a0 a1
  st := fun m => by rw [show (({ a with u := u, O := O, P := P } : KA).u m).st = (a.u m).st from hst m]; exact h.st m
  out := hout
  fd := hfd
  bx := fun m => by rw [show (({ a with u := u, O := O, P := P } : KA).u m).bx = (a.u m).bx from hbx m]; exact h.bx m
theorem KA.Ok.io {a : KA} {T T' : Int} (h : a.Ok T) (hT : T ≤ T') (hT' : T' ≤ 1000000) {u : Int → PA} {O : Tr.OS} {P : Tr.PS} (hst : ∀ p, (u p).st = (a.u p).st) (hbx : ∀ p, (u p).bx = (a.u p).bx) (hout : ∀ p, (p < 0 ∨ 20 ≤ p) → u p = PA.nil) (hfd : ∀ p i, 0 ≤ (u p).fd i ∧ (u p).fd i ≤ 24) (hO : O.Inv T') (hP : P.Inv T') : ({ a with u := u, O := O, P := P } : KA).Ok T' :=
  ⟨h.wk.io hT hT' hst hbx hout hfd hO hP, h.hx.same (fun p => ⟨hst p, hbx p⟩) rfl, h.r0.same (hst 0) rfl, h.d0⟩
theorem KA.Ok.up {a : KA} {T T' : Int} (h : a.Ok T) (hT : T ≤ T') (hT' : T' ≤ 1000000) : a.Ok T' := ⟨h.wk.up hT hT', h.hx, h.r0, h.d0⟩
theorem KA.Ok.io0 {a : KA} {T T' : Int} (h : a.Ok T) (hT : T ≤ T') (hT' : T' ≤ 1000000) {O : Tr.OS} {P : Tr.PS} (hO : O.Inv T') (hP : P.Inv T') : ({ a with O := O, P := P } : KA).Ok T' :=
  h.io hT hT' (fun _ => rfl) (fun _ => rfl) h.wk.out h.wk.fd hO hP
def fdU (u : Int → PA) (n i v : Int) : Int → PA := fset u n { u n with fd := fset (u n).fd i v }
theorem fdU_st (u : Int → PA) (n i v p : Int) : (fdU u n i v p).st = (u p).st ∧ (fdU u n i v p).bx = (u p).bx := by
  unfold fdU
  by_cases e : p = n
  · subst e; rw [fset_eq]; exact ⟨rfl, rfl⟩
  · rw [fset_ne _ _ e]; exact ⟨rfl, rfl⟩
theorem fdU_out {u : Int → PA} {n : Int} (hn : 0 ≤ n ∧ n < 20) (i v : Int) (h : ∀ p, (p < 0 ∨ 20 ≤ p) → u p = PA.nil) : ∀ p, (p < 0 ∨ 20 ≤ p) → fdU u n i v p = PA.nil := fun p hp => by
  unfold fdU; rw [fset_ne _ _ (by omega)]; exact h p hp
theorem fdU_fd {u : Int → PA} {n i v : Int} (hv : 0 ≤ v ∧ v ≤ 24) (h : ∀ p j, 0 ≤ (u p).fd j ∧ (u p).fd j ≤ 24) : ∀ p j, 0 ≤ (fdU u n i v p).fd j ∧ (fdU u n i v p).fd j ≤ 24 := fun p j => by
  unfold fdU
  by_cases e : p = n
  · subst e; rw [fset_eq]
    show 0 ≤ fset (u p).fd i v j ∧ fset (u p).fd i v j ≤ 24
    by_cases f : j = i
    · subst f; rw [fset_eq]; exact hv
    · rw [fset_ne _ _ f]; exact h p j
  · rw [fset_ne _ _ e]; exact h p j
theorem kp_fdU (a : KA) (b : KZ) (c : KC) (n i v : Int) (O : Tr.OS) (P : Tr.PS) : (kp a b c).put n { (kp a b c).u n with fd := fset ((kp a b c).u n).fd i v } = kp { a with u := fdU a.u n i v, O := O, P := P } b c := (kp_put' a b c n { a.u n with fd := fset (a.u n).fd i v } _ rfl).trans rfl
def KA.openE (a : KA) (n i : Int) : Int := if a.live n ≠ 0 then a.live n else if i < 0 ∨ 6 ≤ i then 1 else if (a.u n).fd i = 0 then 2 else 0
def KA.openV (a : KA) (n i : Int) : Int := if a.openE n i = 0 then (a.u n).fd i - 1 else 0
theorem KA.open_0 {a : KA} {n i : Int} (h : a.openE n i = 0) : (0 ≤ n ∧ n < 20) ∧ (a.u n).st = 1 ∧ (0 ≤ i ∧ i < 6) ∧ (a.u n).fd i ≠ 0 ∧ a.openV n i = (a.u n).fd i - 1 := by
  have hv : a.openV n i = (a.u n).fd i - 1 := by unfold KA.openV; rw [if_pos h]
  unfold KA.openE at h
  split at h
  · omega
  · split at h
    · omega
    · split at h
      · omega
      · have := KA.live_0 (a := a) (n := n) (by omega)
        exact ⟨this.1, this.2, by omega, by assumption, hv⟩
def KA.closeE (a : KA) (F : Tr.FF) (n i : Int) : Int := if a.openE n i ≠ 0 then a.openE n i else Tr.closeE F a.P a.O (a.openV n i)
def KA.closeA (a : KA) (n i : Int) : KA := if a.openE n i ≠ 0 then a else { a with u := fdU a.u n i 0, O := Tr.closeO a.O (a.openV n i), P := Tr.closeP a.P a.O (a.openV n i) }
theorem KA.Ok.close {a : KA} {T : Int} (h : a.Ok T) (n i : Int) : (a.closeA n i).Ok T := by
  unfold KA.closeA; split
  · exact h
  · rename_i c
    obtain ⟨hn, _, _, _, _⟩ := KA.open_0 (show a.openE n i = 0 by omega)
    exact h.io (Int.le_refl _) h.wk.T0.2 (fun p => (fdU_st _ _ _ _ p).1) (fun p => (fdU_st _ _ _ _ p).2) (fdU_out hn _ _ h.wk.out) (fdU_fd (by omega) h.wk.fd) (OS.Inv.close0 h.wk.OI _) (PS.close0 h.wk.PI _ _)
def KA.slot (a : KA) (n : Int) : Int := slotF (a.u n).fd 0
theorem slotF_rng (f : Int → Int) (x : Int) (h : ¬ slotF f x < 0) : 0 ≤ slotF f x ∧ slotF f x < 6 ∧ x ≤ slotF f x ∧ f (slotF f x) = 0 := by
  unfold slotF at h ⊢
  cases e : firstN (fun k => decide (x ≤ k) && (f k == 0)) 6 with
  | none => rw [e] at h; exact absurd (show (-1 : Int) < 0 by omega) h
  | some k =>
    obtain ⟨h1, h2, _⟩ := Vm.firstN_spec e
    simp only [Bool.and_eq_true, decide_eq_true_eq, beq_iff_eq] at h2
    exact ⟨by show (0 : Int) ≤ (k : Int); omega, by show (k : Int) < 6; omega, h2.1, h2.2⟩
def KA.dupE (a : KA) (n i : Int) : Int := if a.openE n i ≠ 0 then a.openE n i else if a.slot n < 0 then 4 else a.O.is (a.openV n i)
def KA.dupV (a : KA) (n i : Int) : Int := if a.openE n i ≠ 0 ∨ a.slot n < 0 then 0 else a.slot n
def KA.dupA (a : KA) (n i : Int) : KA := if a.openE n i ≠ 0 ∨ a.slot n < 0 then a else { a with u := fdU a.u n (a.slot n) (a.openV n i + 1), O := Tr.shareO a.O (a.openV n i), P := a.P }
def KA.slot2 (a : KA) (n : Int) : Int := slotF (a.u n).fd (a.slot n + 1)
def KA.pipeE (a : KA) (n : Int) : Int := if a.live n ≠ 0 then a.live n else if a.slot n < 0 ∨ a.slot2 n < 0 then 4 else Tr.opipeE a.P a.O
def KA.pipeV (a : KA) (n : Int) : Int := if a.pipeE n = 0 then a.slot n else 0
def KA.pipeU (a : KA) (n : Int) : Int := if a.pipeE n = 0 then a.slot2 n else 0
def KA.pipeA (a : KA) (n : Int) : KA := if a.live n ≠ 0 ∨ a.slot n < 0 ∨ a.slot2 n < 0 then a else
  if Tr.opipeE a.P a.O = 0 then { a with u := fdU (fdU a.u n (a.slot n) (Tr.opipeV a.P a.O + 1)) n (a.slot2 n) (Tr.opipeU a.P a.O + 1), O := Tr.opipeO a.P a.O, P := Tr.opipeP a.P a.O } else { a with O := Tr.opipeO a.P a.O, P := Tr.opipeP a.P a.O }
theorem opipe_rng (P : Tr.PS) (O : Tr.OS) : (0 ≤ Tr.opipeV P O ∧ Tr.opipeV P O < 24) ∧ 0 ≤ Tr.opipeU P O ∧ Tr.opipeU P O < 24 := by
  unfold Tr.opipeV Tr.opipeU
  by_cases h : Tr.opipeE P O = 0
  · rw [if_pos h, if_pos h]
    unfold Tr.opipeE at h
    split at h
    · omega
    · rename_i c
      have h1 := Tr.OS.first_ok (s := O) (fun q => c (.inl q))
      have h2 := Tr.OS.first_ok (s := O.lay O.first 2 0 false) (fun q => c (.inr q))
      exact ⟨⟨h1.1, h1.2.1⟩, h2.1, h2.2.1⟩
  · rw [if_neg h, if_neg h]; omega
theorem KA.Ok.pipe {a : KA} {T : Int} (h : a.Ok T) (hT : T ≤ 900000) (hT1 : 1 ≤ T) (n : Int) : (a.pipeA n).Ok (T + 1) := by
  have h2 := opipe_rng a.P a.O
  have hO := h.wk.OI.pipe hT1 a.P
  have hP := Tr.opipeP_inv h.wk.PI (by omega) a.O
  unfold KA.pipeA; split
  · exact h.up (by omega) (by omega)
  · rename_i c
    have hn := (KA.live_0 (show a.live n = 0 by omega)).1
    split
    · exact h.io (by omega) (by omega) (fun p => ((fdU_st _ _ _ _ p).1).trans (fdU_st _ _ _ _ p).1) (fun p => ((fdU_st _ _ _ _ p).2).trans (fdU_st _ _ _ _ p).2) (fdU_out hn _ _ (fdU_out hn _ _ h.wk.out)) (fdU_fd (by omega) (fdU_fd (by omega) h.wk.fd)) hO hP
    · exact h.io0 (by omega) (by omega) hO hP
def KA.readE (a : KA) (F : Tr.FF) (n i m : Int) : Int := if a.openE n i ≠ 0 then a.openE n i else Tr.oreadE F a.P a.O (a.openV n i) m
def KA.readV (a : KA) (F : Tr.FF) (n i m : Int) : ByteArray := if a.openE n i ≠ 0 then ⟨#[]⟩ else Tr.oreadV F a.P a.O (a.openV n i) m
def KA.readA (a : KA) (F : Tr.FF) (n i m : Int) : KA := if a.openE n i ≠ 0 then a else { a with O := Tr.oreadO F a.O (a.openV n i) m, P := Tr.oreadP a.P a.O (a.openV n i) m }
theorem KA.Ok.read {a : KA} {T : Int} (h : a.Ok T) (hT : T ≤ 900000) {F : Tr.FF} (hF : F.Sh) (n i m : Int) : (a.readA F n i m).Ok (T + 1) := by
  unfold KA.readA; split
  · exact h.up (by omega) (by omega)
  · exact h.io0 (by omega) (by omega) (h.wk.OI.read hF _ _) (Tr.oreadP_inv h.wk.PI _ _ _)
def KA.wroteA (a : KA) (F : Tr.FF) (n i : Int) (x : ByteArray) : KA := { a with O := Tr.owriteO F a.O (a.openV n i) x, P := Tr.owriteP a.P a.O (a.openV n i) x }
def KA.writeE (a : KA) (F : Tr.FF) (n i : Int) (x : ByteArray) : Int := if a.openE n i ≠ 0 then a.openE n i else Tr.owriteE F a.P a.O (a.openV n i) x
def KA.writeV (a : KA) (F : Tr.FF) (n i : Int) (x : ByteArray) : Int := if a.openE n i ≠ 0 then 0 else Tr.owriteV F a.P a.O (a.openV n i) x
def KA.writeA (a : KA) (F : Tr.FF) (n i : Int) (x : ByteArray) : KA := if a.openE n i ≠ 0 then a else if Tr.owriteE F a.P a.O (a.openV n i) x = 12 then (a.wroteA F n i x).sendA n 2 false else a.wroteA F n i x
theorem KA.Ok.wrote {a : KA} {T : Int} (h : a.Ok T) (hT : T ≤ 900000) (F : Tr.FF) (n i : Int) (x : ByteArray) : (a.wroteA F n i x).Ok (T + 1) :=
  h.io0 (by omega) (by omega) (h.wk.OI.write_ F _ _) (Tr.owriteP_inv h.wk.PI _ _ _)
theorem KA.Ok.write {a : KA} {T : Int} (h : a.Ok T) (hT : T ≤ 900000) (F : Tr.FF) (n i : Int) (x : ByteArray) : (a.writeA F n i x).Ok (T + 1) := by
  unfold KA.writeA; split
  · exact h.up (by omega) (by omega)
  · split
    · exact (h.wrote hT F n i x).send n 2 false (by simp)
    · exact h.wrote hT F n i x
def KA.seekE (a : KA) (n i z : Int) : Int := if a.openE n i ≠ 0 then a.openE n i else Tr.seekE a.O (a.openV n i) z
def KA.seekA (a : KA) (n i z : Int) : KA := if a.openE n i ≠ 0 then a else { a with O := Tr.seekO a.O (a.openV n i) z, P := a.P }
theorem KA.Ok.seek {a : KA} {T : Int} (h : a.Ok T) (hT : T ≤ 900000) (n i z : Int) : (a.seekA n i z).Ok (T + 1) := by
  unfold KA.seekA; split
  · exact h.up (by omega) (by omega)
  · exact h.io0 (by omega) (by omega) (h.wk.OI.seek _ _) (h.wk.PI.mono (by omega))

end Go.X.Kn

namespace Go.X.Kn
open Go Go.X
/-! ### a process is forked -/
theorem Sys.forkAt {v : Vm.VB} {f : Nat → Vm.MS} {k z c : Nat} (h : Vm.Sys v f k) (hz : z < k) (hc : c < k) (hne : c ≠ z) (hn : f c = Vm.MS.nil) (hk : k ≤ 60) : Vm.Sys (v.fork (f z)) (fupd (fupd f z (f z).bare) c (f z).bare) k := by
  have hm := h.mo z hz
  have hb : (f z).bare.Ok := ⟨hm.f, hm.lo, hm.un, fun _ _ => rfl, hm.inj⟩
  have e0 : ∀ g : Int, 0 ≤ g → Vm.cM (fun _ : Int => (0 : Int)) g 16 = 0 := fun g hg => by
    have key : ∀ j, Vm.cM (fun _ : Int => (0 : Int)) g j = 0 := fun j => by
      induction j with
      | zero => rfl
      | succ j ih => rw [Vm.cM, ih, if_neg (by omega)]; rfl
    exact key 16
  refine ⟨(h.acc.fork hm (fun g a b => ⟨Vm.tot_ge f g hz, by have := Vm.tot_nn f g k; show Vm.tot f g k ≤ 1000; omega⟩)).congr (fun g a b => ?_), fun j hj => ?_⟩
  · have e1 : (fupd f z (f z).bare) c = Vm.MS.nil := by rw [fupd_ne _ _ hne]; exact hn
    rw [show fupd (fupd f z (f z).bare) c (f z).bare = Vm.fupd (Vm.fupd f z (f z).bare) c (f z).bare from rfl]
    rw [Vm.tot_upd _ g hc, Vm.tot_upd f g hz, show Vm.fupd f z (f z).bare c = Vm.MS.nil from e1]
    show _ = Vm.tot f g k - Vm.cM (f z).fr g 16 + Vm.cM (f z).fr g 16 - Vm.cM (fun _ : Int => (0 : Int)) g 16 + Vm.cM (f z).fr g 16
    rw [e0 g a]; omega
  · show (fupd (fupd f z (f z).bare) c (f z).bare j).Ok
    by_cases e : j = c
    · subst e; rw [fupd_eq]; exact hb
    · rw [fupd_ne _ _ e]
      by_cases e2 : j = z
      · subst e2; rw [fupd_eq]; exact hb
      · rw [fupd_ne _ _ e2]; exact h.mo j hj
def KA.free (a : KA) : Int := match firstN (fun k => decide ((a.u k).st = 0)) 20 with
  | some k => k
  | none => 20
theorem KA.free_at {a : KA} {c : Int} (h0 : 0 ≤ c ∧ c < 20) (h1 : (a.u c).st = 0) (h2 : ∀ j : Int, 0 ≤ j → j < c → (a.u j).st ≠ 0) : a.free = c := by
  unfold KA.free
  rw [firstN_some (k := c) (m := 20) h0.1 (by omega) (decide_eq_true h1) (fun j j0 j1 => decide_eq_false (h2 j j0 j1))]
  show ((c.toNat : Nat) : Int) = c; omega
theorem KA.free_no {a : KA} (h : ∀ j : Int, 0 ≤ j → j < 20 → (a.u j).st ≠ 0) : a.free = 20 := by
  unfold KA.free
  rw [firstN_none (fun j j0 j1 => decide_eq_false (h j j0 (by omega)))]
theorem KA.free_spec (a : KA) : a.free = 20 ∨ ((0 ≤ a.free ∧ a.free < 20) ∧ (a.u a.free).st = 0) := by
  unfold KA.free
  cases e : firstN (fun k => decide ((a.u k).st = 0)) 20 with
  | none => exact .inl rfl
  | some k =>
    obtain ⟨h1, h2, _⟩ := Vm.firstN_spec e
    exact .inr ⟨⟨by show (0 : Int) ≤ (k : Int); omega, by show (k : Int) < 20; omega⟩, of_decide_eq_true h2⟩
def shN (f : Int → Int) (O : Tr.OS) : Nat → Tr.OS
  | 0 => O
  | k + 1 => if f (k : Int) > 0 then Tr.shareO (shN f O k) (f (k : Int) - 1) else shN f O k
theorem shN_hit {f : Int → Int} (O : Tr.OS) {i : Int} (hi : 0 ≤ i) (h : f i > 0) : shN f O (i + 1).toNat = Tr.shareO (shN f O i.toNat) (f i - 1) := by
  rw [show (i + 1).toNat = i.toNat + 1 by omega]
  conv => lhs; unfold shN
  rw [show ((i.toNat : Nat) : Int) = i by omega, if_pos h]
theorem shN_miss {f : Int → Int} (O : Tr.OS) {i : Int} (hi : 0 ≤ i) (h : ¬ f i > 0) : shN f O (i + 1).toNat = shN f O i.toNat := by
  rw [show (i + 1).toNat = i.toNat + 1 by omega]
  conv => lhs; unfold shN
  rw [show ((i.toNat : Nat) : Int) = i by omega, if_neg h]
theorem shN_inv {f : Int → Int} {O : Tr.OS} {T : Int} (h : O.Inv T) : ∀ k : Nat, (shN f O k).Inv (T + k)
  | 0 => by have := h; simpa [shN] using this
  | k + 1 => by
    have h1 := shN_inv (f := f) h k
    unfold shN
    split
    · have := h1.share (f (k : Int) - 1)
      rwa [show T + (k : Int) + 1 = T + ((k + 1 : Nat) : Int) by omega] at this
    · exact h1.mono (by omega)
def KA.sz (a : KA) (n : Int) : Int := (a.s.in_ n).1
def KA.res (a : KA) (n : Int) : Int := (a.f n.toNat).res
def KA.gC (a : KA) (n : Int) : Gr.TG := a.g.charge (a.u n).grp 1 (a.res n)
def KA.gE (a : KA) (n : Int) : Int := a.g.chargeE (a.u n).grp 1 (a.res n)
def KA.inE (a : KA) (n : Int) (own : Bool) : Int := if own then (a.s.add a.dep (a.sz n)).2.1 else 0
def KA.inZ (a : KA) (n : Int) (own : Bool) : Int := if own then (a.s.add a.dep (a.sz n)).1 else a.sz n
def KA.sA (a : KA) (n : Int) (own : Bool) : Sp.SS := if own then (a.s.add a.dep (a.sz n)).2.2 else a.s
def KA.dA (a : KA) (n : Int) (own : Bool) : Int → Nat := if own then a.s.depA a.dep (a.sz n) else a.dep
def KA.kidP (a : KA) (n : Int) : PA := ⟨1, n, (a.u n).grp, 0, (a.u n).fd, (a.u n).bx.child⟩
def KA.forkC (a : KA) (n : Int) (own : Bool) : KA :=
  { u := fset a.u a.free (a.kidP n), g := a.gC n, s := ((a.sA n own).enter (a.dA n own) (a.inZ n own) a.free).2.2, dep := a.dA n own, v := a.v.fork (a.f n.toNat), f := fupd (fupd a.f n.toNat (a.f n.toNat).bare) a.free.toNat (a.f n.toNat).bare, P := a.P, O := shN (a.u n).fd a.O 6 }
def KA.forkE (a : KA) (n : Int) (own : Bool) : Int := if a.live n ≠ 0 then a.live n else if a.free = 20 then 4 else if a.gE n ≠ 0 then a.gE n else a.inE n own
def KA.forkA (a : KA) (n : Int) (own : Bool) : KA := if a.live n ≠ 0 ∨ a.free = 20 ∨ a.gE n ≠ 0 then a else
  if a.inE n own ≠ 0 then { a with g := (a.gC n).unch (a.u n).grp 1 (a.res n) } else a.forkC n own
def KA.forkV (a : KA) (n : Int) (own : Bool) : Int := if a.forkE n own = 0 then ((a.forkC n own).s.pid a.free (a.sz n)).1 else 0
theorem charge_err {g : Gr.TG} {n p m : Int} (h : g.chargeE n p m ≠ 0) : g.charge n p m = g := if_neg h
theorem child_first (x : Sg.BS) : x.child.first 0 = 0 := by
  unfold Sg.BS.first
  rw [firstN_none (fun j _ _ => by show (false && _) = false; rfl)]
theorem SS.Inv.is0 {s : Sp.SS} {dep : Int → Nat} (h : s.Inv dep) {p : Int} (hp : 0 ≤ p ∧ p < 20) (hl : 0 ≤ s.loc p) : s.in_ p = (s.loc p, 0) ∧ s.is (s.loc p) = 0 ∧ (0 ≤ s.loc p ∧ s.loc p < 6) ∧ s.here (s.loc p) = true := by
  have h1 := h.loc p
  have h2 := h.at_ p hp.1 hp.2 hl
  refine ⟨by unfold Sp.SS.in_; rw [if_neg (by omega), if_neg (by omega)], ?_, by omega, h2⟩
  unfold Sp.SS.is; rw [if_neg (by omega), if_pos h2]
theorem SS.Inv.kept {s : Sp.SS} {dep : Int → Nat} (h : s.Inv dep) {n p : Int} (hn : 0 ≤ n ∧ n < 6 ∧ s.here n = true) (hp : 0 ≤ p ∧ p < 20) (hl : ¬ 0 ≤ s.loc p) {z q : Int} (hw : 0 ≤ s.who z q) : (s.entered dep n p).who z q = s.who z q := by
  obtain ⟨e1, e2⟩ := Sp.enterL_is p (s.way dep n) s.who (Sp.SS.way_nodup h.D _ n rfl hn.1 hn.2.1 hn.2.2) (fun a _ => h.free hp hl a)
  show Sp.enterL s.who p (s.way dep n) z q = _
  by_cases hm : z ∈ s.way dep n
  · obtain ⟨k, _, _, k3, k4⟩ := e2 z hm
    rw [k4, if_neg (by rintro rfl; omega)]
  · exact e1 z hm q
/-- where a child goes -/
structure KA.FkI (a : KA) (n : Int) (own : Bool) : Prop where
  rng : (0 ≤ a.free ∧ a.free < 20) ∧ (a.u a.free).st = 0
  loc : ¬ 0 ≤ (a.sA n own).loc a.free
  inv : (a.sA n own).Inv (a.dA n own)
  zr : 0 ≤ a.inZ n own ∧ a.inZ n own < 6 ∧ (a.sA n own).here (a.inZ n own) = true
  is : (a.sA n own).is (a.inZ n own) = 0
  lo : (a.sA n own).loc = a.s.loc
  who : (a.sA n own).who = a.s.who
  d0 : a.dA n own 0 = a.dep 0
  en : (a.forkC n own).s = (a.sA n own).entered (a.dA n own) (a.inZ n own) a.free
  z : 0 ≤ a.sz n ∧ a.sz n < 6 ∧ a.s.here (a.sz n) = true
  way : a.sz n ∈ (a.sA n own).way (a.dA n own) (a.inZ n own)
  hr : ∀ y, a.s.here y = true → (a.sA n own).here y = true
theorem KA.Wk.fkI {a : KA} {T : Int} (w : a.Wk T) (hh : a.s.here 0 = true) {n : Int} {own : Bool} (hl : a.live n = 0) (hf : a.free ≠ 20) (hE : a.inE n own = 0) : a.FkI n own := by
  obtain ⟨hn, hs⟩ := KA.live_0 hl
  have hrng := a.free_spec.resolve_left hf
  have h1 := (w.lc n hn.1 hn.2).1 (by omega)
  obtain ⟨i1, i2, i3, i4⟩ := SS.Inv.is0 w.sI hn h1
  have ez : a.sz n = a.s.loc n := by unfold KA.sz; rw [i1]
  have hlo : ¬ 0 ≤ a.s.loc a.free := fun q => ((w.lc _ hrng.1.1 hrng.1.2).2 q) hrng.2
  cases own with
  | false =>
    have e1 : a.sA n false = a.s := rfl
    have e2 : a.dA n false = a.dep := rfl
    have e3 : a.inZ n false = a.s.loc n := ez
    refine ⟨hrng, hlo, w.sI, by rw [e3]; exact ⟨i3.1, i3.2, i4⟩, by rw [e3]; exact i2, rfl, rfl, rfl, ?_, by rw [ez]; exact ⟨i3.1, i3.2, i4⟩, ?_, fun y q => q⟩
    · show (a.s.enter a.dep (a.inZ n false) a.free).2.2 = _
      rw [e3, Sp.SS.enter_ok i2 (by omega) hlo]; rfl
    · rw [ez, e3]
      show _ ∈ a.s.way a.dep (a.s.loc n)
      unfold Sp.SS.way
      obtain ⟨d1, _, _⟩ := w.sI.D.d _ i3.1 i3.2 i4
      obtain ⟨k, hk⟩ : ∃ k, a.dep (a.s.loc n) = k + 1 := ⟨a.dep (a.s.loc n) - 1, by omega⟩
      rw [hk]; exact .head _
  | true =>
    have hE : (a.s.add a.dep (a.sz n)).2.1 = 0 := hE
    rcases a.s.add_cases a.dep (a.sz n) with ⟨q, _, _⟩ | ⟨k, q1, q2, q3, q4, q5⟩
    · exact absurd hE q
    · have e1 : a.sA n true = { a.s with here := fset a.s.here k true, par := fset a.s.par k (a.sz n) } := by show (a.s.add a.dep (a.sz n)).2.2 = _; rw [q5]
      have e2 : a.dA n true = fset a.dep k (a.dep (a.sz n) + 1) := by show a.s.depA a.dep (a.sz n) = _; unfold Sp.SS.depA; rw [if_pos hE, q5]
      have e3 : a.inZ n true = k := by show (a.s.add a.dep (a.sz n)).1 = k; rw [q5]
      have hkh : (a.sA n true).here k = true := by rw [e1]; exact fset_eq _ _ _
      have his : (a.sA n true).is k = 0 := by unfold Sp.SS.is; rw [if_neg (by omega), if_pos hkh]
      have hlo2 : ¬ 0 ≤ (a.sA n true).loc a.free := by rw [e1]; exact hlo
      have hk0 : (0 : Int) ≠ k := by rintro rfl; rw [hh] at q4; cases q4
      have hkz : a.sz n ≠ k := by rintro e; rw [ez] at e; rw [e, q4] at i4; cases i4
      refine ⟨hrng, hlo2, w.sI.add _, by rw [e3]; exact ⟨q3.1, q3.2, hkh⟩, by rw [e3]; exact his, by rw [e1], by rw [e1], by rw [e2, fset_ne _ _ hk0], ?_, by rw [ez]; exact ⟨i3.1, i3.2, i4⟩, ?_, fun y q => ?_⟩
      · show ((a.sA n true).enter (a.dA n true) (a.inZ n true) a.free).2.2 = _
        rw [e3, Sp.SS.enter_ok his (by omega) hlo2]
      · rw [e3, e2, e1]
        unfold Sp.SS.way
        rw [fset_eq]
        refine .tail _ ?_
        show a.sz n ∈ Sp.SS.wayF _ (a.dep (a.sz n)) (fset a.s.par k (a.sz n) k)
        rw [fset_eq]
        obtain ⟨d1, _, _⟩ := w.sI.D.d _ i3.1 i3.2 i4
        obtain ⟨j, hj⟩ : ∃ j, a.dep (a.sz n) = j + 1 := ⟨a.dep (a.sz n) - 1, by rw [ez]; omega⟩
        rw [hj]; exact .head _
      · rw [e1]
        show fset a.s.here k true y = true
        by_cases e : y = k
        · subst e; exact fset_eq _ _ _
        · rw [fset_ne _ _ e]; exact q
theorem KA.FkI.loc_ {a : KA} {n : Int} {own : Bool} (h : a.FkI n own) : (a.forkC n own).s.loc = fset a.s.loc a.free (a.inZ n own) := by
  rw [h.en]; show fset (a.sA n own).loc a.free (a.inZ n own) = _; rw [h.lo]
theorem KA.FkI.here_ {a : KA} {n : Int} {own : Bool} (h : a.FkI n own) : (a.forkC n own).s.here = (a.sA n own).here := by rw [h.en]; rfl
theorem KA.FkI.keep {a : KA} {n : Int} {own : Bool} (h : a.FkI n own) {z q : Int} (hw : 0 ≤ a.s.who z q) : (a.forkC n own).s.who z q = a.s.who z q := by
  rw [h.en, SS.Inv.kept h.inv h.zr h.rng.1 h.loc (by rw [h.who]; exact hw), h.who]
theorem KA.FkI.sI {a : KA} {n : Int} {own : Bool} (h : a.FkI n own) : (a.forkC n own).s.Inv (a.dA n own) := by rw [h.en]; exact h.inv.entered h.zr h.rng.1 h.loc
/-- the child has a number in its parent's space -/
theorem KA.FkI.pid {a : KA} {n : Int} {own : Bool} (h : a.FkI n own) : ((a.forkC n own).s.pid a.free (a.sz n)).2 = 0 ∧ (a.forkC n own).s.who (a.sz n) ((a.forkC n own).s.pid a.free (a.sz n)).1 = a.free ∧ 1 ≤ ((a.forkC n own).s.pid a.free (a.sz n)).1 ∧ ((a.forkC n own).s.pid a.free (a.sz n)).1 ≤ 20 := by
  have hI := h.sI
  have hl : (a.forkC n own).s.loc a.free = a.inZ n own := by rw [h.loc_, fset_eq]
  have hway : (a.forkC n own).s.way (a.dA n own) (a.inZ n own) = (a.sA n own).way (a.dA n own) (a.inZ n own) := by
    rw [h.en]; exact Sp.SS.wayF_congr (s := a.sA n own) (s' := (a.sA n own).entered (a.dA n own) (a.inZ n own) a.free) rfl _ _
  obtain ⟨q, hq⟩ := hI.has a.free h.rng.1.1 h.rng.1.2 (by rw [hl]; exact h.zr.1) (a.sz n) (by rw [hl, hway]; exact h.way)
  have hzh : (a.forkC n own).s.here (a.sz n) = true := by rw [h.here_]; exact h.hr _ h.z.2.2
  have his : (a.forkC n own).s.is (a.sz n) = 0 := by unfold Sp.SS.is; rw [if_neg (by have := h.z; omega), if_pos hzh]
  obtain ⟨_, q2, q3, _⟩ := hI.mem _ q a.free h.rng.1.1 hq
  have e : (a.forkC n own).s.pid a.free (a.sz n) = (q, 0) := Sp.SS.pid_some his (by have := h.rng; omega) (by omega) hq (fun j j0 j1 e => by
    have := hI.inj (a.sz n) q j (by rw [hq]; exact h.rng.1.1) (e.trans hq.symm)
    omega)
  rw [e]
  exact ⟨rfl, hq, by show 1 ≤ q; omega, by show q ≤ 20; omega⟩
theorem KA.Ok.forkC {a : KA} {T : Int} (h : a.Ok T) (hT : T ≤ 900000) {n : Int} {own : Bool} (hl : a.live n = 0) (hf : a.free ≠ 20) (hE : a.inE n own = 0) : (a.forkC n own).Ok (T + 10) := by
  have w := h.wk
  have hI := w.fkI (SS.Inv.at0 w.sI h.r0.loc) hl hf hE
  have hrg := hI.rng.1
  obtain ⟨hn, hs⟩ := KA.live_0 hl
  have hne : n ≠ a.free := by rintro e; have := hI.rng.2; rw [← e, hs] at this; exact absurd this (by decide)
  have hu : ∀ m, m ≠ a.free → (a.forkC n own).u m = a.u m := fun m hm => fset_ne _ _ hm
  have huc : (a.forkC n own).u a.free = a.kidP n := fset_eq _ _ _
  have hnil : a.f a.free.toNat = Vm.MS.nil := w.nilf _ hI.rng.1.1 hI.rng.1.2 (by rw [hI.rng.2]; decide)
  refine ⟨⟨⟨by have := w.T0; omega, by omega⟩, w.gI.charge _ _ _, (w.gS.charge w.gI.ok _ _ _).mono (by omega), hI.sI, ?_, fun m a0 a1 q => ?_, w.PI.mono (by omega), (shN_inv w.OI 6).mono (by omega), fun m a0 a1 => ?_, fun m => ?_, fun m hm => ?_, fun m i => ?_, fun m => ?_⟩, fun p h0 h1 _ h3 => ?_, ⟨?_, ?_, ?_⟩, hI.d0.trans h.d0⟩
  · exact Sys.forkAt w.sys (by omega) (by omega) (by omega) hnil (by omega)
  · by_cases e : m = a.free
    · subst e; rw [huc] at q; exact absurd rfl q
    · rw [hu m e] at q
      show fupd (fupd a.f n.toNat _) a.free.toNat _ m.toNat = _
      have : m ≠ n := by rintro rfl; exact q hs
      rw [fupd_ne _ _ (by omega), fupd_ne _ _ (by omega)]
      exact w.nilf m a0 a1 q
  · rw [hI.loc_]
    by_cases e : m = a.free
    · subst e; rw [huc, fset_eq]
      exact ⟨fun _ => hI.zr.1, fun _ => (by decide : (1 : Int) ≠ 0)⟩
    · rw [hu m e, fset_ne _ _ e]; exact w.lc m a0 a1
  · by_cases e : m = a.free
    · subst e; rw [huc]; exact .inr (.inl rfl)
    · rw [hu m e]; exact w.st m
  · have := hI.rng
    rw [hu m (by omega)]; exact w.out m hm
  · by_cases e : m = a.free
    · subst e; rw [huc]; exact w.fd n i
    · rw [hu m e]; exact w.fd m i
  · by_cases e : m = a.free
    · subst e; rw [huc]; rfl
    · rw [hu m e]; exact w.bx m
  · by_cases e : p = a.free
    · subst e; rw [huc]; exact .inl (child_first _)
    · rw [hu p e] at h3 ⊢
      rw [hI.loc_, fset_ne _ _ e]
      rcases h.hx p h0 h1 (by omega) h3 with q | q
      · exact .inl q
      · right; rw [hI.keep (by rw [q]; exact h0)]; exact q
  · rw [hu 0 (by rintro e; have := hI.rng.2; rw [← e, h.r0.st] at this; exact absurd this (by decide))]; exact h.r0.st
  · rw [hI.loc_, fset_ne _ _ (by rintro e; have := hI.rng.2; rw [← e, h.r0.st] at this; exact absurd this (by decide))]; exact h.r0.loc
  · rw [hI.keep (by rw [h.r0.who]; omega)]; exact h.r0.who
theorem KA.Wk.grp_ {a : KA} {T T' : Int} (w : a.Wk T) (hT : T ≤ T') (hT' : T' ≤ 1000000) {g : Gr.TG} (hg : g.Inv) (hS : g.Small (1000 * T')) : ({ a with g := g } : KA).Wk T' := ⟨⟨by have := w.T0; omega, hT'⟩, hg, hS, w.sI, w.sys, w.nilf, w.PI.mono hT, w.OI.mono hT, w.lc, w.st, w.out, w.fd, w.bx⟩
theorem KA.Ok.grp_ {a : KA} {T T' : Int} (h : a.Ok T) (hT : T ≤ T') (hT' : T' ≤ 1000000) {g : Gr.TG} (hg : g.Inv) (hS : g.Small (1000 * T')) : ({ a with g := g } : KA).Ok T' := ⟨h.wk.grp_ hT hT' hg hS, h.hx.same (fun _ => ⟨rfl, rfl⟩) rfl, h.r0.same rfl rfl, h.d0⟩
theorem KA.Ok.fork {a : KA} {T : Int} (h : a.Ok T) (hT : T ≤ 900000) (n : Int) (own : Bool) : (a.forkA n own).Ok (T + 10) := by
  unfold KA.forkA; split
  · exact h.up (by omega) (by omega)
  · rename_i c
    split
    · exact h.grp_ (by omega) (by omega) ((h.wk.gI.charge _ _ _).unch _ _ _) (TG.unch0 (h.wk.gI.charge _ _ _) ((h.wk.gS.charge h.wk.gI.ok _ _ _).mono (by omega)) _ _ _)
    · exact h.forkC hT (by omega) (by omega) (by omega)
/-! ### a child that is gone is told -/
structure WF where
  kids : Int
  child : Int
  pid : Int
  code : Int
def KA.waitF (a : KA) (n : Int) : Nat → WF
  | 0 => ⟨0, -1, 0, 0⟩
  | k + 1 =>
    if (a.u (k : Int)).st = 0 ∨ (a.u (k : Int)).par ≠ n then a.waitF n k else
    if (a.s.pid k (a.sz n)).2 = 0 ∧ (a.u (k : Int)).st = 2 ∧ ((a.waitF n k).child < 0 ∨ (a.s.pid k (a.sz n)).1 < (a.waitF n k).pid) then ⟨(a.waitF n k).kids + 1, k, (a.s.pid k (a.sz n)).1, (a.u (k : Int)).code⟩
    else ⟨(a.waitF n k).kids + 1, (a.waitF n k).child, (a.waitF n k).pid, (a.waitF n k).code⟩
def KA.waitE (a : KA) (n : Int) : Int := if a.live n ≠ 0 then a.live n else if (a.waitF n 20).kids = 0 then 2 else if (a.waitF n 20).child < 0 then 8 else 0
def KA.waitA (a : KA) (n : Int) : KA := if a.waitE n = 0 then (a.awayA (a.waitF n 20).child).shutA (a.sz (a.waitF n 20).child) else a
def KA.waitP (a : KA) (n : Int) : Int := if a.waitE n = 0 then (a.waitF n 20).pid else 0
def KA.waitC (a : KA) (n : Int) : Int := if a.waitE n = 0 then (a.waitF n 20).code else 0
/-- what is known of the child that is told of -/
def KA.WI (a : KA) (n : Int) (x : WF) (k : Int) : Prop := (0 ≤ x.kids ∧ x.kids ≤ k) ∧ (x.child < 0 ∨ ((0 ≤ x.child ∧ x.child < k) ∧ (a.u x.child).st = 2 ∧ (a.u x.child).par = n ∧ a.s.pid x.child (a.sz n) = (x.pid, 0) ∧ x.code = (a.u x.child).code))
theorem KA.waitF_I (a : KA) (n : Int) : ∀ k : Nat, a.WI n (a.waitF n k) k
  | 0 => ⟨⟨Int.le_refl _, Int.le_refl _⟩, .inl (by show (-1 : Int) < 0; omega)⟩
  | k + 1 => by
    obtain ⟨h1, h2⟩ := a.waitF_I n k
    unfold KA.waitF
    split
    · refine ⟨by omega, ?_⟩
      rcases h2 with q | ⟨q1, q2, q3⟩
      · exact .inl q
      · exact .inr ⟨by omega, q2, q3⟩
    · rename_i c
      split
      · rename_i d
        refine ⟨by show 0 ≤ _ + (1 : Int) ∧ _ + (1 : Int) ≤ _; omega, .inr ⟨by show (0 : Int) ≤ (k : Int) ∧ (k : Int) < _; omega, d.2.1, Decidable.byContradiction fun q => c (.inr q), Prod.ext rfl d.1, rfl⟩⟩
      · refine ⟨by show 0 ≤ _ + (1 : Int) ∧ _ + (1 : Int) ≤ _; omega, ?_⟩
        rcases h2 with q | ⟨q1, q2, q3⟩
        · exact .inl q
        · exact .inr ⟨⟨q1.1, Int.lt_trans q1.2 (by omega)⟩, q2, q3⟩
theorem KA.wait_0 {a : KA} {n : Int} (h : a.waitE n = 0) : a.live n = 0 ∧ (0 ≤ (a.waitF n 20).child ∧ (a.waitF n 20).child < 20) ∧ (a.u (a.waitF n 20).child).st = 2 ∧ (a.u (a.waitF n 20).child).par = n ∧ a.s.pid (a.waitF n 20).child (a.sz n) = ((a.waitF n 20).pid, 0) ∧ (a.waitF n 20).code = (a.u (a.waitF n 20).child).code := by
  unfold KA.waitE at h
  split at h
  · omega
  · split at h
    · omega
    · split at h
      · omega
      · have := (a.waitF_I n 20).2.resolve_left (by assumption)
        exact ⟨by omega, this⟩
theorem KA.Ok.away {a : KA} {T : Int} (h : a.Ok T) {m : Int} (hm : 0 ≤ m ∧ m < 20) (hs : (a.u m).st = 2) : (a.awayA m).Ok T :=
  ⟨h.wk.awayA hm (by omega), h.hx.awayA, h.r0.away (by rintro rfl; have := h.r0.st; omega), h.d0⟩
theorem KA.Ok.shut {a : KA} {T : Int} (h : a.Ok T) (z : Int) : (a.shutA z).Ok T := ⟨h.wk.shutA z, h.hx.shutA z, h.r0.shut z, h.d0⟩
theorem KA.Ok.wait {a : KA} {T : Int} (h : a.Ok T) (n : Int) : (a.waitA n).Ok T := by
  unfold KA.waitA; split
  · rename_i c
    obtain ⟨_, h2, h3, _⟩ := KA.wait_0 c
    exact (h.away h2 h3).shut _
  · exact h
theorem kp_fork {a : KA} {b : KZ} {c c' : KC} {T : Int} (w : a.Wk T) {n : Int} {own : Bool} (hI : a.FkI n own) {nb : Nat} (hm : c'.mb = fupd c.mb a.free.toNat nb) {K : KP} (hu : K.u = (kp a b c).u) (hk : (K.gb = b.gb ∧ K.sb = b.sb ∧ K.qb = b.qb ∧ K.bb = b.bb) ∧ K.tb = b.tb ∧ K.pi = b.pi ∧ K.ob = b.ob) (hms : K.ms = (kp (a.forkC n own) b c').ms) : K.put a.free ((kp a b c).kid n nb) = kp (a.forkC n own) b c' := by
  refine KP.ext (fun m => ?_) hms hk
  by_cases e : m = a.free
  · subst e
    rw [KP.put_u]
    show _ = (fset a.u a.free (a.kidP n) a.free).pu (c'.mb a.free.toNat)
    rw [fset_eq, hm, fupd_eq]
    rfl
  · rw [KP.put_ne _ _ e, hu]
    show (a.u m).pu (c.mb m.toNat) = (fset a.u a.free (a.kidP n) m).pu (c'.mb m.toNat)
    rw [fset_ne _ _ e, hm]
    by_cases q : m.toNat = a.free.toNat
    · have := hI.rng
      rw [w.out m (by omega)]; rfl
    · rw [fupd_ne _ _ q]
theorem lvA_fork {a : KA} {n : Int} {own : Bool} (hI : a.FkI n own) : lvA (a.forkC n own) = inP (lvA a) a.free.toNat := (lvA_congr fun _ _ _ => Iff.rfl).trans (lvA_new (p := a.kidP n) hI.rng.1 (by decide : (1 : Int) ≠ 0))
theorem hrA_fork {a : KA} {n : Int} (hI : a.FkI n false) : hrA (a.forkC n false) = hrA a := by
  unfold hrA; rw [hI.here_]; rfl
theorem hrA_forkT {a : KA} {n : Int} (hI : a.FkI n true) (hE : (a.s.add a.dep (a.s.in_ n).1).2.1 = 0) : hrA (a.forkC n true) = inP (hrA a) (a.s.add a.dep (a.s.in_ n).1).1.toNat := by
  have h2 : (a.sA n true).here = fset a.s.here (a.s.add a.dep (a.s.in_ n).1).1 true := by
    show (a.s.add a.dep (a.s.in_ n).1).2.2.here = _
    rcases a.s.add_cases a.dep (a.s.in_ n).1 with ⟨q, _, _⟩ | ⟨k, _, _, _, _, q5⟩
    · exact absurd hE q
    · rw [q5]
  have hz := hI.zr
  have hz : 0 ≤ (a.s.add a.dep (a.s.in_ n).1).1 ∧ (a.s.add a.dep (a.s.in_ n).1).1 < 6 := ⟨hz.1, hz.2.1⟩
  funext j
  rw [Bool.eq_iff_iff, inP_iff, hrA_iff, hrA_iff, hI.here_, h2]
  by_cases e : (j : Int) = (a.s.add a.dep (a.s.in_ n).1).1
  · rw [e, fset_eq]
    exact ⟨fun _ => .inr (by omega), fun _ => ⟨by omega, rfl⟩⟩
  · rw [fset_ne _ _ e]
    constructor
    · rintro q; exact .inl q
    · rintro (q | q)
      · exact q
      · exact absurd q (by omega)
theorem hold_roots2 (F : Tr.FF) (n : Int) : (F.hold n).roots = F.roots := by unfold Tr.FF.hold; split <;> rfl
theorem holdM_roots : ∀ (l : List Tr.MT) (F : Tr.FF), (Tr.holdM F l).roots = F.roots
  | [], _ => rfl
  | m :: r, F => (holdM_roots r _).trans ((hold_roots2 _ _).trans (hold_roots2 _ _))
theorem copyF_roots2 (F : Tr.FF) (l : List Tr.MT) (r : Tr.WH) : (Tr.copyF F l r).roots = F.roots := (holdM_roots l _).trans (hold_roots2 _ _)
theorem SS.add_new {s : Sp.SS} {dep : Int → Nat} {p : Int} (h : (s.add dep p).2.1 = 0) : (0 ≤ (s.add dep p).1 ∧ (s.add dep p).1 < 6) ∧ s.here (s.add dep p).1 = false ∧ (s.add dep p).2.2.here = fset s.here (s.add dep p).1 true := by
  rcases s.add_cases dep p with ⟨q, _, _⟩ | ⟨k, _, _, h3, h4, q5⟩
  · exact absurd h q
  · rw [q5]; exact ⟨h3, h4, rfl⟩
theorem hrA_no {a : KA} {z : Int} (h : 0 ≤ z ∧ z < 6) (hs : a.s.here z = false) : hrA a z.toNat = false := by
  rw [← Bool.not_eq_true, hrA_iff]
  rintro ⟨_, q⟩
  rw [show ((z.toNat : Nat) : Int) = z from by omega, hs] at q; cases q
theorem lvA_no {a : KA} {n : Int} (h : 0 ≤ n ∧ n < 20) (hs : (a.u n).st = 0) : lvA a n.toNat = false := by
  rw [← Bool.not_eq_true]
  unfold lvA
  rw [decide_eq_true_iff]
  rintro ⟨_, q⟩
  rw [show ((n.toNat : Nat) : Int) = n from by omega] at q
  exact q hs
theorem KA.waitF_next (a : KA) (n : Int) {i : Int} (h : 0 ≤ i) : a.waitF n (i + 1).toNat =
    if (a.u i).st = 0 ∨ (a.u i).par ≠ n then a.waitF n i.toNat else
    if (a.s.pid i (a.sz n)).2 = 0 ∧ (a.u i).st = 2 ∧ ((a.waitF n i.toNat).child < 0 ∨ (a.s.pid i (a.sz n)).1 < (a.waitF n i.toNat).pid) then ⟨(a.waitF n i.toNat).kids + 1, i, (a.s.pid i (a.sz n)).1, (a.u i).code⟩
    else ⟨(a.waitF n i.toNat).kids + 1, (a.waitF n i.toNat).child, (a.waitF n i.toNat).pid, (a.waitF n i.toNat).code⟩ := by
  rw [show (i + 1).toNat = i.toNat + 1 by omega]
  conv => lhs; unfold KA.waitF
  rw [show ((i.toNat : Nat) : Int) = i by omega]

end Go.X.Kn

namespace Go.X.Kn
open Go Go.X
/-! ### TopKids: processes of one space -/
structure KI (k : KP) (mb : Nat → Nat) (s : Sp.SS) : Prop where
  kid : Kid k mb
  inv : s.Inv (fun _ => 1)
  h0 : s.here 0 = true
  hN : ∀ n, s.here n = true → n = 0
  loc : ∀ n, 0 ≤ n → n < 20 → (0 ≤ s.loc n ↔ (k.u n).st ≠ 0)
  one : s.who 0 1 = 0
  st0 : (k.u 0).st = 1
section
variable {k : KP} {mb : Nat → Nat} {s : Sp.SS}
theorem KI.hz (h : KI k mb s) (t : Int) : (s.in_ t).1 = 0 := by
  unfold Sp.SS.in_
  split
  · rfl
  · split
    · rfl
    · exact h.hN _ (h.inv.at_ t (by omega) (by omega) (by omega))
theorem KI.is0 (h : KI k mb s) : s.is 0 = 0 := by unfold Sp.SS.is; rw [if_neg (by omega), if_pos h.h0]
theorem KI.who_in (h : KI k mb s) {p : Int} (hp : 0 ≤ s.who 0 p) : (0 ≤ s.who 0 p ∧ s.who 0 p < 20) ∧ (1 ≤ p ∧ p ≤ 20) ∧ (k.u (s.who 0 p)).st ≠ 0 := by
  have h1 := h.inv.mem 0 p _ hp rfl
  exact ⟨⟨hp, h1.1⟩, by omega, (h.loc _ hp h1.1).1 h1.2.2.2.1⟩
theorem KI.live0 (h : KI k mb s) : k.live 0 = 0 := KP.live_of ⟨by omega, by omega⟩ h.st0
theorem KI.see (h : KI k mb s) {p : Int} (hp : 1 ≤ p ∧ p ≤ 20) : k.see s 0 p = if s.who 0 p < 0 then (0, 2) else if (k.u (s.who 0 p)).st = 1 then (s.who 0 p, 0) else (0, 8) := by
  have hf : s.find 0 p = if s.who 0 p < 0 then (0, 2) else (s.who 0 p, 0) := by
    unfold Sp.SS.find; rw [if_neg (by rw [h.is0]; omega), if_neg (by omega)]
  unfold KP.see
  rw [if_neg (by rw [h.live0]; omega), h.hz 0, hf]
  by_cases c : s.who 0 p < 0
  · rw [if_pos c, if_pos (show (2 : Int) ≠ 0 by omega), if_pos c]
  · rw [if_neg c, if_neg (show ¬ ((0 : Int) ≠ 0) by omega), if_neg c]
theorem KI.see8 (h : KI k mb s) {p : Int} (hp : 1 ≤ p ∧ p ≤ 20) : (k.see s 0 p).2 = 8 ↔ (0 ≤ s.who 0 p ∧ (k.u (s.who 0 p)).st = 2) := by
  rw [h.see hp]
  by_cases c : s.who 0 p < 0
  · rw [if_pos c]
    exact ⟨fun q => absurd (show (2 : Int) = 8 from q) (by omega), fun q => by omega⟩
  · rw [if_neg c]
    have hw := h.who_in (p := p) (by omega)
    have hs := h.kid.st _ hw.1.1 hw.1.2
    by_cases d : (k.u (s.who 0 p)).st = 1
    · rw [if_pos d]
      exact ⟨fun q => absurd (show (0 : Int) = 8 from q) (by omega), fun q => by omega⟩
    · rw [if_neg d]
      exact ⟨fun _ => ⟨by omega, by omega⟩, fun _ => rfl⟩
theorem KI.has (h : KI k mb s) {t : Int} (ht : 0 ≤ t ∧ t < 20) (hs : (k.u t).st ≠ 0) : (s.pid t 0).2 = 0 ∧ (1 ≤ (s.pid t 0).1 ∧ (s.pid t 0).1 ≤ 20) ∧ s.who 0 (s.pid t 0).1 = t := by
  have hl := (h.loc t ht.1 ht.2).2 hs
  have hl0 : s.loc t = 0 := h.hN _ (h.inv.at_ t ht.1 ht.2 hl)
  have hw : (0 : Int) ∈ s.way (fun _ => 1) (s.loc t) := by rw [hl0]; show (0 : Int) ∈ s.wayF 1 0; simp [Sp.SS.wayF]
  obtain ⟨q, hq⟩ := h.inv.has t ht.1 ht.2 hl 0 hw
  have hm := h.inv.mem 0 q t ht.1 hq
  unfold Sp.SS.pid
  rw [if_neg (by rw [h.is0]; omega), if_neg (by omega)]
  rw [firstN_some (k := q) (by omega) (by omega) (by simp [hq]) (fun j h1 h2 => by
    cases e : (s.who 0 j == t) with
    | false => rfl
    | true =>
      have e : s.who 0 j = t := by simpa using e
      have := h.inv.inj 0 q j (by omega) (by omega)
      omega)]
  show (0 : Int) = 0 ∧ (1 ≤ ((q.toNat : Nat) : Int) ∧ ((q.toNat : Nat) : Int) ≤ 20) ∧ s.who 0 ((q.toNat : Nat) : Int) = t
  rw [show ((q.toNat : Nat) : Int) = q from by omega]
  exact ⟨rfl, by omega, hq⟩
theorem KI.uniq (h : KI k mb s) {p q : Int} (hp : 0 ≤ s.who 0 p) (e : s.who 0 q = s.who 0 p) : q = p := h.inv.inj 0 p q hp e
theorem KI.fork (h : KI k mb s) {c n : Int} {nb : Nat} (hc : 0 ≤ c ∧ c < 20) (h0 : (k.u c).st = 0) : KI (k.put c (k.kid n nb)) (fupd mb c.toNat nb) (s.enter (fun _ => 1) 0 c).2.2 ∧ ∃ q, (2 ≤ q ∧ q ≤ 20) ∧ s.who 0 q < 0 ∧ (∀ p, (s.enter (fun _ => 1) 0 c).2.2.who 0 p = if p = q then c else s.who 0 p) ∧ (s.enter (fun _ => 1) 0 c).2.2.pid c 0 = (q, 0) := by
  have hl : ¬ 0 ≤ s.loc c := fun q => (h.loc c hc.1 hc.2).1 q h0
  have hc0 : c ≠ 0 := fun e => by rw [e, h.st0] at h0; omega
  have he : (s.enter (fun _ => 1) 0 c).2.2 = s.entered (fun _ => 1) 0 c := by
    unfold Sp.SS.enter; rw [if_neg (by rw [h.is0]; omega), if_neg (by omega), if_neg hl]
  obtain ⟨q, q1, q2, q3, q4⟩ := Sp.put1_is (p := c) (h.inv.free hc hl 0)
  have hwho : (s.entered (fun _ => 1) 0 c).who = fset2 s.who 0 q c := by
    show Sp.enterL s.who c (s.wayF 1 0) = _
    show Sp.put1 s.who 0 c = _
    exact q4
  have hw : ∀ p, (s.entered (fun _ => 1) 0 c).who 0 p = if p = q then c else s.who 0 p := fun p => by
    rw [hwho]; unfold fset2; simp
  have hi := h.inv.entered (n := 0) ⟨by omega, by omega, h.h0⟩ hc hl
  have hq1 : q ≠ 1 := fun e => by rw [e, h.one] at q3; omega
  have hK : KI (k.put c (k.kid n nb)) (fupd mb c.toNat nb) (s.entered (fun _ => 1) 0 c) := by
    refine ⟨⟨fun m a b => ?_, fun m a b hm => ?_, fun m => ?_, fun m i => ?_, fun m => ?_⟩, hi, h.h0, h.hN, fun m a b => ?_, ?_, ?_⟩
    · by_cases e : m = c
      · rw [e, KP.put_u]; exact .inr (.inl rfl)
      · rw [KP.put_ne _ _ e]; exact h.kid.st m a b
    · by_cases e : m = c
      · rw [e, KP.put_u, fupd_eq]; rfl
      · rw [KP.put_ne _ _ e] at hm ⊢
        rw [fupd_ne _ _ (by omega)]; exact h.kid.mem m a b hm
    · by_cases e : m = c
      · rw [e, KP.put_u]; exact h.kid.grp n
      · rw [KP.put_ne _ _ e]; exact h.kid.grp m
    · by_cases e : m = c
      · rw [e, KP.put_u]; exact h.kid.fd n i
      · rw [KP.put_ne _ _ e]; exact h.kid.fd m i
    · by_cases e : m = c
      · rw [e, KP.put_u]; show (k.u n).bx.child = _; rw [h.kid.bx n]; rfl
      · rw [KP.put_ne _ _ e]; exact h.kid.bx m
    · show 0 ≤ fset s.loc c 0 m ↔ _
      by_cases e : m = c
      · rw [e, fset_eq, KP.put_u]
        exact ⟨fun _ => (by decide : (1 : Int) ≠ 0), fun _ => Int.le_refl 0⟩
      · rw [fset_ne _ _ e, KP.put_ne _ _ e]; exact h.loc m a b
    · rw [hw, if_neg (by omega)]; exact h.one
    · rw [KP.put_ne _ _ (fun e => hc0 e.symm)]; exact h.st0
  rw [he]
  refine ⟨hK, q, ⟨by omega, q2⟩, q3, hw, ?_⟩
  have hh := hK.has hc (by rw [KP.put_u]; exact (by decide : (1 : Int) ≠ 0))
  have hq : (s.entered (fun _ => 1) 0 c).who 0 q = c := by rw [hw, if_pos rfl]
  have := hK.uniq (p := q) (q := ((s.entered (fun _ => 1) 0 c).pid c 0).1) (by omega) (by rw [hh.2.2, hq])
  exact Prod.ext this hh.1
theorem KI.exit (h : KI k mb s) {n co hd : Int} (hn : 0 ≤ n ∧ n < 20) (hs : (k.u n).st ≠ 0) (h0 : n ≠ 0) : KI ((k.ended n co).adopt n hd 20) mb s := by
  have e1 := fun j => KP.ended_st k n co hd 20 j
  have e2 := fun j => KP.adopt_keep (k.ended n co) n hd 20 j
  have e3 : ∀ j, ((k.ended n co).u j).mem = (k.u j).mem ∧ ((k.ended n co).u j).grp = (k.u j).grp ∧ ((k.ended n co).u j).fd = (k.u j).fd ∧ ((k.ended n co).u j).bx = (k.u j).bx := fun j => by
    unfold KP.ended
    by_cases c : j = n
    · subst c; rw [KP.put_u]; exact ⟨rfl, rfl, rfl, rfl⟩
    · rw [KP.put_ne _ _ c]; exact ⟨rfl, rfl, rfl, rfl⟩
  refine ⟨⟨fun m a b => ?_, fun m a b hm => ?_, fun m => ?_, fun m i => ?_, fun m => ?_⟩, h.inv, h.h0, h.hN, fun m a b => ?_, h.one, ?_⟩
  · rw [e1]; split
    · exact .inr (.inr rfl)
    · exact h.kid.st m a b
  · rw [(e2 m).2.2.2.2.1, (e3 m).1]
    refine h.kid.mem m a b ?_
    rw [e1] at hm
    split at hm
    · rename_i c; rw [c]; exact hs
    · exact hm
  · rw [(e2 m).2.2.1, (e3 m).2.1]; exact h.kid.grp m
  · rw [(e2 m).2.2.2.2.2, (e3 m).2.2.1]; exact h.kid.fd m i
  · rw [(e2 m).2.1, (e3 m).2.2.2]; exact h.kid.bx m
  · rw [e1, h.loc m a b]
    split
    · rename_i c; rw [c]; exact ⟨fun _ => by omega, fun _ => hs⟩
    · exact Iff.rfl
  · rw [e1, if_neg (by omega)]; exact h.st0
theorem KI.away (h : KI k mb s) {t : Int} (ht : 0 ≤ t ∧ t < 20) (hs : (k.u t).st = 2) : KI (k.put t PU.nil) mb (s.leave t).2 ∧ ∀ p, (s.leave t).2.who 0 p = if s.who 0 p = t then -1 else s.who 0 p := by
  have hl := (h.loc t ht.1 ht.2).2 (by omega)
  have h0 : t ≠ 0 := fun e => by rw [e, h.st0] at hs; omega
  have he : (s.leave t).2 = s.left t := by
    unfold Sp.SS.leave Sp.SS.in_
    rw [if_neg (c := t < 0 ∨ 20 ≤ t) (by omega), if_neg (c := s.loc t < 0) (by omega), if_neg (by simp)]
  have hi := h.inv.left (p := t) ht.1
  rw [he]
  refine ⟨⟨⟨fun m a b => ?_, fun m a b hm => ?_, fun m => ?_, fun m i => ?_, fun m => ?_⟩, hi, h.h0, h.hN, fun m a b => ?_, ?_, ?_⟩, fun p => rfl⟩
  · by_cases e : m = t
    · rw [e, KP.put_u]; exact .inl rfl
    · rw [KP.put_ne _ _ e]; exact h.kid.st m a b
  · by_cases e : m = t
    · rw [e, KP.put_u] at hm; exact absurd rfl hm
    · rw [KP.put_ne _ _ e] at hm ⊢; exact h.kid.mem m a b hm
  · by_cases e : m = t
    · rw [e, KP.put_u]; rfl
    · rw [KP.put_ne _ _ e]; exact h.kid.grp m
  · by_cases e : m = t
    · rw [e, KP.put_u]; rfl
    · rw [KP.put_ne _ _ e]; exact h.kid.fd m i
  · by_cases e : m = t
    · rw [e, KP.put_u]; rfl
    · rw [KP.put_ne _ _ e]; exact h.kid.bx m
  · show 0 ≤ fset s.loc t (-1) m ↔ _
    by_cases e : m = t
    · rw [e, fset_eq, KP.put_u]
      exact ⟨fun q => absurd q (by omega), fun q => absurd rfl q⟩
    · rw [fset_ne _ _ e, KP.put_ne _ _ e]; exact h.loc m a b
  · show (if s.who 0 1 = t then -1 else s.who 0 1) = 0
    rw [h.one, if_neg (fun e => h0 e.symm)]
  · rw [KP.put_ne _ _ (fun e => h0 e.symm)]; exact h.st0
/-- what the statement keeps of those that ended -/
def EN (k : KP) (s : Sp.SS) (en : Int → Bool) (cd : Int → Int) : Prop :=
  ∀ p, 2 ≤ p → p < 21 → (en p = true ↔ (0 ≤ s.who 0 p ∧ (k.u (s.who 0 p)).st = 2)) ∧ (en p = true → cd p = (k.u (s.who 0 p)).code)
theorem EN.fork {en : Int → Bool} {cd : Int → Int} (h : KI k mb s) (hE : EN k s en cd) {c n q : Int} {nb : Nat} {s' : Sp.SS} (hc : 0 ≤ c ∧ c < 20) (h0 : (k.u c).st = 0) (hq : s.who 0 q < 0) (hw : ∀ p, s'.who 0 p = if p = q then c else s.who 0 p) : EN (k.put c (k.kid n nb)) s' en cd ∧ (2 ≤ q → q < 21 → en q = false) := by
  refine ⟨fun p a b => ?_, fun a b => ?_⟩
  · have e := hE p a b
    rw [hw]
    by_cases d : p = q
    · rw [if_pos d, KP.put_u]
      have hf : en p = false := by
        rw [← Bool.not_eq_true, e.1]; rintro ⟨f, _⟩; rw [d] at f; omega
      rw [hf]
      exact ⟨⟨fun g => absurd g (by simp), fun g => absurd (show (1 : Int) = 2 from g.2) (by omega)⟩, fun g => absurd g (by simp)⟩
    · rw [if_neg d]
      by_cases f : 0 ≤ s.who 0 p
      · have := (h.who_in f).2.2
        rw [KP.put_ne _ _ (fun g => by rw [g] at this; exact this h0)]; exact e
      · refine ⟨⟨fun g => absurd (e.1.1 g).1 f, fun g => absurd g.1 f⟩, fun g => absurd (e.1.1 g).1 f⟩
  · rw [← Bool.not_eq_true, (hE q a b).1]; rintro ⟨f, _⟩; omega
theorem EN.exit {en : Int → Bool} {cd : Int → Int} (h : KI k mb s) (hE : EN k s en cd) {n co hd p0 : Int} (hp0 : s.who 0 p0 = n) (hn : 0 ≤ n) : EN ((k.ended n co).adopt n hd 20) s (fset en p0 true) (fset cd p0 co) := by
  intro p a b
  have e := hE p a b
  have e1 := KP.ended_st k n co hd 20 (s.who 0 p)
  have e2 : (((k.ended n co).adopt n hd 20).u (s.who 0 p)).code = if s.who 0 p = n then co else (k.u (s.who 0 p)).code := by
    rw [(KP.adopt_keep _ _ _ _ _).2.2.2.1]
    unfold KP.ended
    by_cases c : s.who 0 p = n
    · rw [c, KP.put_u, if_pos rfl]
    · rw [KP.put_ne _ _ c, if_neg c]
  rw [e1, e2]
  by_cases d : p = p0
  · subst d
    rw [fset_eq, fset_eq, hp0, if_pos rfl, if_pos rfl]
    exact ⟨⟨fun _ => ⟨hn, rfl⟩, fun _ => rfl⟩, fun _ => rfl⟩
  · rw [fset_ne _ _ d, fset_ne _ _ d]
    have hne : ¬ s.who 0 p = n := fun f => d (h.uniq (p := p0) (by omega) (by omega))
    rw [if_neg hne, if_neg hne]; exact e
theorem EN.away {en : Int → Bool} {cd : Int → Int} (h : KI k mb s) (hE : EN k s en cd) {t p0 : Int} {s' : Sp.SS} (ht : 0 ≤ t) (hp0 : s.who 0 p0 = t) (hw : ∀ p, s'.who 0 p = if s.who 0 p = t then -1 else s.who 0 p) : EN (k.put t PU.nil) s' (fset en p0 false) cd := by
  intro p a b
  have e := hE p a b
  rw [hw]
  by_cases d : p = p0
  · subst d
    rw [fset_eq, if_pos hp0]
    exact ⟨⟨fun g => absurd g (by simp), fun g => absurd g.1 (by omega)⟩, fun g => absurd g (by simp)⟩
  · rw [fset_ne _ _ d]
    have hne : ¬ s.who 0 p = t := fun f => d (h.uniq (p := p0) (by omega) (by omega))
    rw [if_neg hne]
    rw [KP.put_ne _ _ hne]; exact e
end
theorem S0_who : ∀ p : Int, S0.who 0 p = if p = 1 then 0 else -1 := fun p => by
  have h : S0.who = fset2 Sp.SS.init.who 0 1 0 := by rfl
  rw [h]
  unfold fset2
  by_cases c : p = 1
  · rw [if_pos ⟨rfl, c⟩, if_pos c]
  · rw [if_neg (fun q => c q.2), if_neg c]; rfl
theorem KI.begun {k : KP} {mb : Nat} (h : Begun k mb) : KI k (fupd (fun _ => 0) (0 : Int).toNat mb) S0 := by
  have hu : ∀ n, k.u n = if n = 0 then firstU mb else PU.nil := fun n => by rw [h.u]; rfl
  have hi : S0.Inv (fun _ => 1) := Sp.SS.Inv.init.enter 0 0
  have hS : S0 = Sp.SS.init.entered (fun _ => 1) 0 0 := by rfl
  refine ⟨⟨fun m a b => ?_, fun m a b hm => ?_, fun m => ?_, fun m i => ?_, fun m => ?_⟩, hi, by rfl, fun m hm => ?_, fun m a b => ?_, by rw [S0_who, if_pos rfl], by rw [hu, if_pos rfl]; rfl⟩
  · rw [hu]; split
    · exact .inr (.inl rfl)
    · exact .inl rfl
  · rw [hu] at hm ⊢
    split at hm
    · rename_i c; subst c; rw [if_pos rfl, fupd_eq]; rfl
    · exact absurd rfl hm
  · rw [hu]; split <;> rfl
  · rw [hu]; split <;> rfl
  · rw [hu]; split <;> rfl
  · have : fset (fun _ => false) 0 true m = true := hm
    by_cases c : m = 0
    · exact c
    · rw [fset_ne _ _ c] at this; cases this
  · show 0 ≤ fset (Sp.frf 20) 0 0 m ↔ _
    rw [hu]
    by_cases c : m = 0
    · subst c; rw [fset_eq, if_pos rfl]; exact ⟨fun _ => (by decide : (1 : Int) ≠ 0), fun _ => Int.le_refl 0⟩
    · rw [fset_ne _ _ c, if_neg c]
      unfold Sp.frf
      rw [if_pos (by omega)]
      exact ⟨fun q => absurd q (by omega), fun q => absurd rfl q⟩
theorem EN.begun {k : KP} {mb : Nat} (h : Begun k mb) : EN k S0 (fun _ => false) (fun _ => 0) := fun p a b => by
  rw [S0_who, if_neg (by omega)]
  exact ⟨⟨fun q => absurd q (by simp), fun q => absurd q.1 (by omega)⟩, fun q => absurd q (by simp)⟩
/-- the state of the statement's loop -/
structure KX where
  k : KP
  mb : Nat → Nat
  s : Sp.SS
  g : Gr.TG
  q : Fa.SC
  d : Int → Nat
  m : Nat
  en : Int → Bool
  cd : Int → Int
  ps : Nat → Option Addr
  cs : Nat → Nat
structure KX.Ok (x : KX) (i : Int) : Prop where
  I : KI x.k x.mb x.s
  E : EN x.k x.s x.en x.cd
  gI : x.g.Inv
  gS : x.g.Small (1000 * i + 1000)
  qO : x.q.toSF.Ok x.d x.m 1
  qR : x.q.Rep
theorem chC.ld1 (a b : Int) : 0 + 1 < 2 ∧ chC a b (0 + 1) = .int .i64 b := ⟨by omega, rfl⟩
theorem KP.exitE_0 {k : KP} {n c : Int} (h : k.exitE n c = 0) : k.live n = 0 ∧ n ≠ 0 := by
  unfold KP.exitE at h
  split at h
  · rename_i q; exact absurd h q
  · rename_i q
    split at h
    · omega
    · split at h
      · omega
      · exact ⟨by omega, by assumption⟩
section
variable {k : KP} {mb : Nat → Nat} {s : Sp.SS}
theorem KI.head (h : KI k mb s) (n : Int) : (s.find (s.in_ n).1 1).1 = 0 := by
  rw [h.hz]
  unfold Sp.SS.find
  rw [if_neg (by rw [h.is0]; omega), if_neg (by omega), if_neg (by rw [h.one]; omega)]
  exact h.one
theorem KI.wait (h : KI k mb s) {t pid : Int} (ht : 0 ≤ t ∧ t < 20) (hs : (k.u t).st = 2) (hp : s.pid t 0 = (pid, 0)) : (2 ≤ pid ∧ pid ≤ 20) ∧ s.who 0 pid = t := by
  obtain ⟨_, h2, h3⟩ := h.has ht (by omega)
  rw [hp] at h2 h3
  have h2 : 1 ≤ pid ∧ pid ≤ 20 := h2
  have h3 : s.who 0 pid = t := h3
  have : pid ≠ 1 := fun e => by
    rw [e, h.one] at h3
    rw [← h3, h.st0] at hs; omega
  exact ⟨by omega, h3⟩
theorem KX.Ok.next {x : KX} {i : Int} (h : x.Ok i) : x.Ok (i + 1) := ⟨h.I, h.E, h.gI, h.gS.mono (by omega), h.qO, h.qR⟩
theorem KX.Ok.seen {x : KX} {i p : Int} (h : x.Ok i) (hp : 2 ≤ p ∧ p < 21) : x.en p = decide ((x.k.see x.s 0 p).2 = 8) := by
  rw [Bool.eq_iff_iff, decide_eq_true_eq, (h.E p hp.1 hp.2).1, h.I.see8 ⟨by omega, by omega⟩]
end

end Go.X.Kn
