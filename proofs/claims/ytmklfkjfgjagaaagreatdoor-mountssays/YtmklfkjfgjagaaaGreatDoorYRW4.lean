import Derived.Test.YtmklfkjfgjagaaaGreatDoorXShort
import Derived.Test.YtmklfkjfgjagaaaGreatDoorYRW2
namespace Go.X
open Go Go.Proofs
theorem cl_55 : callable Tryz.prog 55 = true := by kernel_rfl
theorem cl_57 : callable Tryz.prog 57 = true := by kernel_rfl
theorem cl_83 : callable Tryz.prog 83 = true := by kernel_rfl
set_option maxRecDepth 10000 in
set_option maxHeartbeats 2000000 in
theorem u_Walk (bt bf : Nat) (r : WH) (l : List MT) (p : Option Addr) (cap k c : Nat) (C : Nat → Value) (hv : RV.ok ⟨p, cap, k, l.length, c, C⟩) (hC : MC C l) (hm6 : l.length ≤ 6) (s : FC) (hI : s.toFF.Sh) (x : ByteArray) (hx : x.size ≤ 100000) : Spec Tryz.prog 48 [ptr bt 0 0, .string x]
    [.cells bt 0 4 (encT bf r (.slice p l.length c)), frow p cap 98 4 k C, .cells bf 0 321 (encM s), .fam fam40 (FC.rowsN 9 s), .fam fam40 (FC.rowsK 3 s)]
    (fun v H1 => v = .tuple #[.agg (WH.arr (walkV s.toFF l r x)), .int .i64 (walkE s.toFF l r x)] ∧ H1 = [.cells bt 0 4 (encT bf r (.slice p l.length c)), frow p cap 98 4 k C, .cells bf 0 321 (encM s), .fam fam40 (FC.rowsN 9 s), .fam fam40 (FC.rowsK 3 s)]) := by
 refine Spec.intro Tryz.func48 rfl rfl ?_
 intro W
 refine XC.sr ?_
 refine XO.allocZ (z := .agg (WH.arr WH.nil)) (m := 2) (C := encW WH.nil) (by kernel_rfl) rfl (encW.box _) rfl ?_
 intro br
 refine XO.as rfl rfl ?_
 refine XO.nk [(0, _), (1, _), (4, _)] (S3 rfl rfl rfl) ?_
 refine XC.sr ?_
 refine XO.mv rfl rfl ?_
 refine XO.call rfl (r_NamesOf _ (by omega)) .nil cl_57 rfl ?_
 rintro _ _ (⟨e9, rfl, rfl⟩ | ⟨e0, q, cq, rfl, rfl⟩)
 ·
  refine XO.mv rfl rfl ?_
  refine XO.v (V.extract rfl rfl) rfl ?_
  refine XO.v (V.extract rfl rfl) rfl ?_
  refine XO.as rfl rfl ?_
  refine XO.as rfl rfl ?_
  refine XO.nk [(0, _), (4, _), (6, _), (7, _)] (S4 rfl rfl rfl rfl) ?_
  refine XC.seq ?_
  refine XC.sr ?_
  refine XO.mv rfl rfl ?_
  refine XO.v (V.cmp rfl rfl rfl) rfl ?_
  refine XO.nk [(0, _), (4, _), (6, _), (7, _), (14, _)] (S5 rfl rfl rfl rfl rfl) ?_
  refine XC.condTP rfl (by omega) ?_
  refine XC.sr ?_
  refine XO.v (V.build (vs := #[]) rfl (v := .agg (WH.arr WH.nil)) (fun _ => by kernel_rfl)) rfl ?_
  refine XO.mv rfl rfl ?_
  refine XO.storeAgg rfl rfl .here (encW.st _ _) ⟨rfl, rfl⟩ sz_56_2 ?_
  refine XO.as rfl rfl ?_
  refine XO.nk [(4, _), (5, _)] (S2 rfl rfl) ?_
  refine XC.ret ?_
  refine XE.thenRet ?_
  refine XE.retG2 rfl (.agg rfl .here (encW.agg _) ag_56 sz_56_2) (.tmp rfl) (post_of (.cons (.there .here) (.cons (.there .here) (.cons (.there .here) (.cons (.there .here) (.cons (.there .here) .nil))))) rfl ?_)
  have e : walkE s.toFF l r x = 9 := by unfold walkE; rw [if_pos (by omega), e9]
  have e2 : walkV s.toFF l r x = WH.nil := by unfold walkV; rw [if_pos (by omega)]
  exact ⟨by rw [e, e2], rfl⟩
 ·
  have hsv := splitV_len x
  refine XO.mv rfl rfl ?_
  refine XO.v (V.extract rfl rfl) rfl ?_
  refine XO.v (V.extract rfl rfl) rfl ?_
  refine XO.as rfl rfl ?_
  refine XO.as rfl rfl ?_
  refine XO.nk [(0, _), (4, _), (6, _), (7, _)] (S4 rfl rfl rfl rfl) ?_
  refine XC.seq ?_
  refine XC.sr ?_
  refine XO.mv rfl rfl ?_
  refine XO.v (V.cmp rfl rfl rfl) rfl ?_
  refine XO.nk [(0, _), (4, _), (6, _), (7, _), (14, _)] (S5 rfl rfl rfl rfl rfl) ?_
  refine XC.condFP rfl (by omega) ?_
  refine XC.skip ?_
  refine XE.next ?_
  refine XC.keep [(0, _), (4, _), (6, _)] (S3 rfl rfl rfl) ?_
  refine XC.sr ?_
  refine XO.mv rfl rfl ?_
  refine XO.mv rfl rfl ?_
  refine XO.call rfl (u_Led _ _ _ _ _ _ _ _ _ hv hC hm6 s hI _ _ (splitV x) ((splitV x).length) (Nat.le_refl _) (by omega)) (.cons (.t2 .here) (.cons (.t2 .here) (.cons (.t2 .here) (.cons (.t2 .here) (.cons (.t2 .here) .h1))))) cl_83 rfl ?_
  rintro _ _ ⟨rfl, rfl⟩
  rw [List.take_length]
  refine XO.v (V.extract rfl rfl) rfl ?_
  refine XO.v (V.extract rfl rfl) rfl ?_
  refine XO.storeAgg rfl rfl (.t6 .here) (encW.st _ _) ⟨rfl, rfl⟩ sz_56_2 ?_
  refine XO.as rfl rfl ?_
  refine XO.nk [(4, _), (5, _)] (S2 rfl rfl) ?_
  refine XC.ret ?_
  refine XE.retG2 rfl (.agg rfl (.t6 .here) (encW.agg _) ag_56 sz_56_2) (.tmp rfl) (post_of .h5 rfl ?_)
  have e : walkE s.toFF l r x = (led s.toFF l r (splitV x)).1 := by unfold walkE; rw [if_neg (by omega)]
  have e2 : walkV s.toFF l r x = (led s.toFF l r (splitV x)).2 := by unfold walkV; rw [if_neg (by omega)]
  exact ⟨by rw [e, e2], rfl⟩
set_option maxRecDepth 10000 in
set_option maxHeartbeats 4000000 in
theorem u_Last (bt bf : Nat) (r : WH) (l : List MT) (p : Option Addr) (cap k c : Nat) (C : Nat → Value) (hv : RV.ok ⟨p, cap, k, l.length, c, C⟩) (hC : MC C l) (hm6 : l.length ≤ 6) (s : FC) (hI : s.toFF.Sh) (x : ByteArray) (hx : x.size ≤ 100000) : Spec Tryz.prog 55 [ptr bt 0 0, .string x]
    [.cells bt 0 4 (encT bf r (.slice p l.length c)), frow p cap 98 4 k C, .cells bf 0 321 (encM s), .fam fam40 (FC.rowsN 9 s), .fam fam40 (FC.rowsK 3 s)]
    (fun v H1 => v = .tuple #[.agg (WH.arr (lastV s.toFF l r x)), .string (lastN s.toFF l r x), .int .i64 (lastE s.toFF l r x)] ∧ H1 = [.cells bt 0 4 (encT bf r (.slice p l.length c)), frow p cap 98 4 k C, .cells bf 0 321 (encM s), .fam fam40 (FC.rowsN 9 s), .fam fam40 (FC.rowsK 3 s)]) := by
 refine Spec.intro Tryz.func55 rfl rfl ?_
 intro W
 refine XC.sr ?_
 refine XO.allocZ (z := .agg (WH.arr WH.nil)) (m := 2) (C := encW WH.nil) (by kernel_rfl) rfl (encW.box _) rfl ?_
 intro br
 refine XO.as rfl rfl ?_
 refine XO.as rfl rfl ?_
 refine XO.nk [(0, _), (1, _), (4, _)] (S3 rfl rfl rfl) ?_
 refine XC.sr ?_
 refine XO.mv rfl rfl ?_
 refine XO.call rfl (r_NamesOf _ (by omega)) .nil cl_57 rfl ?_
 rintro _ _ (⟨e9, rfl, rfl⟩ | ⟨e0, q, cq, rfl, rfl⟩)
 ·
  refine XO.mv rfl rfl ?_
  refine XO.v (V.extract rfl rfl) rfl ?_
  refine XO.v (V.extract rfl rfl) rfl ?_
  refine XO.as rfl rfl ?_
  refine XO.as rfl rfl ?_
  refine XO.nk [(0, _), (4, _), (7, _), (8, _)] (S4 rfl rfl rfl rfl) ?_
  refine XC.seq ?_
  refine XC.sr ?_
  refine XO.mv rfl rfl ?_
  refine XO.v (V.cmp rfl rfl rfl) rfl ?_
  refine XO.nk [(0, _), (4, _), (7, _), (8, _), (17, _)] (S5 rfl rfl rfl rfl rfl) ?_
  refine XC.condTP rfl (by omega) ?_
  refine XC.sr ?_
  refine XO.v (V.build (vs := #[]) rfl (v := .agg (WH.arr WH.nil)) (fun _ => by kernel_rfl)) rfl ?_
  refine XO.mv rfl rfl ?_
  refine XO.storeAgg rfl rfl .here (encW.st _ _) ⟨rfl, rfl⟩ sz_56_2 ?_
  refine XO.as rfl rfl ?_
  refine XO.as rfl rfl ?_
  refine XO.nk [(4, _), (5, _), (6, _)] (S3 rfl rfl rfl) ?_
  refine XC.ret ?_
  refine XE.thenRet ?_
  refine XE.retG3 rfl (.agg rfl .here (encW.agg _) ag_56 sz_56_2) (.tmp rfl) (.tmp rfl) (post_of (.cons (.there .here) (.cons (.there .here) (.cons (.there .here) (.cons (.there .here) (.cons (.there .here) .nil))))) rfl ?_)
  have e : lastE s.toFF l r x = 9 := by unfold lastE; rw [if_pos (by omega), e9]
  have e2 : lastV s.toFF l r x = WH.nil := by unfold lastV; rw [if_pos (by omega)]
  have e3 : lastN s.toFF l r x = ⟨#[]⟩ := by unfold lastN; rw [if_pos (by omega)]
  exact ⟨by rw [e, e2, e3]; try rfl, rfl⟩
 ·
  have hsv := splitV_len x
  refine XO.mv rfl rfl ?_
  refine XO.v (V.extract rfl rfl) rfl ?_
  refine XO.v (V.extract rfl rfl) rfl ?_
  refine XO.as rfl rfl ?_
  refine XO.as rfl rfl ?_
  refine XO.nk [(0, _), (4, _), (7, _), (8, _)] (S4 rfl rfl rfl rfl) ?_
  refine XC.seq ?_
  refine XC.sr ?_
  refine XO.mv rfl rfl ?_
  refine XO.v (V.cmp rfl rfl rfl) rfl ?_
  refine XO.nk [(0, _), (4, _), (7, _), (8, _), (17, _)] (S5 rfl rfl rfl rfl rfl) ?_
  refine XC.condFP rfl (by omega) ?_
  refine XC.skip ?_
  refine XE.next ?_
  refine XC.keep [(0, _), (4, _), (7, _)] (S3 rfl rfl rfl) ?_
  refine XC.sr ?_
  refine XO.mv rfl rfl ?_
  refine XO.v (V.lenSl rfl Tryz.underlying28) rfl ?_
  refine XO.as rfl rfl ?_
  refine XO.nk [(0, _), (4, _), (7, _), (9, _)] (S4 rfl rfl rfl rfl) ?_
  refine XC.seq ?_
  refine XC.sr ?_
  refine XO.mv rfl rfl ?_
  refine XO.v (V.cmp rfl rfl rfl) rfl ?_
  refine XO.mv rfl rfl ?_
  refine XO.splitP (d := 24) rfl (fun h1 => ?_) (fun h1 => ?_)
  ·
   have h0 : (splitV x).length = 0 := by omega
   refine XO.guardSkip rfl rfl rfl rfl rfl ?_
   refine XO.guardSkip rfl rfl rfl rfl rfl ?_
   refine XO.guardSkip rfl rfl rfl rfl rfl ?_
   refine XO.guardSkip rfl rfl rfl rfl rfl ?_
   refine XO.guardSkip rfl rfl rfl rfl rfl ?_
   refine XO.guardSkip rfl rfl rfl rfl rfl ?_
   refine XO.v (V.pick rfl rfl rfl rfl) rfl ?_
   refine XO.nk [(0, _), (4, _), (7, _), (9, _), (31, _)] (S5 rfl rfl rfl rfl rfl) ?_
   refine XC.condT rfl rfl ?_
   refine XC.sr ?_
   refine XO.v (V.build (vs := #[]) rfl (v := .agg (WH.arr WH.nil)) (fun _ => by kernel_rfl)) rfl ?_
   refine XO.storeAgg rfl rfl (.there .here) (encW.st _ _) ⟨rfl, rfl⟩ sz_56_2 ?_
   refine XO.as rfl rfl ?_
   refine XO.as rfl rfl ?_
   refine XO.nk [(4, _), (5, _), (6, _)] (S3 rfl rfl rfl) ?_
   refine XC.ret ?_
   refine XE.thenRet ?_
   refine XE.retG3 rfl (.agg rfl (.there .here) (encW.agg _) ag_56 sz_56_2) (.tmp rfl) (.tmp rfl) (post_of (.cons (.t2 .here) (.cons (.t2 .here) (.cons (.t2 .here) (.cons (.t2 .here) (.cons (.t2 .here) .nil))))) rfl ?_)
   have e : lastE s.toFF l r x = 9 := by unfold lastE; rw [if_neg (by omega), if_pos (.inl h0)]
   have e2 : lastV s.toFF l r x = WH.nil := by unfold lastV; rw [if_pos (by omega)]
   have e3 : lastN s.toFF l r x = ⟨#[]⟩ := by unfold lastN; rw [if_pos (by omega)]
   exact ⟨by rw [e, e2, e3]; try rfl, rfl⟩
  ·
   have h0 : ¬ (splitV x).length = 0 := by omega
   refine XO.guardRun rfl rfl rfl ?_
   refine XO.mv rfl rfl ?_
   refine XO.guardRun rfl rfl rfl ?_
   refine XO.mv rfl rfl ?_
   refine XO.guardRun rfl rfl rfl ?_
   refine XO.v (V.sub rfl rfl _ (IntWalk.i64_in _ (by omega))) rfl ?_
   refine XO.openRow .here (by omega) ?_
   intro g hg
   subst hg
   refine XO.guardRun rfl rfl rfl ?_
   refine XO.v (V.indexSl rfl rfl sl_28 (by omega)) rfl ?_
   refine XO.guardRun rfl rfl rfl ?_
   refine XO.v (V.loadRow rfl (inXM .here) (strs_at (by omega)) sc_9) rfl ?_
   refine XO.guardRun rfl rfl rfl ?_
   refine XO.v (V.strCmp rfl rfl rfl) rfl ?_
   refine XO.v (V.pick rfl rfl rfl rfl) rfl ?_
   refine XO.nk [(0, _), (4, _), (7, _), (9, _), (31, _)] (S5 rfl rfl rfl rfl rfl) ?_
   refine XC.condP rfl (fun h2 => ?_) (fun h2 => ?_)
   ·
    have hd : nlast (splitV x) = dd := h2
    refine XC.sr ?_
    refine XO.v (V.build (vs := #[]) rfl (v := .agg (WH.arr WH.nil)) (fun _ => by kernel_rfl)) rfl ?_
    refine XO.storeAgg rfl rfl (.there .here) (encW.st _ _) ⟨rfl, rfl⟩ sz_56_2 ?_
    refine XO.as rfl rfl ?_
    refine XO.as rfl rfl ?_
    refine XO.nk [(4, _), (5, _), (6, _)] (S3 rfl rfl rfl) ?_
    refine XC.ret ?_
    refine XE.thenRet ?_
    refine XE.retG3 rfl (.agg rfl (.there .here) (encW.agg _) ag_56 sz_56_2) (.tmp rfl) (.tmp rfl) (post_of (.cons (.t2 .here) (.cons (.t2 .here) (.cons (.t2 .here) (.cons (.t2 .here) (.cons (.t2 .here) .nil))))) rfl ?_)
    have e : lastE s.toFF l r x = 9 := by unfold lastE; rw [if_neg (by omega), if_pos (.inr hd)]
    have e2 : lastV s.toFF l r x = WH.nil := by unfold lastV; rw [if_pos (by omega)]
    have e3 : lastN s.toFF l r x = ⟨#[]⟩ := by unfold lastN; rw [if_pos (by omega)]
    exact ⟨by rw [e, e2, e3]; try rfl, rfl⟩
   ·
    have hd : ¬ nlast (splitV x) = dd := h2
    refine XC.skip ?_
    refine XE.next ?_
    refine XC.keep [(0, _), (4, _), (7, _), (9, _)] (S4 rfl rfl rfl rfl) ?_
    refine XC.sr ?_
    refine XO.rowLen .here ?_
    intro hcap
    refine XO.mv rfl rfl ?_
    refine XO.mv rfl rfl ?_
    refine XO.mv rfl rfl ?_
    refine XO.v (V.sub rfl rfl _ (IntWalk.i64_in _ (by omega))) rfl ?_
    refine XO.v (V.slicePre (m := (splitV x).length - 1) rfl rfl Tryz.underlying28 sz_9_1 (by omega) (by omega)) rfl ?_
    refine XO.call rfl (u_Led _ _ _ _ _ _ _ _ _ hv hC hm6 s hI _ _ (splitV x) ((splitV x).length - 1) (by omega) (by omega)) (.cons (.t2 .here) (.cons (.t2 .here) (.cons (.t2 .here) (.cons (.t2 .here) (.cons (.t2 .here) .h1))))) cl_83 rfl ?_
    rintro _ _ ⟨rfl, rfl⟩
    refine XO.mv rfl rfl ?_
    refine XO.v (V.extract rfl rfl) rfl ?_
    refine XO.v (V.extract rfl rfl) rfl ?_
    refine XO.allocZ (z := .agg (WH.arr WH.nil)) (m := 2) (C := encW WH.nil) (by kernel_rfl) rfl (encW.box _) rfl ?_
    intro b10
    refine XO.storeAgg rfl rfl .here (encW.st _ _) ⟨rfl, rfl⟩ sz_56_2 ?_
    refine XO.as rfl rfl ?_
    refine XO.nk [(4, _), (7, _), (8, _), (9, _), (10, _)] (S5 rfl rfl rfl rfl rfl) ?_
    refine XC.seq ?_
    refine XC.sr ?_
    refine XO.mv rfl rfl ?_
    refine XO.v (V.cmp rfl rfl rfl) rfl ?_
    refine XO.nk [(4, _), (7, _), (8, _), (9, _), (10, _), (43, _)] (S6 rfl rfl rfl rfl rfl rfl) ?_
    refine XC.condP rfl (fun h3 => ?_) (fun h3 => ?_)
    ·
     have hl : ¬ (led s.toFF l r (ninit (splitV x))).1 = 0 := by have h9 : (led s.toFF l r (ninit (splitV x))).1 > 0 := h3; omega
     refine XC.sr ?_
     refine XO.v (V.build (vs := #[]) rfl (v := .agg (WH.arr WH.nil)) (fun _ => by kernel_rfl)) rfl ?_
     refine XO.mv rfl rfl ?_
     refine XO.storeAgg rfl rfl (.t7 .here) (encW.st _ _) ⟨rfl, rfl⟩ sz_56_2 ?_
     refine XO.as rfl rfl ?_
     refine XO.as rfl rfl ?_
     refine XO.nk [(4, _), (5, _), (6, _)] (S3 rfl rfl rfl) ?_
     refine XC.ret ?_
     refine XE.thenRet ?_
     refine XE.retG3 rfl (.agg rfl (.t7 .here) (encW.agg _) ag_56 sz_56_2) (.tmp rfl) (.tmp rfl) (post_of (.cons (.there .here) (.cons (.there .here) (.cons (.there .here) (.cons (.there .here) (.cons (.there .here) .nil))))) rfl ?_)
     have e : lastE s.toFF l r x = (led s.toFF l r (ninit (splitV x))).1 := by unfold lastE; rw [if_neg (by omega), if_neg (by rintro (a | a); exact h0 a; exact hd a)]
     have e2 : lastV s.toFF l r x = WH.nil := by unfold lastV; rw [if_pos (by rw [e]; exact hl)]
     have e3 : lastN s.toFF l r x = ⟨#[]⟩ := by unfold lastN; rw [if_pos (by rw [e]; exact hl)]
     exact ⟨by rw [e, e2, e3]; try rfl, rfl⟩
    ·
     have hl : (led s.toFF l r (ninit (splitV x))).1 = 0 := by have := led_nn s.toFF l (ninit (splitV x)) [over l r]; show (wk s.toFF l [over l r] (ninit (splitV x))).1 = 0; have h9 : ¬ (wk s.toFF l [over l r] (ninit (splitV x))).1 > 0 := h3; omega
     refine XC.skip ?_
     refine XE.next ?_
     refine XC.keep [(4, _), (7, _), (9, _), (10, _)] (S4 rfl rfl rfl rfl) ?_
     refine XC.seq ?_
     refine XC.regionQ mixed (f := 9) (l := #[false, false, false, false, false, false, false, false, false]) rfl rfl XM.drawn' ?_
     refine XQ.load (i := 0) (l' := #[tt,ff,ff,ff,ff,ff,ff,ff,ff]) (.cells _ _ _ _) [6] rfl (by kernel_rfl) rfl .here (V.loadAgg rfl inEnt (encW.agg _) ag_56 sz_56_2) rfl (by kernel_rfl) rfl ?_
     refine XQ.pv (i := 1) (l' := #[tt,tt,ff,ff,ff,ff,ff,ff,ff]) rfl (by kernel_rfl) rfl (V.move rfl) rfl rfl ?_
     refine XQ.pv (i := 2) (l' := #[tt,tt,tt,ff,ff,ff,ff,ff,ff]) rfl (by kernel_rfl) rfl (V.move rfl) rfl rfl ?_
     refine XQ.pv (i := 3) (l' := #[tt,tt,tt,tt,ff,ff,ff,ff,ff]) rfl (by kernel_rfl) rfl (V.sub rfl rfl _ (IntWalk.i64_in _ (by omega))) rfl rfl ?_
     refine XQ.pv (i := 4) (l' := #[tt,tt,tt,tt,tt,ff,ff,ff,ff]) rfl (by kernel_rfl) rfl (V.indexSl rfl rfl sl_28 (by omega)) rfl rfl ?_
     refine XQ.load (i := 5) (l' := #[tt,tt,tt,tt,tt,tt,ff,ff,ff]) (.row _ _ _ _ _) [] rfl (by kernel_rfl) rfl (.t6 .here) (V.loadRow rfl inEnt (strs_at (by omega)) sc_9) rfl (by kernel_rfl) rfl ?_
     refine XQ.storeAgg (i := 6) (l' := #[tt,tt,tt,tt,tt,tt,tt,ff,ff]) rfl (by kernel_rfl) rfl rfl rfl (.t7 .here) (encW.st _ _) ⟨rfl, rfl⟩ sz_56_2 (fun _ hw' => ⟨fun _ => inXM (.t6 .here) _ hw', fun hs => (hs 6 (by first | (simp; done) | (simp; rfl)) rfl).elim, trivial⟩) ?_
     refine XQ.pv (i := 7) (l' := #[tt,tt,tt,tt,tt,tt,tt,tt,ff]) rfl (by kernel_rfl) rfl (V.assign rfl) rfl rfl ?_
     refine XQ.pv (i := 8) (l' := #[tt,tt,tt,tt,tt,tt,tt,tt,tt]) rfl (by kernel_rfl) rfl (V.assign rfl) rfl rfl ?_
     refine XQ.done (by kernel_rfl) ?_
     refine XE.next ?_
     refine XC.keep [(4, _), (5, _), (6, _)] (S3 rfl rfl rfl) ?_
     refine XC.ret ?_
     refine XE.retG3 rfl (.agg rfl (.t7 .here) (encW.agg _) ag_56 sz_56_2) (.tmp rfl) (.tmp rfl) (post_of (.cons (.there .here) (.cons (.there .here) (.cons (.there .here) (.cons (.there .here) (.cons (.there .here) .nil))))) rfl ?_)
     have e : lastE s.toFF l r x = 0 := by unfold lastE; rw [if_neg (by omega), if_neg (by rintro (a | a); exact h0 a; exact hd a), hl]
     have e2 : lastV s.toFF l r x = (led s.toFF l r (ninit (splitV x))).2 := by unfold lastV; rw [if_neg (by omega)]
     have e3 : lastN s.toFF l r x = nlast (splitV x) := by unfold lastN; rw [if_neg (by omega)]
     exact ⟨by rw [e, e2, e3]; try rfl, rfl⟩
set_option maxRecDepth 10000 in
set_option maxHeartbeats 4000000 in
theorem u_Raw (bt bf : Nat) (r : WH) (l : List MT) (p : Option Addr) (cap k c : Nat) (C : Nat → Value) (hv : RV.ok ⟨p, cap, k, l.length, c, C⟩) (hC : MC C l) (hm6 : l.length ≤ 6) (s : FC) (hI : s.toFF.Sh) (x : ByteArray) (hx : x.size ≤ 100000) : Spec Tryz.prog 47 [ptr bt 0 0, .string x]
    [.cells bt 0 4 (encT bf r (.slice p l.length c)), frow p cap 98 4 k C, .cells bf 0 321 (encM s), .fam fam40 (FC.rowsN 9 s), .fam fam40 (FC.rowsK 3 s)]
    (fun v H1 => v = .tuple #[.agg (WH.arr (rawV s.toFF l r x)), .int .i64 (rawE s.toFF l r x)] ∧ H1 = [.cells bt 0 4 (encT bf r (.slice p l.length c)), frow p cap 98 4 k C, .cells bf 0 321 (encM s), .fam fam40 (FC.rowsN 9 s), .fam fam40 (FC.rowsK 3 s)]) := by
 refine Spec.intro Tryz.func47 rfl rfl ?_
 intro W
 refine XC.sr ?_
 refine XO.allocZ (z := .agg (WH.arr WH.nil)) (m := 2) (C := encW WH.nil) (by kernel_rfl) rfl (encW.box _) rfl ?_
 intro br
 refine XO.as rfl rfl ?_
 refine XO.nk [(0, _), (1, _), (4, _)] (S3 rfl rfl rfl) ?_
 refine XC.seq ?_
 refine XC.sr ?_
 refine XO.mv rfl rfl ?_
 refine XO.v (V.strCmp rfl rfl rfl) rfl ?_
 refine XO.nk [(0, _), (1, _), (4, _), (11, _)] (S4 rfl rfl rfl rfl) ?_
 refine XC.condP rfl (fun h1 => ?_) (fun h1 => ?_)
 ·
  have hsl : x = slash := h1
  obtain ⟨e, e2⟩ := raw_slash (F := s.toFF) (l := l) (r := r) hsl
  refine XC.sr ?_
  refine XO.mv rfl rfl ?_
  refine XO.v (V.nilCheckP rfl) rfl ?_
  refine XO.v (V.fieldAddr rfl fo_60_1) rfl ?_
  refine XO.v (V.loadAgg rfl (inXM (.there .here)) (encT.ld1 _ _) ag_56 sz_56_2) rfl ?_
  refine XO.storeAgg rfl rfl .here (encW.st _ _) ⟨rfl, rfl⟩ sz_56_2 ?_
  refine XO.as rfl rfl ?_
  refine XO.nk [(4, _), (5, _)] (S2 rfl rfl) ?_
  refine XC.ret ?_
  refine XE.thenRet ?_
  refine XE.retG2 rfl (.agg rfl .here (encW.agg _) ag_56 sz_56_2) (.tmp rfl) (post_of (.cons (.there .here) (.cons (.there .here) (.cons (.there .here) (.cons (.there .here) (.cons (.there .here) .nil))))) rfl ?_)
  exact ⟨by rw [e, e2], rfl⟩
 ·
  have hsl : ¬ x = slash := h1
  refine XC.skip ?_
  refine XE.next ?_
  refine XC.keep [(0, _), (1, _), (4, _)] (S3 rfl rfl rfl) ?_
  refine XC.sr ?_
  refine XO.mv rfl rfl ?_
  refine XO.mv rfl rfl ?_
  refine XO.call rfl (u_Last _ _ _ _ _ _ _ _ _ hv hC hm6 s hI _ (by omega)) (.cons (.there .here) (.cons (.there .here) (.cons (.there .here) (.cons (.there .here) (.cons (.there .here) .nil))))) cl_55 rfl ?_
  rintro _ _ ⟨rfl, rfl⟩
  refine XO.mv rfl rfl ?_
  refine XO.v (V.extract rfl rfl) rfl ?_
  refine XO.v (V.extract rfl rfl) rfl ?_
  refine XO.v (V.extract rfl rfl) rfl ?_
  refine XO.allocZ (z := .agg (WH.arr WH.nil)) (m := 2) (C := encW WH.nil) (by kernel_rfl) rfl (encW.box _) rfl ?_
  intro b6
  refine XO.storeAgg rfl rfl .here (encW.st _ _) ⟨rfl, rfl⟩ sz_56_2 ?_
  refine XO.as rfl rfl ?_
  refine XO.as rfl rfl ?_
  refine XO.nk [(0, _), (4, _), (6, _), (7, _), (8, _)] (S5 rfl rfl rfl rfl rfl) ?_
  refine XC.seq ?_
  refine XC.sr ?_
  refine XO.mv rfl rfl ?_
  refine XO.v (V.cmp rfl rfl rfl) rfl ?_
  refine XO.nk [(0, _), (4, _), (6, _), (7, _), (8, _), (24, _)] (S6 rfl rfl rfl rfl rfl rfl) ?_
  refine XC.condP rfl (fun h2 => ?_) (fun h2 => ?_)
  ·
   obtain ⟨e, e2⟩ := raw_err (F := s.toFF) (l := l) (r := r) hsl (by omega)
   refine XC.sr ?_
   refine XO.v (V.build (vs := #[]) rfl (v := .agg (WH.arr WH.nil)) (fun _ => by kernel_rfl)) rfl ?_
   refine XO.mv rfl rfl ?_
   refine XO.storeAgg rfl rfl (.t6 .here) (encW.st _ _) ⟨rfl, rfl⟩ sz_56_2 ?_
   refine XO.as rfl rfl ?_
   refine XO.nk [(4, _), (5, _)] (S2 rfl rfl) ?_
   refine XC.ret ?_
   refine XE.thenRet ?_
   refine XE.retG2 rfl (.agg rfl (.t6 .here) (encW.agg _) ag_56 sz_56_2) (.tmp rfl) (post_of (.cons (.there .here) (.cons (.there .here) (.cons (.there .here) (.cons (.there .here) (.cons (.there .here) .nil))))) rfl ?_)
   exact ⟨by rw [e, e2], rfl⟩
  ·
   have hl0 : lastE s.toFF l r x = 0 := by have := lastE_nn s.toFF l r x; omega
   obtain ⟨e, e2⟩ := raw_ok (F := s.toFF) (l := l) (r := r) hsl hl0
   refine XC.skip ?_
   refine XE.next ?_
   refine XC.keep [(0, _), (4, _), (6, _), (7, _)] (S4 rfl rfl rfl rfl) ?_
   refine XC.seq ?_
   refine XC.regionQ mixed (f := 13) (l := #[false, false, false, false, false, false, false, false, false, false, false, false, false]) rfl rfl XM.drawn' ?_
   refine XQ.pv (i := 0) (l' := #[tt,ff,ff,ff,ff,ff,ff,ff,ff,ff,ff,ff,ff]) rfl (by kernel_rfl) rfl (V.move rfl) rfl rfl ?_
   refine XQ.pv (i := 1) (l' := #[tt,tt,ff,ff,ff,ff,ff,ff,ff,ff,ff,ff,ff]) rfl (by kernel_rfl) rfl (V.nilCheckP rfl) rfl rfl ?_
   refine XQ.pv (i := 2) (l' := #[tt,tt,tt,ff,ff,ff,ff,ff,ff,ff,ff,ff,ff]) rfl (by kernel_rfl) rfl (V.fieldAddr rfl fo_60_0) rfl rfl ?_
   refine XQ.load (i := 3) (l' := #[tt,tt,tt,tt,ff,ff,ff,ff,ff,ff,ff,ff,ff]) (.cells _ _ _ _) [7] rfl (by kernel_rfl) rfl (.there .here) (V.load rfl inEnt (encT.ld0 _ _) sc_27) rfl (by kernel_rfl) rfl ?_
   refine XQ.pv (i := 4) (l' := #[tt,tt,tt,tt,tt,ff,ff,ff,ff,ff,ff,ff,ff]) rfl (by kernel_rfl) rfl (V.fieldAddr rfl fo_56_1) rfl rfl ?_
   refine XQ.load (i := 5) (l' := #[tt,tt,tt,tt,tt,tt,ff,ff,ff,ff,ff,ff,ff]) (.cells _ _ _ _) [7] rfl (by kernel_rfl) rfl .here (V.load rfl inEnt (encW.ld1 _) sc_3) rfl (by kernel_rfl) rfl ?_
   refine XQ.pv (i := 6) (l' := #[tt,tt,tt,tt,tt,tt,tt,ff,ff,ff,ff,ff,ff]) rfl (by kernel_rfl) rfl (V.move rfl) rfl rfl ?_
   refine XQ.call (i := 7) (l' := #[tt,tt,tt,tt,tt,tt,tt,tt,ff,ff,ff,ff,ff]) rfl (by kernel_rfl) rfl rfl (r_Find _ _ _ hI _ _) (.cons (.t3 .here) (.cons (.t3 .here) (.cons (.t3 .here) .nil))) cl_39 rfl (by rintro _ _ ⟨rfl, rfl⟩; all_goals (intro _ hw'; exact ⟨fun hs => (hs 7 (by first | (simp; done) | (simp; rfl)) rfl).elim, fun hs => (hs 7 (by first | (simp; done) | (simp; rfl)) rfl).elim, trivial⟩)) ?_
   rintro _ _ ⟨rfl, rfl⟩
   refine XQ.pv (i := 8) (l' := #[tt,tt,tt,tt,tt,tt,tt,tt,tt,ff,ff,ff,ff]) rfl (by kernel_rfl) rfl (V.move rfl) rfl rfl ?_
   refine XQ.pv (i := 9) (l' := #[tt,tt,tt,tt,tt,tt,tt,tt,tt,tt,ff,ff,ff]) rfl (by kernel_rfl) rfl (V.extract rfl rfl) rfl rfl ?_
   refine XQ.pv (i := 10) (l' := #[tt,tt,tt,tt,tt,tt,tt,tt,tt,tt,tt,ff,ff]) rfl (by kernel_rfl) rfl (V.extract rfl rfl) rfl rfl ?_
   refine XQ.pv (i := 11) (l' := #[tt,tt,tt,tt,tt,tt,tt,tt,tt,tt,tt,tt,ff]) rfl (by kernel_rfl) rfl (V.assign rfl) rfl rfl ?_
   refine XQ.pv (i := 12) (l' := #[tt,tt,tt,tt,tt,tt,tt,tt,tt,tt,tt,tt,tt]) rfl (by kernel_rfl) rfl (V.assign rfl) rfl rfl ?_
   refine XQ.done (by kernel_rfl) ?_
   refine XE.next ?_
   refine XC.keep [(4, _), (6, _), (8, _), (9, _)] (S4 rfl rfl rfl rfl) ?_
   refine XC.seq ?_
   refine XC.sr ?_
   refine XO.mv rfl rfl ?_
   refine XO.v (V.cmp rfl rfl rfl) rfl ?_
   refine XO.nk [(4, _), (6, _), (8, _), (9, _), (39, _)] (S5 rfl rfl rfl rfl rfl) ?_
   refine XC.condP rfl (fun h3 => ?_) (fun h3 => ?_)
   ·
    have e2 : rawV s.toFF l r x = WH.nil := by unfold rawV; rw [if_pos (by omega)]
    refine XC.sr ?_
    refine XO.v (V.build (vs := #[]) rfl (v := .agg (WH.arr WH.nil)) (fun _ => by kernel_rfl)) rfl ?_
    refine XO.mv rfl rfl ?_
    refine XO.storeAgg rfl rfl (.t6 .here) (encW.st _ _) ⟨rfl, rfl⟩ sz_56_2 ?_
    refine XO.as rfl rfl ?_
    refine XO.nk [(4, _), (5, _)] (S2 rfl rfl) ?_
    refine XC.ret ?_
    refine XE.thenRet ?_
    refine XE.retG2 rfl (.agg rfl (.t6 .here) (encW.agg _) ag_56 sz_56_2) (.tmp rfl) (post_of (.cons (.t4 .here) (.cons (.t4 .here) .h3)) rfl ?_)
    exact ⟨by rw [e, e2], rfl⟩
   ·
    have hf : s.toFF.findE (lastV s.toFF l r x).node (lastN s.toFF l r x) = 0 := by have := FF.findE_nn s.toFF (lastV s.toFF l r x).node (lastN s.toFF l r x); omega
    have e2 := e2 hf
    rw [hf] at e
    refine XC.skip ?_
    refine XE.next ?_
    refine XC.keep [(4, _), (6, _), (9, _)] (S3 rfl rfl rfl) ?_
    refine XC.sr ?_
    refine XO.v (V.fieldAddr rfl fo_56_0) rfl ?_
    refine XO.v (V.load rfl (inXM (.t3 .here)) (encW.ld0 _) sc_3) rfl ?_
    refine XO.mv rfl rfl ?_
    refine XO.v (V.build (vs := #[(0, .int .i64 (lastV s.toFF l r x).tree), (1, .int .i64 (s.toFF.findV (lastV s.toFF l r x).node (lastN s.toFF l r x)))]) rfl (v := .agg (WH.arr ⟨(lastV s.toFF l r x).tree, s.toFF.findV (lastV s.toFF l r x).node (lastN s.toFF l r x)⟩)) (fun _ => by kernel_rfl)) rfl ?_
    refine XO.storeAgg rfl rfl (.t6 .here) (encW.st _ _) ⟨rfl, rfl⟩ sz_56_2 ?_
    refine XO.as rfl rfl ?_
    refine XO.nk [(4, _), (5, _)] (S2 rfl rfl) ?_
    refine XC.ret ?_
    refine XE.retG2 rfl (.agg rfl (.t6 .here) (encW.agg _) ag_56 sz_56_2) (.tmp rfl) (post_of (.cons (.t4 .here) (.cons (.t4 .here) .h3)) rfl ?_)
    exact ⟨by rw [e, e2], rfl⟩
set_option maxRecDepth 10000 in
set_option maxHeartbeats 2000000 in
theorem u_dir (bt bf : Nat) (r : WH) (v : Value) (s : FC) (hI : s.toFF.Sh) (z : WH) : Spec Tryz.prog 84 [ptr bt 0 0, .agg (WH.arr z)]
    [.cells bt 0 4 (encT bf r (v)), .cells bf 0 321 (encM s)]
    (fun u H1 => u = .int .i64 (dirE s.toFF z) ∧ H1 = [.cells bt 0 4 (encT bf r (v)), .cells bf 0 321 (encM s)]) := by
 refine Spec.intro Tryz.func84 rfl rfl ?_
 intro W
 refine XC.sr ?_
 refine XO.box (m := 2) (C := encW (z)) rfl rfl (encW.box _) rfl ?_
 intro bz
 refine XO.as rfl rfl ?_
 refine XO.nk [(0, _), (3, _)] (S2 rfl rfl) ?_
 refine XC.seq ?_
 refine XC.seq ?_
 refine XC.regionQ mixed (f := 8) (l := #[false, false, false, false, false, false, false, false]) rfl rfl XM.drawn' ?_
 refine XQ.pv (i := 0) (l' := #[tt,ff,ff,ff,ff,ff,ff,ff]) rfl (by kernel_rfl) rfl (V.move rfl) rfl rfl ?_
 refine XQ.pv (i := 1) (l' := #[tt,tt,ff,ff,ff,ff,ff,ff]) rfl (by kernel_rfl) rfl (V.nilCheckP rfl) rfl rfl ?_
 refine XQ.pv (i := 2) (l' := #[tt,tt,tt,ff,ff,ff,ff,ff]) rfl (by kernel_rfl) rfl (V.fieldAddr rfl fo_60_0) rfl rfl ?_
 refine XQ.load (i := 3) (l' := #[tt,tt,tt,tt,ff,ff,ff,ff]) (.cells _ _ _ _) [6] rfl (by kernel_rfl) rfl (.there .here) (V.load rfl inEnt (encT.ld0 _ _) sc_27) rfl (by kernel_rfl) rfl ?_
 refine XQ.pv (i := 4) (l' := #[tt,tt,tt,tt,tt,ff,ff,ff]) rfl (by kernel_rfl) rfl (V.fieldAddr rfl fo_56_1) rfl rfl ?_
 refine XQ.load (i := 5) (l' := #[tt,tt,tt,tt,tt,tt,ff,ff]) (.cells _ _ _ _) [6] rfl (by kernel_rfl) rfl .here (V.load rfl inEnt (encW.ld1 _) sc_3) rfl (by kernel_rfl) rfl ?_
 refine XQ.call (i := 6) (l' := #[tt,tt,tt,tt,tt,tt,tt,ff]) rfl (by kernel_rfl) rfl rfl (r_Is _ _ _ _ _) (.cons (.t2 .here) .nil) cl_65 rfl (by rintro _ _ ⟨rfl, rfl⟩; all_goals (intro _ hw'; exact ⟨fun hs => (hs 6 (by first | (simp; done) | (simp; rfl)) rfl).elim, fun hs => (hs 6 (by first | (simp; done) | (simp; rfl)) rfl).elim, trivial⟩)) ?_
 rintro _ _ ⟨rfl, rfl⟩
 refine XQ.pv (i := 7) (l' := #[tt,tt,tt,tt,tt,tt,tt,tt]) rfl (by kernel_rfl) rfl (V.assign rfl) rfl rfl ?_
 refine XQ.done (by kernel_rfl) ?_
 refine XE.next ?_
 refine XC.keep [(0, _), (3, _), (5, _)] (S3 rfl rfl rfl) ?_
 refine XC.sr ?_
 refine XO.mv rfl rfl ?_
 refine XO.v (V.cmp rfl rfl rfl) rfl ?_
 refine XO.nk [(0, _), (3, _), (5, _), (14, _)] (S4 rfl rfl rfl rfl) ?_
 refine XC.condP rfl (fun h1 => ?_) (fun h1 => ?_)
 ·
  have e : dirE s.toFF z = s.toFF.isE z.node 0 := by unfold dirE; rw [if_pos (by omega)]
  refine XC.sr ?_
  refine XO.mv rfl rfl ?_
  refine XO.as rfl rfl ?_
  refine XO.nk [(4, _)] (S1 rfl) ?_
  refine XC.ret ?_
  refine XE.thenRet ?_
  refine XE.ret1 rfl rfl (post_of (.cons (.t2 .here) .h1) rfl ?_)
  exact ⟨by rw [e], rfl⟩
 ·
  have i0 : s.toFF.isE z.node 0 = 0 := by have := FF.isE_nn s.toFF z.node 0; omega
  obtain ⟨i1, i2, i3⟩ := FF.isE_0 i0
  refine XC.skip ?_
  refine XE.next ?_
  refine XC.keep [(0, _), (3, _)] (S2 rfl rfl) ?_
  refine XC.seq ?_
  refine XC.seq ?_
  refine XC.regionQ mixed (f := 28) (l := #[false, false, false, false, false, false, false, false, false, false, false, false, false, false, false, false, false, false, false, false, false, false, false, false, false, false, false, false]) rfl rfl XM.drawn' ?_
  refine XQ.pv (i := 0) (l' := #[tt,ff,ff,ff,ff,ff,ff,ff,ff,ff,ff,ff,ff,ff,ff,ff,ff,ff,ff,ff,ff,ff,ff,ff,ff,ff,ff,ff]) rfl (by kernel_rfl) rfl (V.move rfl) rfl rfl ?_
  refine XQ.pv (i := 1) (l' := #[tt,tt,ff,ff,ff,ff,ff,ff,ff,ff,ff,ff,ff,ff,ff,ff,ff,ff,ff,ff,ff,ff,ff,ff,ff,ff,ff,ff]) rfl (by kernel_rfl) rfl (V.nilCheckP rfl) rfl rfl ?_
  refine XQ.pv (i := 2) (l' := #[tt,tt,tt,ff,ff,ff,ff,ff,ff,ff,ff,ff,ff,ff,ff,ff,ff,ff,ff,ff,ff,ff,ff,ff,ff,ff,ff,ff]) rfl (by kernel_rfl) rfl (V.fieldAddr rfl fo_60_0) rfl rfl ?_
  refine XQ.load (i := 3) (l' := #[tt,tt,tt,tt,ff,ff,ff,ff,ff,ff,ff,ff,ff,ff,ff,ff,ff,ff,ff,ff,ff,ff,ff,ff,ff,ff,ff,ff]) (.cells _ _ _ _) [] rfl (by kernel_rfl) rfl (.t2 .here) (V.load rfl inEnt (encT.ld0 _ _) sc_27) rfl (by kernel_rfl) rfl ?_
  refine XQ.pv (i := 4) (l' := #[tt,tt,tt,tt,tt,ff,ff,ff,ff,ff,ff,ff,ff,ff,ff,ff,ff,ff,ff,ff,ff,ff,ff,ff,ff,ff,ff,ff]) rfl (by kernel_rfl) rfl (V.fieldAddr rfl fo_56_1) rfl rfl ?_
  refine XQ.load (i := 5) (l' := #[tt,tt,tt,tt,tt,tt,ff,ff,ff,ff,ff,ff,ff,ff,ff,ff,ff,ff,ff,ff,ff,ff,ff,ff,ff,ff,ff,ff]) (.cells _ _ _ _) [] rfl (by kernel_rfl) rfl (.there .here) (V.load rfl inEnt (encW.ld1 _) sc_3) rfl (by kernel_rfl) rfl ?_
  refine XQ.pv (i := 6) (l' := #[tt,tt,tt,tt,tt,tt,tt,ff,ff,ff,ff,ff,ff,ff,ff,ff,ff,ff,ff,ff,ff,ff,ff,ff,ff,ff,ff,ff]) rfl (by kernel_rfl) rfl (V.nilCheckP rfl) rfl rfl ?_
  refine XQ.pv (i := 7) (l' := #[tt,tt,tt,tt,tt,tt,tt,tt,ff,ff,ff,ff,ff,ff,ff,ff,ff,ff,ff,ff,ff,ff,ff,ff,ff,ff,ff,ff]) rfl (by kernel_rfl) rfl (V.fieldAddr rfl fo_34_0) rfl rfl ?_
  refine XQ.pv (i := 8) (l' := #[tt,tt,tt,tt,tt,tt,tt,tt,tt,ff,ff,ff,ff,ff,ff,ff,ff,ff,ff,ff,ff,ff,ff,ff,ff,ff,ff,ff]) rfl (by kernel_rfl) rfl (V.indexArr rfl rfl ar_32 (by omega)) rfl rfl ?_
  refine XQ.pv (i := 9) (l' := #[tt,tt,tt,tt,tt,tt,tt,tt,tt,tt,ff,ff,ff,ff,ff,ff,ff,ff,ff,ff,ff,ff,ff,ff,ff,ff,ff,ff]) rfl (by kernel_rfl) rfl (V.fieldAddr rfl fo_31_0) rfl rfl ?_
  refine XQ.load (i := 10) (l' := #[tt,tt,tt,tt,tt,tt,tt,tt,tt,tt,tt,ff,ff,ff,ff,ff,ff,ff,ff,ff,ff,ff,ff,ff,ff,ff,ff,ff]) (.cells _ _ _ _) [] rfl (by kernel_rfl) rfl .here (V.load rfl inEnt (encM.ld_N_Kind _ _ (by omega)) sc_3) rfl (by kernel_rfl) rfl ?_
  refine XQ.pv (i := 11) (l' := #[tt,tt,tt,tt,tt,tt,tt,tt,tt,tt,tt,tt,ff,ff,ff,ff,ff,ff,ff,ff,ff,ff,ff,ff,ff,ff,ff,ff]) rfl (by kernel_rfl) rfl (V.cmp rfl rfl rfl) rfl rfl ?_
  refine XQ.pv (i := 12) (l' := #[tt,tt,tt,tt,tt,tt,tt,tt,tt,tt,tt,tt,tt,ff,ff,ff,ff,ff,ff,ff,ff,ff,ff,ff,ff,ff,ff,ff]) rfl (by kernel_rfl) rfl (V.move rfl) rfl rfl ?_
  refine XQ.splitP (d := 28) rfl (fun h2 => ?_) (fun h2 => ?_)
  ·
   have e : dirE s.toFF z = 11 := by unfold dirE; rw [if_neg (by omega), if_pos (.inl (by assumption))]
   refine XQ.skip (i := 13) (l' := #[tt,tt,tt,tt,tt,tt,tt,tt,tt,tt,tt,tt,tt,tt,ff,ff,ff,ff,ff,ff,ff,ff,ff,ff,ff,ff,ff,ff]) rfl rfl rfl rfl rfl (by kernel_rfl) rfl rfl rfl ?_
   refine XQ.skip (i := 14) (l' := #[tt,tt,tt,tt,tt,tt,tt,tt,tt,tt,tt,tt,tt,tt,tt,ff,ff,ff,ff,ff,ff,ff,ff,ff,ff,ff,ff,ff]) rfl rfl rfl rfl rfl (by kernel_rfl) rfl rfl rfl ?_
   refine XQ.skip (i := 15) (l' := #[tt,tt,tt,tt,tt,tt,tt,tt,tt,tt,tt,tt,tt,tt,tt,tt,ff,ff,ff,ff,ff,ff,ff,ff,ff,ff,ff,ff]) rfl rfl rfl rfl rfl (by kernel_rfl) rfl rfl rfl ?_
   refine XQ.skip (i := 16) (l' := #[tt,tt,tt,tt,tt,tt,tt,tt,tt,tt,tt,tt,tt,tt,tt,tt,tt,ff,ff,ff,ff,ff,ff,ff,ff,ff,ff,ff]) rfl rfl rfl rfl rfl (by kernel_rfl) rfl rfl rfl ?_
   refine XQ.skip (i := 17) (l' := #[tt,tt,tt,tt,tt,tt,tt,tt,tt,tt,tt,tt,tt,tt,tt,tt,tt,tt,ff,ff,ff,ff,ff,ff,ff,ff,ff,ff]) rfl rfl rfl rfl rfl (by kernel_rfl) rfl rfl rfl ?_
   refine XQ.skip (i := 18) (l' := #[tt,tt,tt,tt,tt,tt,tt,tt,tt,tt,tt,tt,tt,tt,tt,tt,tt,tt,tt,ff,ff,ff,ff,ff,ff,ff,ff,ff]) rfl rfl rfl rfl rfl (by kernel_rfl) rfl rfl rfl ?_
   refine XQ.skip (i := 19) (l' := #[tt,tt,tt,tt,tt,tt,tt,tt,tt,tt,tt,tt,tt,tt,tt,tt,tt,tt,tt,tt,ff,ff,ff,ff,ff,ff,ff,ff]) rfl rfl rfl rfl rfl (by kernel_rfl) rfl rfl rfl ?_
   refine XQ.skip (i := 20) (l' := #[tt,tt,tt,tt,tt,tt,tt,tt,tt,tt,tt,tt,tt,tt,tt,tt,tt,tt,tt,tt,tt,ff,ff,ff,ff,ff,ff,ff]) rfl rfl rfl rfl rfl (by kernel_rfl) rfl rfl rfl ?_
   refine XQ.skip (i := 21) (l' := #[tt,tt,tt,tt,tt,tt,tt,tt,tt,tt,tt,tt,tt,tt,tt,tt,tt,tt,tt,tt,tt,tt,ff,ff,ff,ff,ff,ff]) rfl rfl rfl rfl rfl (by kernel_rfl) rfl rfl rfl ?_
   refine XQ.skip (i := 22) (l' := #[tt,tt,tt,tt,tt,tt,tt,tt,tt,tt,tt,tt,tt,tt,tt,tt,tt,tt,tt,tt,tt,tt,tt,ff,ff,ff,ff,ff]) rfl rfl rfl rfl rfl (by kernel_rfl) rfl rfl rfl ?_
   refine XQ.skip (i := 23) (l' := #[tt,tt,tt,tt,tt,tt,tt,tt,tt,tt,tt,tt,tt,tt,tt,tt,tt,tt,tt,tt,tt,tt,tt,tt,ff,ff,ff,ff]) rfl rfl rfl rfl rfl (by kernel_rfl) rfl rfl rfl ?_
   refine XQ.skip (i := 24) (l' := #[tt,tt,tt,tt,tt,tt,tt,tt,tt,tt,tt,tt,tt,tt,tt,tt,tt,tt,tt,tt,tt,tt,tt,tt,tt,ff,ff,ff]) rfl rfl rfl rfl rfl (by kernel_rfl) rfl rfl rfl ?_
   refine XQ.skip (i := 25) (l' := #[tt,tt,tt,tt,tt,tt,tt,tt,tt,tt,tt,tt,tt,tt,tt,tt,tt,tt,tt,tt,tt,tt,tt,tt,tt,tt,ff,ff]) rfl rfl rfl rfl rfl (by kernel_rfl) rfl rfl rfl ?_
   refine XQ.skip (i := 26) (l' := #[tt,tt,tt,tt,tt,tt,tt,tt,tt,tt,tt,tt,tt,tt,tt,tt,tt,tt,tt,tt,tt,tt,tt,tt,tt,tt,tt,ff]) rfl rfl rfl rfl rfl (by kernel_rfl) rfl rfl rfl ?_
   refine XQ.pv (i := 27) (l' := #[tt,tt,tt,tt,tt,tt,tt,tt,tt,tt,tt,tt,tt,tt,tt,tt,tt,tt,tt,tt,tt,tt,tt,tt,tt,tt,tt,tt]) rfl (by kernel_rfl) rfl (V.pick rfl rfl rfl rfl) rfl rfl ?_
   refine XQ.done (by kernel_rfl) ?_
   refine XE.next ?_
   refine XC.keep [(43, _)] (S1 rfl) ?_
   refine XC.condT rfl rfl ?_
   refine XC.sr ?_
   refine XO.as rfl rfl ?_
   refine XO.nk [(4, _)] (S1 rfl) ?_
   refine XC.ret ?_
   refine XE.thenRet ?_
   refine XE.ret1 rfl rfl (post_of (.cons (.t2 .here) .h1) rfl ?_)
   exact ⟨by rw [e], rfl⟩
  ·
   refine XQ.pvG (i := 13) (l' := #[tt,tt,tt,tt,tt,tt,tt,tt,tt,tt,tt,tt,tt,tt,ff,ff,ff,ff,ff,ff,ff,ff,ff,ff,ff,ff,ff,ff]) rfl rfl rfl (by kernel_rfl) rfl (V.move rfl) rfl rfl ?_
   refine XQ.pvG (i := 14) (l' := #[tt,tt,tt,tt,tt,tt,tt,tt,tt,tt,tt,tt,tt,tt,tt,ff,ff,ff,ff,ff,ff,ff,ff,ff,ff,ff,ff,ff]) rfl rfl rfl (by kernel_rfl) rfl (V.nilCheckP rfl) rfl rfl ?_
   refine XQ.pvG (i := 15) (l' := #[tt,tt,tt,tt,tt,tt,tt,tt,tt,tt,tt,tt,tt,tt,tt,tt,ff,ff,ff,ff,ff,ff,ff,ff,ff,ff,ff,ff]) rfl rfl rfl (by kernel_rfl) rfl (V.fieldAddr rfl fo_60_0) rfl rfl ?_
   refine XQ.loadG (i := 16) (l' := #[tt,tt,tt,tt,tt,tt,tt,tt,tt,tt,tt,tt,tt,tt,tt,tt,tt,ff,ff,ff,ff,ff,ff,ff,ff,ff,ff,ff]) (.cells _ _ _ _) [] rfl rfl rfl (by kernel_rfl) rfl (.t2 .here) (V.load rfl inEnt (encT.ld0 _ _) sc_27) rfl (by kernel_rfl) rfl ?_
   refine XQ.pvG (i := 17) (l' := #[tt,tt,tt,tt,tt,tt,tt,tt,tt,tt,tt,tt,tt,tt,tt,tt,tt,tt,ff,ff,ff,ff,ff,ff,ff,ff,ff,ff]) rfl rfl rfl (by kernel_rfl) rfl (V.fieldAddr rfl fo_56_1) rfl rfl ?_
   refine XQ.loadG (i := 18) (l' := #[tt,tt,tt,tt,tt,tt,tt,tt,tt,tt,tt,tt,tt,tt,tt,tt,tt,tt,tt,ff,ff,ff,ff,ff,ff,ff,ff,ff]) (.cells _ _ _ _) [] rfl rfl rfl (by kernel_rfl) rfl (.there .here) (V.load rfl inEnt (encW.ld1 _) sc_3) rfl (by kernel_rfl) rfl ?_
   refine XQ.pvG (i := 19) (l' := #[tt,tt,tt,tt,tt,tt,tt,tt,tt,tt,tt,tt,tt,tt,tt,tt,tt,tt,tt,tt,ff,ff,ff,ff,ff,ff,ff,ff]) rfl rfl rfl (by kernel_rfl) rfl (V.nilCheckP rfl) rfl rfl ?_
   refine XQ.pvG (i := 20) (l' := #[tt,tt,tt,tt,tt,tt,tt,tt,tt,tt,tt,tt,tt,tt,tt,tt,tt,tt,tt,tt,tt,ff,ff,ff,ff,ff,ff,ff]) rfl rfl rfl (by kernel_rfl) rfl (V.fieldAddr rfl fo_34_0) rfl rfl ?_
   refine XQ.pvG (i := 21) (l' := #[tt,tt,tt,tt,tt,tt,tt,tt,tt,tt,tt,tt,tt,tt,tt,tt,tt,tt,tt,tt,tt,tt,ff,ff,ff,ff,ff,ff]) rfl rfl rfl (by kernel_rfl) rfl (V.indexArr rfl rfl ar_32 (by omega)) rfl rfl ?_
   refine XQ.pvG (i := 22) (l' := #[tt,tt,tt,tt,tt,tt,tt,tt,tt,tt,tt,tt,tt,tt,tt,tt,tt,tt,tt,tt,tt,tt,tt,ff,ff,ff,ff,ff]) rfl rfl rfl (by kernel_rfl) rfl (V.fieldAddr rfl fo_31_1) rfl rfl ?_
   refine XQ.loadG (i := 23) (l' := #[tt,tt,tt,tt,tt,tt,tt,tt,tt,tt,tt,tt,tt,tt,tt,tt,tt,tt,tt,tt,tt,tt,tt,tt,ff,ff,ff,ff]) (.cells _ _ _ _) [] rfl rfl rfl (by kernel_rfl) rfl .here (V.load rfl inEnt (encM.ld_N_Tree _ _ (by omega)) sc_3) rfl (by kernel_rfl) rfl ?_
   refine XQ.pvG (i := 24) (l' := #[tt,tt,tt,tt,tt,tt,tt,tt,tt,tt,tt,tt,tt,tt,tt,tt,tt,tt,tt,tt,tt,tt,tt,tt,tt,ff,ff,ff]) rfl rfl rfl (by kernel_rfl) rfl (V.fieldAddr rfl fo_56_0) rfl rfl ?_
   refine XQ.loadG (i := 25) (l' := #[tt,tt,tt,tt,tt,tt,tt,tt,tt,tt,tt,tt,tt,tt,tt,tt,tt,tt,tt,tt,tt,tt,tt,tt,tt,tt,ff,ff]) (.cells _ _ _ _) [] rfl rfl rfl (by kernel_rfl) rfl (.there .here) (V.load rfl inEnt (encW.ld0 _) sc_3) rfl (by kernel_rfl) rfl ?_
   refine XQ.pvG (i := 26) (l' := #[tt,tt,tt,tt,tt,tt,tt,tt,tt,tt,tt,tt,tt,tt,tt,tt,tt,tt,tt,tt,tt,tt,tt,tt,tt,tt,tt,ff]) rfl rfl rfl (by kernel_rfl) rfl (V.cmp rfl rfl rfl) rfl rfl ?_
   refine XQ.pv (i := 27) (l' := #[tt,tt,tt,tt,tt,tt,tt,tt,tt,tt,tt,tt,tt,tt,tt,tt,tt,tt,tt,tt,tt,tt,tt,tt,tt,tt,tt,tt]) rfl (by kernel_rfl) rfl (V.pick rfl rfl rfl rfl) rfl rfl ?_
   refine XQ.done (by kernel_rfl) ?_
   refine XE.next ?_
   refine XC.keep [(43, _)] (S1 rfl) ?_
   refine XC.condP rfl (fun h3 => ?_) (fun h3 => ?_)
   ·
    have e : dirE s.toFF z = 11 := by unfold dirE; rw [if_neg (by omega), if_pos (.inr (by assumption))]
    refine XC.sr ?_
    refine XO.as rfl rfl ?_
    refine XO.nk [(4, _)] (S1 rfl) ?_
    refine XC.ret ?_
    refine XE.thenRet ?_
    refine XE.ret1 rfl rfl (post_of (.cons (.t2 .here) .h1) rfl ?_)
    exact ⟨by rw [e], rfl⟩
   ·
    have e : dirE s.toFF z = 0 := by unfold dirE; rw [if_neg (by omega), if_neg (by rintro (a | a) <;> contradiction)]
    refine XC.skip ?_
    refine XE.next ?_
    refine XC.keep [] (Sub.nil _) ?_
    refine XC.sr ?_
    refine XO.as rfl rfl ?_
    refine XO.nk [(4, _)] (S1 rfl) ?_
    refine XC.ret ?_
    refine XE.ret1 rfl rfl (post_of (.cons (.t2 .here) .h1) rfl ?_)
    exact ⟨by rw [e], rfl⟩
end Go.X

namespace Go.X
open Go Go.Proofs
theorem cl_84 : callable Tryz.prog 84 = true := by kernel_rfl
set_option maxRecDepth 10000 in
set_option maxHeartbeats 8000000 in
theorem u_Bind (bt bf : Nat) (r : WH) (l : List MT) (p : Option Addr) (cap k c : Nat) (C : Nat → Value) (hv : RV.ok ⟨p, cap, k, l.length, c, C⟩) (hC : MC C l) (hm6 : l.length ≤ 6) (s : FC) (d : Int → Nat) (B : Int) (hO : s.toFF.Ok d B) (hB : B ≤ 900000) (a z : WH) : Spec Tryz.prog 50 [ptr bt 0 0, .agg (WH.arr a), .agg (WH.arr z)]
    [.cells bt 0 4 (encT bf r (.slice p l.length c)), frow p cap 98 4 k C, .cells bf 0 321 (encM s), .fam fam40 (FC.rowsN 9 s), .fam fam40 (FC.rowsK 3 s)]
    (fun v H1 => v = .int .i64 (bindE s.toFF l a z) ∧ ∃ (p' : Option Addr) (cap' k' c' : Nat) (C' : Nat → Value) (u : FC), RV.ok ⟨p', cap', k', (bindL s.toFF l a z).length, c', C'⟩ ∧ MC C' (bindL s.toFF l a z) ∧ u.toFF = bindF s.toFF l a z ∧ u.rP = s.rP ∧ u.rC = s.rC ∧ H1 = [.cells bt 0 4 (encT bf r (.slice p' (bindL s.toFF l a z).length c')), frow p' cap' 98 4 k' C', .cells bf 0 321 (encM u), .fam fam40 (FC.rowsN 9 u), .fam fam40 (FC.rowsK 3 u)]) := by
 have hlk := RV.ok_le hv
 have hlk : l.length ≤ k := hlk
 have hI := hO.sh (by omega)
 have := dirE_nn s.toFF a
 have := dirE_nn s.toFF z
 refine Spec.intro Tryz.func50 rfl rfl ?_
 intro W
 refine XC.sr ?_
 refine XO.box (m := 2) (C := encW (a)) rfl rfl (encW.box _) rfl ?_
 intro ba
 refine XO.box (m := 2) (C := encW (z)) rfl rfl (encW.box _) rfl ?_
 intro bz
 refine XO.as rfl rfl ?_
 refine XO.nk [(0, _), (4, _), (5, _)] (S3 rfl rfl rfl) ?_
 refine XC.seq ?_
 refine XC.sr ?_
 refine XO.mv rfl rfl ?_
 refine XO.v (V.loadAgg rfl (inXM (.there .here)) (encW.agg _) ag_56 sz_56_2) rfl ?_
 refine XO.call rfl (u_dir _ _ _ _ s hI _) (.cons (.t2 .here) (.cons (.t3 .here) .nil)) cl_84 rfl ?_
 rintro _ _ ⟨rfl, rfl⟩
 refine XO.as rfl rfl ?_
 refine XO.nk [(0, _), (4, _), (5, _), (7, _)] (S4 rfl rfl rfl rfl) ?_
 refine XC.sr ?_
 refine XO.mv rfl rfl ?_
 refine XO.v (V.cmp rfl rfl rfl) rfl ?_
 refine XO.nk [(0, _), (4, _), (5, _), (7, _), (14, _)] (S5 rfl rfl rfl rfl rfl) ?_
 refine XC.condP rfl (fun h1 => ?_) (fun h1 => ?_)
 ·
  refine XC.sr ?_
  refine XO.mv rfl rfl ?_
  refine XO.as rfl rfl ?_
  refine XO.nk [(6, _)] (S1 rfl) ?_
  refine XC.ret ?_
  refine XE.thenRet ?_
  refine XE.ret1 rfl rfl (post_of (.cons .here (.cons (.t3 .here) (.cons .here (.cons (.t2 .here) (.cons (.t2 .here) .nil))))) rfl ?_)
  have e : bindE s.toFF l a z = dirE s.toFF a := by unfold bindE; rw [if_pos (by omega)]
  have eL : (bindL s.toFF l a z) = l := by unfold bindL; rw [if_neg (by omega)]
  have eF : bindF s.toFF l a z = s.toFF := by unfold bindF; rw [if_neg (by omega)]
  exact ⟨by rw [e], p, cap, k, c, C, s, by rw [eL]; exact hv, by rw [eL]; exact hC, by rw [eF], rfl, rfl, by rw [eL]⟩
 ·
  refine XC.skip ?_
  refine XE.next ?_
  refine XC.keep [(0, _), (4, _), (5, _)] (S3 rfl rfl rfl) ?_
  refine XC.seq ?_
  refine XC.sr ?_
  refine XO.mv rfl rfl ?_
  refine XO.v (V.loadAgg rfl (inXM (.t2 .here)) (encW.agg _) ag_56 sz_56_2) rfl ?_
  refine XO.call rfl (u_dir _ _ _ _ s hI _) .h2 cl_84 rfl ?_
  rintro _ _ ⟨rfl, rfl⟩
  refine XO.as rfl rfl ?_
  refine XO.nk [(0, _), (4, _), (5, _), (8, _)] (S4 rfl rfl rfl rfl) ?_
  refine XC.sr ?_
  refine XO.mv rfl rfl ?_
  refine XO.v (V.cmp rfl rfl rfl) rfl ?_
  refine XO.nk [(0, _), (4, _), (5, _), (8, _), (20, _)] (S5 rfl rfl rfl rfl rfl) ?_
  refine XC.condP rfl (fun h2 => ?_) (fun h2 => ?_)
  ·
   refine XC.sr ?_
   refine XO.mv rfl rfl ?_
   refine XO.as rfl rfl ?_
   refine XO.nk [(6, _)] (S1 rfl) ?_
   refine XC.ret ?_
   refine XE.thenRet ?_
   refine XE.ret1 rfl rfl (post_of (.cons .here (.cons (.t3 .here) (.cons .here (.cons (.t2 .here) (.cons (.t2 .here) .nil))))) rfl ?_)
   have e : bindE s.toFF l a z = dirE s.toFF z := by unfold bindE; rw [if_neg (by omega), if_pos (by omega)]
   have eL : (bindL s.toFF l a z) = l := by unfold bindL; rw [if_neg (by omega)]
   have eF : bindF s.toFF l a z = s.toFF := by unfold bindF; rw [if_neg (by omega)]
   exact ⟨by rw [e], p, cap, k, c, C, s, by rw [eL]; exact hv, by rw [eL]; exact hC, by rw [eF], rfl, rfl, by rw [eL]⟩
  ·
   refine XC.skip ?_
   refine XE.next ?_
   refine XC.keep [(0, _), (4, _), (5, _)] (S3 rfl rfl rfl) ?_
   refine XC.seq ?_
   refine XC.sr ?_
   refine XO.v (V.loadAgg rfl (inXM (.t3 .here)) (encW.agg _) ag_56 sz_56_2) rfl ?_
   refine XO.v (V.loadAgg rfl (inXM (.t2 .here)) (encW.agg _) ag_56 sz_56_2) rfl ?_
   refine XO.v (V.eqW rfl rfl whEq) rfl ?_
   refine XO.nk [(0, _), (4, _), (5, _), (24, _)] (S4 rfl rfl rfl rfl) ?_
   refine XC.condP rfl (fun h3 => ?_) (fun h3 => ?_)
   ·
    have haz : a = z := h3
    refine XC.sr ?_
    refine XO.as rfl rfl ?_
    refine XO.nk [(6, _)] (S1 rfl) ?_
    refine XC.ret ?_
    refine XE.thenRet ?_
    refine XE.ret1 rfl rfl (post_of (.cons .here (.cons (.t3 .here) (.cons .here (.cons (.t2 .here) (.cons (.t2 .here) .nil))))) rfl ?_)
    have e : bindE s.toFF l a z = 8 := by unfold bindE; rw [if_neg (by omega), if_neg (by omega), if_pos haz]
    have eL : (bindL s.toFF l a z) = l := by unfold bindL; rw [if_neg (by omega)]
    have eF : bindF s.toFF l a z = s.toFF := by unfold bindF; rw [if_neg (by omega)]
    exact ⟨by rw [e], p, cap, k, c, C, s, by rw [eL]; exact hv, by rw [eL]; exact hC, by rw [eF], rfl, rfl, by rw [eL]⟩
   ·
    have haz : ¬ a = z := h3
    refine XC.skip ?_
    refine XE.next ?_
    refine XC.keep [(0, _), (4, _), (5, _)] (S3 rfl rfl rfl) ?_
    refine XC.seq ?_
    refine XC.sr ?_
    refine XO.as rfl rfl ?_
    refine XO.nk [(0, _), (4, _), (5, _), (9, _)] (S4 rfl rfl rfl rfl) ?_
    refine XC.block ?_
    refine XC.loop (σ := Int) (fun i => (l.length - i).toNat) (fun i => (0 ≤ i ∧ i ≤ l.length) ∧ ∀ j : Int, 0 ≤ j → j < i → (mat l j).at_ ≠ a) (fun i => [(9, .int .i64 i), (0, ptr bt 0 0), (4, ptr ba 0 0), (5, ptr bz 0 0)]) (fun i => XM W (foot [.cells bt 0 4 (encT bf r (.slice p l.length c)), frow p cap 98 4 k C, .cells bf 0 321 (encM s), .fam fam40 (FC.rowsN 9 s), .fam fam40 (FC.rowsK 3 s)]) [.cells ba 0 2 (encW a), .cells bz 0 2 (encW z), .cells bt 0 4 (encT bf r (.slice p l.length c)), frow p cap 98 4 k C, .cells bf 0 321 (encM s), .fam fam40 (FC.rowsN 9 s), .fam fam40 (FC.rowsK 3 s)]) (0) ?_ (S4 rfl rfl rfl rfl) (fun _ hw => XM.pick (.cons (.t3 .here) (.cons (.t2 .here) (.cons .here (.cons (.there .here) .h3)))) hw) ?_
    ·
     exact ⟨⟨by omega, by omega⟩, fun j a b => by omega⟩
    intro i hi
    obtain ⟨⟨hi0, hi1⟩, hno⟩ := hi
    refine XC.seq ?_
    refine XC.sr ?_
    refine XO.mv rfl rfl ?_
    refine XO.mv rfl rfl ?_
    refine XO.v (V.nilCheckP rfl) rfl ?_
    refine XO.v (V.fieldAddr rfl fo_60_2) rfl ?_
    refine XO.v (V.load rfl (inXM (.t2 .here)) (encT.ld2 _ _) sc_58) rfl ?_
    refine XO.v (V.lenSl rfl Tryz.underlying58) rfl ?_
    refine XO.v (V.cmp rfl rfl rfl) rfl ?_
    refine XO.nk [(0, _), (4, _), (5, _), (9, _), (31, _)] (S5 rfl rfl rfl rfl rfl) ?_
    refine XC.condP rfl (fun h4 => ?_) (fun h4 => ?_)
    ·
     refine XC.skip ?_
     refine XE.next ?_
     refine XC.keep [(0, _), (4, _), (5, _), (9, _)] (S4 rfl rfl rfl rfl) ?_
     refine XC.seq ?_
     refine XC.block ?_
     refine XC.seq ?_
     refine XC.regionQ mixed (f := 10) (l := #[false, false, false, false, false, false, false, false, false, false]) rfl rfl XM.drawn' ?_
     refine XQ.openRow (.t3 .here) (by omega) ?_
     intro g hg
     subst hg
     refine XQ.pv (i := 0) (l' := #[tt,ff,ff,ff,ff,ff,ff,ff,ff,ff]) rfl (by kernel_rfl) rfl (V.move rfl) rfl rfl ?_
     refine XQ.pv (i := 1) (l' := #[tt,tt,ff,ff,ff,ff,ff,ff,ff,ff]) rfl (by kernel_rfl) rfl (V.nilCheckP rfl) rfl rfl ?_
     refine XQ.pv (i := 2) (l' := #[tt,tt,tt,ff,ff,ff,ff,ff,ff,ff]) rfl (by kernel_rfl) rfl (V.fieldAddr rfl fo_60_2) rfl rfl ?_
     refine XQ.load (i := 3) (l' := #[tt,tt,tt,tt,ff,ff,ff,ff,ff,ff]) (.cells _ _ _ _) [] rfl (by kernel_rfl) rfl (.t2 .here) (V.load rfl inEnt (encT.ld2 _ _) sc_58) rfl (by kernel_rfl) rfl ?_
     refine XQ.pv (i := 4) (l' := #[tt,tt,tt,tt,tt,ff,ff,ff,ff,ff]) rfl (by kernel_rfl) rfl (V.move rfl) rfl rfl ?_
     refine XQ.pv (i := 5) (l' := #[tt,tt,tt,tt,tt,tt,ff,ff,ff,ff]) rfl (by kernel_rfl) rfl (V.indexSl rfl rfl sl_58 (by omega)) rfl rfl ?_
     refine XQ.pv (i := 6) (l' := #[tt,tt,tt,tt,tt,tt,tt,ff,ff,ff]) rfl (by kernel_rfl) rfl (V.fieldAddr rfl fo_98_0) rfl rfl ?_
     refine XQ.load (i := 7) (l' := #[tt,tt,tt,tt,tt,tt,tt,tt,ff,ff]) (.row _ _ _ _ _) [] rfl (by kernel_rfl) rfl (.t3 .here) (V.loadFA rfl inEnt (hC.ldA hlk _ (by omega)) ag_56 sz_56_2) rfl (by kernel_rfl) rfl ?_
     refine XQ.load (i := 8) (l' := #[tt,tt,tt,tt,tt,tt,tt,tt,tt,ff]) (.cells _ _ _ _) [] rfl (by kernel_rfl) rfl .here (V.loadAgg rfl inEnt (encW.agg _) ag_56 sz_56_2) rfl (by kernel_rfl) rfl ?_
     refine XQ.pv (i := 9) (l' := #[tt,tt,tt,tt,tt,tt,tt,tt,tt,tt]) rfl (by kernel_rfl) rfl (V.eqW rfl rfl whEq) rfl rfl ?_
     refine XQ.done (by kernel_rfl) ?_
     refine XE.next ?_
     refine XC.keep [(0, _), (4, _), (5, _), (9, _), (43, _)] (S5 rfl rfl rfl rfl rfl) ?_
     refine XC.condP rfl (fun h5 => ?_) (fun h5 => ?_)
     ·
      refine XC.sr ?_
      refine XO.as rfl rfl ?_
      refine XO.nk [(6, _)] (S1 rfl) ?_
      refine XC.ret ?_
      refine XE.blockRet ?_
      refine XE.thenRet ?_
      refine XE.thenRet ?_
      refine XE.blockRet ?_
      refine XE.thenRet ?_
      refine XE.ret1 rfl rfl (post_of (.cons (.t2 .here) (.cons (.t2 .here) (.cons (.t2 .here) (.cons (.t2 .here) (.cons (.t2 .here) .nil))))) rfl ?_)
      have e : bindE s.toFF l a z = 3 := by unfold bindE; rw [if_neg (by omega), if_neg (by omega), if_neg haz, if_pos (hasAt_true ⟨by omega, by omega⟩ (by assumption))]
      have eL : (bindL s.toFF l a z) = l := by unfold bindL; rw [if_neg (by omega)]
      have eF : bindF s.toFF l a z = s.toFF := by unfold bindF; rw [if_neg (by omega)]
      exact ⟨by rw [e], (some ⟨g, 0, none⟩), cap, k, c, C, s, by rw [eL]; exact hv, by rw [eL]; exact hC, by rw [eF], rfl, rfl, by rw [eL]⟩
     ·
      refine XC.skip ?_
      refine XE.blockNormal ?_
      refine XE.next ?_
      refine XC.keep [(0, _), (4, _), (5, _), (9, _)] (S4 rfl rfl rfl rfl) ?_
      refine XC.region ?_
      refine XO.mv rfl rfl ?_
      refine XO.v (V.add rfl rfl _ (IntWalk.i64_in _ (by omega))) rfl ?_
      refine XO.as rfl rfl ?_
      refine XO.nil ?_
      refine XE.again (i + 1) ?_ ?_ (S4 rfl rfl rfl rfl) (fun _ hw => XM.pick .h7 hw)
      ·
       (first | omega | (simp; done) | (simp; omega))
      ·
       refine ⟨⟨by omega, by omega⟩, fun j a b => ?_⟩
       by_cases e : j = i
       ·
        subst e; assumption
       ·
        exact hno j a (by omega)
    ·
     refine XC.exit ?_
     refine XE.thenExit ?_
     refine XE.thenExit ?_
     refine XE.blockExit ?_
     refine XE.next ?_
     refine XC.keep [(0, _), (4, _), (5, _)] (S3 rfl rfl rfl) ?_
     refine XC.seq ?_
     refine XC.sr ?_
     refine XO.mv rfl rfl ?_
     refine XO.v (V.nilCheckP rfl) rfl ?_
     refine XO.v (V.fieldAddr rfl fo_60_2) rfl ?_
     refine XO.v (V.load rfl (inXM (.t2 .here)) (encT.ld2 _ _) sc_58) rfl ?_
     refine XO.v (V.lenSl rfl Tryz.underlying58) rfl ?_
     refine XO.v (V.cmp rfl rfl rfl) rfl ?_
     refine XO.nk [(0, _), (4, _), (5, _), (49, _)] (S4 rfl rfl rfl rfl) ?_
     refine XC.condP rfl (fun h6 => ?_) (fun h6 => ?_)
     ·
      refine XC.sr ?_
      refine XO.as rfl rfl ?_
      refine XO.nk [(6, _)] (S1 rfl) ?_
      refine XC.ret ?_
      refine XE.thenRet ?_
      refine XE.ret1 rfl rfl (post_of (.cons (.t2 .here) (.cons (.t2 .here) (.cons (.t2 .here) (.cons (.t2 .here) (.cons (.t2 .here) .nil))))) rfl ?_)
      have e : bindE s.toFF l a z = 4 := by unfold bindE; rw [if_neg (by omega), if_neg (by omega), if_neg haz, if_neg (by rw [hasAt_false (fun j a b => hno j a (by omega))]; simp), if_pos (by omega)]
      have eL : (bindL s.toFF l a z) = l := by unfold bindL; rw [if_neg (by omega)]
      have eF : bindF s.toFF l a z = s.toFF := by unfold bindF; rw [if_neg (by omega)]
      exact ⟨by rw [e], p, cap, k, c, C, s, by rw [eL]; exact hv, by rw [eL]; exact hC, by rw [eF], rfl, rfl, by rw [eL]⟩
     ·
      refine XC.skip ?_
      refine XE.next ?_
      refine XC.keep [(0, _), (4, _), (5, _)] (S3 rfl rfl rfl) ?_
      refine XC.seq ?_
      refine XC.regionQ mixed (f := 13) (l := #[false, false, false, false, false, false, false, false, false, false, false, false, false]) rfl rfl XM.drawn' ?_
      refine XQ.pv (i := 0) (l' := #[tt,ff,ff,ff,ff,ff,ff,ff,ff,ff,ff,ff,ff]) rfl (by kernel_rfl) rfl (V.move rfl) rfl rfl ?_
      refine XQ.pv (i := 1) (l' := #[tt,tt,ff,ff,ff,ff,ff,ff,ff,ff,ff,ff,ff]) rfl (by kernel_rfl) rfl (V.move rfl) rfl rfl ?_
      refine XQ.pv (i := 2) (l' := #[tt,tt,tt,ff,ff,ff,ff,ff,ff,ff,ff,ff,ff]) rfl (by kernel_rfl) rfl (V.nilCheckP rfl) rfl rfl ?_
      refine XQ.pv (i := 3) (l' := #[tt,tt,tt,tt,ff,ff,ff,ff,ff,ff,ff,ff,ff]) rfl (by kernel_rfl) rfl (V.fieldAddr rfl fo_60_2) rfl rfl ?_
      refine XQ.load (i := 4) (l' := #[tt,tt,tt,tt,tt,ff,ff,ff,ff,ff,ff,ff,ff]) (.cells _ _ _ _) [9, 12] rfl (by kernel_rfl) rfl (.t2 .here) (V.load rfl inEnt (encT.ld2 _ _) sc_58) rfl (by kernel_rfl) rfl ?_
      refine XQ.load (i := 5) (l' := #[tt,tt,tt,tt,tt,tt,ff,ff,ff,ff,ff,ff,ff]) (.cells _ _ _ _) [8, 9, 12] rfl (by kernel_rfl) rfl .here (V.loadAgg rfl inEnt (encW.agg _) ag_56 sz_56_2) rfl (by kernel_rfl) rfl ?_
      refine XQ.load (i := 6) (l' := #[tt,tt,tt,tt,tt,tt,tt,ff,ff,ff,ff,ff,ff]) (.cells _ _ _ _) [8, 9, 12] rfl (by kernel_rfl) rfl (.there .here) (V.loadAgg rfl inEnt (encW.agg _) ag_56 sz_56_2) rfl (by kernel_rfl) rfl ?_
      refine XQ.pv (i := 7) (l' := #[tt,tt,tt,tt,tt,tt,tt,tt,ff,ff,ff,ff,ff]) rfl (by kernel_rfl) rfl (V.build (vs := #[(0, .agg (WH.arr a)), (1, .agg (WH.arr z))]) rfl (v := .agg (MT.arr ⟨a, z⟩)) (fun _ => by kernel_rfl)) rfl rfl ?_
      refine XQ.g (i := 8) (l' := #[tt,tt,tt,tt,tt,tt,tt,tt,tt,ff,ff,ff,ff]) rfl (by kernel_rfl) rfl (RG.build (e := 98) (vs := #[(0, .agg (MT.arr ⟨a, z⟩))]) (m := 4) (A := MT.arr ⟨a, z⟩) rfl (fun _ => by kernel_rfl) rfl) rfl (fun _ _ hw' => ⟨fun hs => (hs 8 (by first | (simp; done) | (simp; rfl)) rfl).elim, fun hs => (hs 8 (by first | (simp; done) | (simp; rfl)) rfl).elim, fun _ => inXM (.t3 .here) _ hw', trivial⟩) ?_
      intro bn _
      refine XQ.g (i := 9) (l' := #[tt,tt,tt,tt,tt,tt,tt,tt,tt,tt,ff,ff,ff]) rfl (by kernel_rfl) rfl (RG.append (e := 98) (v := ⟨p, cap, k, l.length, c, C⟩) (N := 4) (m := 1) (sz := 4) hv rfl rfl Tryz.underlying58 rt_98_4 (.t4 .here) .here rfl rfl (by omega) (by show l.length + 1 ≤ _; omega)) rfl (fun _ _ hw' => ⟨fun hs => (hs 8 (by first | (simp; done) | (simp; rfl)) rfl).elim, fun hs => (hs 8 (by first | (simp; done) | (simp; rfl)) rfl).elim, fun hs => (hs 9 (by first | (simp; done) | (simp; rfl)) rfl).elim, trivial⟩) ?_
      intro u hu
      obtain ⟨hu1, hu2, hu3, hu4⟩ := hu
      obtain ⟨p2, cap2, k2, len2, c2, C2⟩ := u
      have hu2 : len2 = l.length + 1 := hu2
      subst hu2
      refine XQ.pv (i := 10) (l' := #[tt,tt,tt,tt,tt,tt,tt,tt,tt,tt,tt,ff,ff]) rfl (by kernel_rfl) rfl (V.nilCheckP rfl) rfl rfl ?_
      refine XQ.pv (i := 11) (l' := #[tt,tt,tt,tt,tt,tt,tt,tt,tt,tt,tt,tt,ff]) rfl (by kernel_rfl) rfl (V.fieldAddr rfl fo_60_2) rfl rfl ?_
      refine XQ.store (i := 12) (l' := #[tt,tt,tt,tt,tt,tt,tt,tt,tt,tt,tt,tt,tt]) rfl (by kernel_rfl) rfl rfl rfl (.t4 .here) (encT.st2 _ _ _) rfl sz_58_1 (fun _ hw' => ⟨fun hs => (hs 8 (by first | (simp; done) | (simp; rfl)) rfl).elim, fun hs => (hs 8 (by first | (simp; done) | (simp; rfl)) rfl).elim, fun hs => (hs 9 (by first | (simp; done) | (simp; rfl)) rfl).elim, trivial⟩) ?_
      refine XQ.done (by kernel_rfl) ?_
      refine XE.next ?_
      refine XC.keep [(0, _), (4, _), (5, _)] (S3 rfl rfl rfl) ?_
      refine XC.seq ?_
      refine XC.regionQ mixed (f := 7) (l := #[false, false, false, false, false, false, false]) rfl rfl XM.drawn' ?_
      refine XQ.pv (i := 0) (l' := #[tt,ff,ff,ff,ff,ff,ff]) rfl (by kernel_rfl) rfl (V.move rfl) rfl rfl ?_
      refine XQ.pv (i := 1) (l' := #[tt,tt,ff,ff,ff,ff,ff]) rfl (by kernel_rfl) rfl (V.nilCheckP rfl) rfl rfl ?_
      refine XQ.pv (i := 2) (l' := #[tt,tt,tt,ff,ff,ff,ff]) rfl (by kernel_rfl) rfl (V.fieldAddr rfl fo_60_0) rfl rfl ?_
      refine XQ.load (i := 3) (l' := #[tt,tt,tt,tt,ff,ff,ff]) (.cells _ _ _ _) [6] rfl (by kernel_rfl) rfl (.t4 .here) (V.load rfl inEnt (encT.ld0 _ _) sc_27) rfl (by kernel_rfl) rfl ?_
      refine XQ.pv (i := 4) (l' := #[tt,tt,tt,tt,tt,ff,ff]) rfl (by kernel_rfl) rfl (V.fieldAddr rfl fo_56_1) rfl rfl ?_
      refine XQ.load (i := 5) (l' := #[tt,tt,tt,tt,tt,tt,ff]) (.cells _ _ _ _) [6] rfl (by kernel_rfl) rfl (.t2 .here) (V.load rfl inEnt (encW.ld1 _) sc_3) rfl (by kernel_rfl) rfl ?_
      refine XQ.call (i := 6) (l' := #[tt,tt,tt,tt,tt,tt,tt]) rfl (by kernel_rfl) rfl rfl (r_Hold _ _ s hI _) (.cons (.t5 .here) (.cons (.t5 .here) (.cons (.t5 .here) .nil))) cl_29 rfl (by rintro _ _ ⟨rfl, v1, hv1, pv1, cv1, rfl⟩; all_goals (intro _ hw'; exact ⟨fun hs => (hs 6 (by first | (simp; done) | (simp; rfl)) rfl).elim, fun hs => (hs 6 (by first | (simp; done) | (simp; rfl)) rfl).elim, trivial⟩)) ?_
      rintro _ _ ⟨rfl, v1, hv1, pv1, cv1, rfl⟩
      refine XQ.done (by kernel_rfl) ?_
      refine XE.next ?_
      refine XC.keep [(0, _), (5, _)] (S2 rfl rfl) ?_
      refine XC.seq ?_
      refine XC.regionQ mixed (f := 7) (l := #[false, false, false, false, false, false, false]) rfl rfl XM.drawn' ?_
      have hO1 : v1.toFF.Ok d (B + 1) := by rw [hv1]; exact hO.hold a.node
      refine XQ.pv (i := 0) (l' := #[tt,ff,ff,ff,ff,ff,ff]) rfl (by kernel_rfl) rfl (V.move rfl) rfl rfl ?_
      refine XQ.pv (i := 1) (l' := #[tt,tt,ff,ff,ff,ff,ff]) rfl (by kernel_rfl) rfl (V.nilCheckP rfl) rfl rfl ?_
      refine XQ.pv (i := 2) (l' := #[tt,tt,tt,ff,ff,ff,ff]) rfl (by kernel_rfl) rfl (V.fieldAddr rfl fo_60_0) rfl rfl ?_
      refine XQ.load (i := 3) (l' := #[tt,tt,tt,tt,ff,ff,ff]) (.cells _ _ _ _) [6] rfl (by kernel_rfl) rfl (.t7 .here) (V.load rfl inEnt (encT.ld0 _ _) sc_27) rfl (by kernel_rfl) rfl ?_
      refine XQ.pv (i := 4) (l' := #[tt,tt,tt,tt,tt,ff,ff]) rfl (by kernel_rfl) rfl (V.fieldAddr rfl fo_56_1) rfl rfl ?_
      refine XQ.load (i := 5) (l' := #[tt,tt,tt,tt,tt,tt,ff]) (.cells _ _ _ _) [6] rfl (by kernel_rfl) rfl (.t6 .here) (V.load rfl inEnt (encW.ld1 _) sc_3) rfl (by kernel_rfl) rfl ?_
      refine XQ.call (i := 6) (l' := #[tt,tt,tt,tt,tt,tt,tt]) rfl (by kernel_rfl) rfl rfl (r_Hold _ _ v1 (hO1.sh (by omega)) _) .h3 cl_29 rfl (by rintro _ _ ⟨rfl, v2, hv2, pv2, cv2, rfl⟩; all_goals (intro _ hw'; exact ⟨fun hs => (hs 6 (by first | (simp; done) | (simp; rfl)) rfl).elim, fun hs => (hs 6 (by first | (simp; done) | (simp; rfl)) rfl).elim, trivial⟩)) ?_
      rintro _ _ ⟨rfl, v2, hv2, pv2, cv2, rfl⟩
      refine XQ.done (by kernel_rfl) ?_
      refine XE.next ?_
      refine XC.keep [] (Sub.nil _) ?_
      refine XC.sr ?_
      refine XO.as rfl rfl ?_
      refine XO.nk [(6, _)] (S1 rfl) ?_
      refine XC.ret ?_
      refine XE.ret1 rfl rfl (post_of (.cons (.t7 .here) (.cons (.t3 .here) .h3)) rfl ?_)
      have e : bindE s.toFF l a z = 0 := by unfold bindE; rw [if_neg (by omega), if_neg (by omega), if_neg haz, if_neg (by rw [hasAt_false (fun j a b => hno j a (by omega))]; simp), if_neg (by omega)]
      have eL : (bindL s.toFF l a z) = l ++ [⟨a, z⟩] := by unfold bindL; rw [if_pos e]
      have eF : bindF s.toFF l a z = (s.toFF.hold a.node).hold z.node := by unfold bindF; rw [if_pos e]
      exact ⟨by rw [e], p2, cap2, k2, c2, C2, v2, by rw [eL, List.length_append]; exact hu1, by rw [eL]; exact hC.app ⟨a, z⟩ hu3 (fun i hi => (hu4 i hi).trans (newsMt _ i (by omega))), by rw [eF, hv2, hv1], by rw [pv2, pv1], by rw [cv2, cv1], by rw [eL, List.length_append]; rfl⟩
set_option maxRecDepth 10000 in
set_option maxHeartbeats 8000000 in
theorem u_Unbind (bt bf : Nat) (r : WH) (l : List MT) (p : Option Addr) (cap k c : Nat) (C : Nat → Value) (hv : RV.ok ⟨p, cap, k, l.length, c, C⟩) (hC : MC C l) (hm6 : l.length ≤ 6) (s : FC) (d : Int → Nat) (B : Int) (hO : s.toFF.Ok d B) (hB : B ≤ 900000) (z : WH) (hN : NdM l) : Spec Tryz.prog 52 [ptr bt 0 0, .agg (WH.arr z)]
    [.cells bt 0 4 (encT bf r (.slice p l.length c)), frow p cap 98 4 k C, .cells bf 0 321 (encM s), .fam fam40 (FC.rowsN 9 s), .fam fam40 (FC.rowsK 3 s)]
    (fun v H1 => v = .int .i64 (unbindE l z) ∧ ∃ (p' : Option Addr) (cap' k' c' : Nat) (C' : Nat → Value) (u : FC), RV.ok ⟨p', cap', k', (unbindL l z).length, c', C'⟩ ∧ MC C' (unbindL l z) ∧ u.toFF = unbindF s.toFF l z ∧ u.rP = s.rP ∧ u.rC = s.rC ∧ H1 = [.cells bt 0 4 (encT bf r (.slice p' (unbindL l z).length c')), frow p' cap' 98 4 k' C', .cells bf 0 321 (encM u), .fam fam40 (FC.rowsN 9 u), .fam fam40 (FC.rowsK 3 u)]) := by
 have hlk := RV.ok_le hv
 have hlk : l.length ≤ k := hlk
 have hI := hO.sh (by omega)
 refine Spec.intro Tryz.func52 rfl rfl ?_
 intro W
 refine XC.sr ?_
 refine XO.box (m := 2) (C := encW (z)) rfl rfl (encW.box _) rfl ?_
 intro bz
 refine XO.as rfl rfl ?_
 refine XO.nk [(0, _), (3, _)] (S2 rfl rfl) ?_
 refine XC.sr ?_
 refine XO.as rfl rfl ?_
 refine XO.nilRow 98 4 ?_
 refine XO.nk [(0, _), (3, _), (5, _)] (S3 rfl rfl rfl) ?_
 refine XC.sr ?_
 refine XO.as rfl rfl ?_
 refine XO.nk [(0, _), (3, _), (5, _), (6, _)] (S4 rfl rfl rfl rfl) ?_
 refine XC.seq ?_
 refine XC.sr ?_
 refine XO.as rfl rfl ?_
 refine XO.nk [(0, _), (3, _), (5, _), (6, _), (7, _)] (S5 rfl rfl rfl rfl rfl) ?_
 refine XC.block ?_
 refine XC.loop (σ := Int × Int × TV) (fun x => (l.length - x.1).toNat) (fun x => (0 ≤ x.1 ∧ x.1 ≤ l.length) ∧ x.2.2.ok ∧ UnS l z x.1 x.2.1 x.2.2.l) (fun x => [(5, .slice x.2.2.p x.2.2.l.length x.2.2.c), (6, .int .i64 x.2.1), (7, .int .i64 x.1), (0, ptr bt 0 0), (3, ptr bz 0 0)]) (fun x => XM W (foot [.cells bt 0 4 (encT bf r (.slice p l.length c)), frow p cap 98 4 k C, .cells bf 0 321 (encM s), .fam fam40 (FC.rowsN 9 s), .fam fam40 (FC.rowsK 3 s)]) [.cells bz 0 2 (encW z), .cells bt 0 4 (encT bf r (.slice p l.length c)), frow p cap 98 4 k C, .cells bf 0 321 (encM s), .fam fam40 (FC.rowsN 9 s), .fam fam40 (FC.rowsK 3 s), frow x.2.2.p x.2.2.cap 98 4 x.2.2.k x.2.2.C]) ((0, -1, ⟨r, [], none, 0, 0, 0, C0⟩)) ?_ (S5 rfl rfl rfl rfl rfl) (fun _ hw => XM.pick (.cons (.there .here) (.cons (.there .here) (.cons (.there .here) (.cons (.there .here) (.cons (.there .here) (.cons (.there .here) .h1)))))) hw) ?_
 ·
  exact ⟨⟨by simp, by simp⟩, ⟨C0_ok, MC.nil _, Nat.zero_le _⟩, UnS.start _ _⟩
 intro x hx
 obtain ⟨⟨hi0, hi1⟩, hxo, hun⟩ := hx
 have hru := hxo.v
 have hul := hun.le
 have hxl := hxo.le
 refine XC.seq ?_
 refine XC.sr ?_
 refine XO.mv rfl rfl ?_
 refine XO.mv rfl rfl ?_
 refine XO.v (V.nilCheckP rfl) rfl ?_
 refine XO.v (V.fieldAddr rfl fo_60_2) rfl ?_
 refine XO.v (V.load rfl (inXM (.there .here)) (encT.ld2 _ _) sc_58) rfl ?_
 refine XO.v (V.lenSl rfl Tryz.underlying58) rfl ?_
 refine XO.v (V.cmp rfl rfl rfl) rfl ?_
 refine XO.nk [(0, _), (3, _), (5, _), (6, _), (7, _), (15, _)] (S6 rfl rfl rfl rfl rfl rfl) ?_
 refine XC.condP rfl (fun h1 => ?_) (fun h1 => ?_)
 ·
  refine XC.skip ?_
  refine XE.next ?_
  refine XC.keep [(0, _), (3, _), (5, _), (6, _), (7, _)] (S5 rfl rfl rfl rfl rfl) ?_
  refine XC.seq ?_
  refine XC.block ?_
  refine XC.seq ?_
  refine XC.regionQ mixed (f := 10) (l := #[false, false, false, false, false, false, false, false, false, false]) rfl rfl XM.drawn' ?_
  refine XQ.openRow (.t2 .here) (by omega) ?_
  intro g hg
  subst hg
  refine XQ.pv (i := 0) (l' := #[tt,ff,ff,ff,ff,ff,ff,ff,ff,ff]) rfl (by kernel_rfl) rfl (V.move rfl) rfl rfl ?_
  refine XQ.pv (i := 1) (l' := #[tt,tt,ff,ff,ff,ff,ff,ff,ff,ff]) rfl (by kernel_rfl) rfl (V.nilCheckP rfl) rfl rfl ?_
  refine XQ.pv (i := 2) (l' := #[tt,tt,tt,ff,ff,ff,ff,ff,ff,ff]) rfl (by kernel_rfl) rfl (V.fieldAddr rfl fo_60_2) rfl rfl ?_
  refine XQ.load (i := 3) (l' := #[tt,tt,tt,tt,ff,ff,ff,ff,ff,ff]) (.cells _ _ _ _) [] rfl (by kernel_rfl) rfl (.there .here) (V.load rfl inEnt (encT.ld2 _ _) sc_58) rfl (by kernel_rfl) rfl ?_
  refine XQ.pv (i := 4) (l' := #[tt,tt,tt,tt,tt,ff,ff,ff,ff,ff]) rfl (by kernel_rfl) rfl (V.move rfl) rfl rfl ?_
  refine XQ.pv (i := 5) (l' := #[tt,tt,tt,tt,tt,tt,ff,ff,ff,ff]) rfl (by kernel_rfl) rfl (V.indexSl rfl rfl sl_58 (by omega)) rfl rfl ?_
  refine XQ.pv (i := 6) (l' := #[tt,tt,tt,tt,tt,tt,tt,ff,ff,ff]) rfl (by kernel_rfl) rfl (V.fieldAddr rfl fo_98_0) rfl rfl ?_
  refine XQ.load (i := 7) (l' := #[tt,tt,tt,tt,tt,tt,tt,tt,ff,ff]) (.row _ _ _ _ _) [] rfl (by kernel_rfl) rfl (.t2 .here) (V.loadFA rfl inEnt (hC.ldA hlk _ (by omega)) ag_56 sz_56_2) rfl (by kernel_rfl) rfl ?_
  refine XQ.load (i := 8) (l' := #[tt,tt,tt,tt,tt,tt,tt,tt,tt,ff]) (.cells _ _ _ _) [] rfl (by kernel_rfl) rfl .here (V.loadAgg rfl inEnt (encW.agg _) ag_56 sz_56_2) rfl (by kernel_rfl) rfl ?_
  refine XQ.pv (i := 9) (l' := #[tt,tt,tt,tt,tt,tt,tt,tt,tt,tt]) rfl (by kernel_rfl) rfl (V.eqW rfl rfl whEq) rfl rfl ?_
  refine XQ.done (by kernel_rfl) ?_
  refine XE.next ?_
  refine XC.keep [(0, _), (3, _), (5, _), (6, _), (7, _), (27, _)] (S6 rfl rfl rfl rfl rfl rfl) ?_
  refine XC.condP rfl (fun h2 => ?_) (fun h2 => ?_)
  ·
   refine XC.region ?_
   refine XO.mv rfl rfl ?_
   refine XO.as rfl rfl ?_
   refine XO.nil ?_
   refine XE.blockNormal ?_
   refine XE.next ?_
   refine XC.keep [(0, _), (3, _), (5, _), (6, _), (7, _)] (S5 rfl rfl rfl rfl rfl) ?_
   refine XC.region ?_
   refine XO.mv rfl rfl ?_
   refine XO.v (V.add rfl rfl _ (IntWalk.i64_in _ (by omega))) rfl ?_
   refine XO.as rfl rfl ?_
   refine XO.nil ?_
   refine XE.again ((x.1 + 1, x.1, x.2.2)) ?_ ?_ (S5 rfl rfl rfl rfl rfl) (fun _ hw => XM.pick .h7 hw)
   ·
    (simp; omega)
   ·
    exact ⟨⟨by simp; omega, by simp; omega⟩, hxo, hun.hit hN ⟨hi0, by omega⟩ (by assumption)⟩
  ·
   refine XC.region ?_
   refine XO.mv rfl rfl ?_
   refine XO.mv rfl rfl ?_
   refine XO.v (V.nilCheckP rfl) rfl ?_
   refine XO.v (V.fieldAddr rfl fo_60_2) rfl ?_
   refine XO.v (V.load rfl (inXM (.there .here)) (encT.ld2 _ _) sc_58) rfl ?_
   refine XO.mv rfl rfl ?_
   refine XO.v (V.indexSl rfl rfl sl_58 (by omega)) rfl ?_
   refine XO.v (V.loadFA rfl (inXM (.t2 .here)) (hC.ld hlk _ (by omega)) ag_98 sz_98_4) rfl ?_
   refine XO.g (RG.build (e := 98) (vs := #[(0, .agg (MT.arr (mat l x.1)))]) (m := 4) (A := MT.arr (mat l x.1)) rfl (fun _ => by kernel_rfl) rfl) rfl ?_
   intro bn _
   refine XO.g (RG.append (e := 98) (v := ⟨x.2.2.p, x.2.2.cap, x.2.2.k, x.2.2.l.length, x.2.2.c, x.2.2.C⟩) (N := 4) (m := 1) (sz := 4) hru rfl rfl Tryz.underlying58 rt_98_4 (.t7 .here) .here rfl rfl (by omega) (by show x.2.2.l.length + 1 ≤ _; omega)) rfl ?_
   intro u hu
   obtain ⟨hu1, hu2, hu3, hu4⟩ := hu
   obtain ⟨p2, cap2, k2, len2, c2, C2⟩ := u
   have hu2 : len2 = x.2.2.l.length + 1 := hu2
   subst hu2
   refine XO.as rfl rfl ?_
   refine XO.nil ?_
   refine XE.blockNormal ?_
   refine XE.next ?_
   refine XC.keep [(0, _), (3, _), (5, _), (6, _), (7, _)] (S5 rfl rfl rfl rfl rfl) ?_
   refine XC.region ?_
   refine XO.mv rfl rfl ?_
   refine XO.v (V.add rfl rfl _ (IntWalk.i64_in _ (by omega))) rfl ?_
   refine XO.as rfl rfl ?_
   refine XO.nil ?_
   refine XE.again ((x.1 + 1, x.2.1, ⟨r, x.2.2.l ++ [mat l x.1], p2, cap2, k2, c2, C2⟩)) ?_ ?_ (Sub.cons (by show lk _ _ = some (Value.slice _ (x.2.2.l ++ [mat l x.1]).length _); rw [List.length_append]; rfl) (S4 rfl rfl rfl rfl)) (fun _ hw => XM.pick (.cons (.t2 .here) (.cons (.t2 .here) (.cons (.t2 .here) (.cons (.t2 .here) (.cons (.t2 .here) (.cons (.t2 .here) .h1)))))) hw)
   ·
    (simp; omega)
   ·
    have hmi := hun.miss ⟨hi0, (by omega : x.1 < l.length)⟩ (by assumption)
    exact ⟨⟨by simp; omega, by simp; omega⟩, ⟨by show RV.ok ⟨_, _, _, (x.2.2.l ++ [mat l x.1]).length, _, _⟩; rw [List.length_append]; exact hu1, hxo.m.app (mat l x.1) hu3 (fun i hi => (hu4 i hi).trans (newsMt _ i (by omega))), by have := hmi.le; show (x.2.2.l ++ [mat l x.1]).length ≤ 6; omega⟩, hmi⟩
 ·
  refine XC.exit ?_
  refine XE.thenExit ?_
  refine XE.thenExit ?_
  refine XE.blockExit ?_
  refine XE.next ?_
  refine XC.keep [(0, _), (5, _), (6, _)] (S3 rfl rfl rfl) ?_
  refine XC.seq ?_
  refine XC.sr ?_
  refine XO.mv rfl rfl ?_
  refine XO.v (V.cmp rfl rfl rfl) rfl ?_
  refine XO.nk [(0, _), (5, _), (6, _), (40, _)] (S4 rfl rfl rfl rfl) ?_
  refine XC.condP rfl (fun h3 => ?_) (fun h3 => ?_)
  ·
   refine XC.sr ?_
   refine XO.as rfl rfl ?_
   refine XO.nk [(4, _)] (S1 rfl) ?_
   refine XC.ret ?_
   refine XE.thenRet ?_
   refine XE.ret1 rfl rfl (post_of (.cons (.there .here) (.cons (.there .here) (.cons (.there .here) (.cons (.there .here) (.cons (.there .here) .nil))))) rfl ?_)
   have hno : ∀ j : Int, 0 ≤ j → j < l.length → (mat l j).at_ ≠ z := by
    rcases hun with ⟨_, _, a⟩ | ⟨a, _⟩
    ·
     exact fun j h0 h1 => a j h0 (by omega)
    ·
     omega
   have ei := idxAt_none hno
   have e : unbindE l z = 2 := by unfold unbindE; rw [if_neg (by omega)]
   have eL : (unbindL l z) = l := by unfold unbindL; rw [ei]; exact List.eraseIdx_of_length_le (Nat.le_refl _)
   have eF : unbindF s.toFF l z = s.toFF := by unfold unbindF; rw [if_neg (by omega)]
   exact ⟨by rw [e], p, cap, k, c, C, s, by rw [eL]; exact hv, by rw [eL]; exact hC, by rw [eF], rfl, rfl, by rw [eL]⟩
  ·
   refine XC.skip ?_
   refine XE.next ?_
   refine XC.keep [(0, _), (5, _), (6, _)] (S3 rfl rfl rfl) ?_
   refine XC.sr ?_
   have hgn : 0 ≤ x.2.1 ∧ x.2.1 < l.length := by rcases hun with ⟨a, _⟩ | ⟨a, _⟩ <;> omega
   refine XO.openRow (.t2 .here) (by omega) ?_
   intro g hg
   subst hg
   refine XO.mv rfl rfl ?_
   refine XO.v (V.nilCheckP rfl) rfl ?_
   refine XO.v (V.fieldAddr rfl fo_60_2) rfl ?_
   refine XO.v (V.load rfl (inXM (.there .here)) (encT.ld2 _ _) sc_58) rfl ?_
   refine XO.mv rfl rfl ?_
   refine XO.v (V.indexSl rfl rfl sl_58 (by omega)) rfl ?_
   refine XO.v (V.loadFA rfl (inXM (.t2 .here)) (hC.ld hlk _ (by omega)) ag_98 sz_98_4) rfl ?_
   refine XO.allocZ (z := .agg (MT.arr MT.nil)) (m := 4) (C := encMt MT.nil) (by kernel_rfl) rfl (encMt.box _) rfl ?_
   intro b8
   refine XO.storeAgg rfl rfl .here (encMt.st _ _) ⟨rfl, rfl⟩ sz_98_4 ?_
   refine XO.nk [(0, _), (5, _), (8, _)] (S3 rfl rfl rfl) ?_
   refine XC.sr ?_
   refine XO.mv rfl rfl ?_
   refine XO.mv rfl rfl ?_
   refine XO.v (V.nilCheckP rfl) rfl ?_
   refine XO.v (V.fieldAddr rfl fo_60_2) rfl ?_
   refine XO.store rfl rfl (.t2 .here) (encT.st2 _ _ _) rfl sz_58_1 ?_
   refine XO.nk [(0, _), (8, _)] (S2 rfl rfl) ?_
   refine XC.seq ?_
   refine XC.regionQ mixed (f := 8) (l := #[false, false, false, false, false, false, false, false]) rfl rfl XM.drawn' ?_
   refine XQ.pv (i := 0) (l' := #[tt,ff,ff,ff,ff,ff,ff,ff]) rfl (by kernel_rfl) rfl (V.move rfl) rfl rfl ?_
   refine XQ.pv (i := 1) (l' := #[tt,tt,ff,ff,ff,ff,ff,ff]) rfl (by kernel_rfl) rfl (V.nilCheckP rfl) rfl rfl ?_
   refine XQ.pv (i := 2) (l' := #[tt,tt,tt,ff,ff,ff,ff,ff]) rfl (by kernel_rfl) rfl (V.fieldAddr rfl fo_60_0) rfl rfl ?_
   refine XQ.load (i := 3) (l' := #[tt,tt,tt,tt,ff,ff,ff,ff]) (.cells _ _ _ _) [7] rfl (by kernel_rfl) rfl (.t2 .here) (V.load rfl inEnt (encT.ld0 _ _) sc_27) rfl (by kernel_rfl) rfl ?_
   refine XQ.pv (i := 4) (l' := #[tt,tt,tt,tt,tt,ff,ff,ff]) rfl (by kernel_rfl) rfl (V.fieldAddr rfl fo_98_0) rfl rfl ?_
   refine XQ.pv (i := 5) (l' := #[tt,tt,tt,tt,tt,tt,ff,ff]) rfl (by kernel_rfl) rfl (V.fieldAddr rfl fo_56_1) rfl rfl ?_
   refine XQ.load (i := 6) (l' := #[tt,tt,tt,tt,tt,tt,tt,ff]) (.cells _ _ _ _) [7] rfl (by kernel_rfl) rfl .here (V.load rfl inEnt (encMt.ldAn _) sc_3) rfl (by kernel_rfl) rfl ?_
   refine XQ.call (i := 7) (l' := #[tt,tt,tt,tt,tt,tt,tt,tt]) rfl (by kernel_rfl) rfl rfl (r_Let _ _ s hI _ (fun q => FF.Ok.links0 hO.inv q)) (.cons (.t4 .here) (.cons (.t4 .here) (.cons (.t4 .here) .nil))) cl_29 rfl (by rintro _ _ ⟨rfl, v1, hv1, pv1, cv1, rfl⟩; all_goals (intro _ hw'; exact ⟨fun hs => (hs 7 (by first | (simp; done) | (simp; rfl)) rfl).elim, fun hs => (hs 7 (by first | (simp; done) | (simp; rfl)) rfl).elim, trivial⟩)) ?_
   rintro _ _ ⟨rfl, v1, hv1, pv1, cv1, rfl⟩
   refine XQ.done (by kernel_rfl) ?_
   refine XE.next ?_
   refine XC.keep [(0, _), (8, _)] (S2 rfl rfl) ?_
   refine XC.seq ?_
   refine XC.regionQ mixed (f := 8) (l := #[false, false, false, false, false, false, false, false]) rfl rfl XM.drawn' ?_
   have hO1 : v1.toFF.Ok d (B + 1) := by rw [hv1]; exact hO.letF (mat l x.2.1).at_.node
   refine XQ.pv (i := 0) (l' := #[tt,ff,ff,ff,ff,ff,ff,ff]) rfl (by kernel_rfl) rfl (V.move rfl) rfl rfl ?_
   refine XQ.pv (i := 1) (l' := #[tt,tt,ff,ff,ff,ff,ff,ff]) rfl (by kernel_rfl) rfl (V.nilCheckP rfl) rfl rfl ?_
   refine XQ.pv (i := 2) (l' := #[tt,tt,tt,ff,ff,ff,ff,ff]) rfl (by kernel_rfl) rfl (V.fieldAddr rfl fo_60_0) rfl rfl ?_
   refine XQ.load (i := 3) (l' := #[tt,tt,tt,tt,ff,ff,ff,ff]) (.cells _ _ _ _) [7] rfl (by kernel_rfl) rfl (.t5 .here) (V.load rfl inEnt (encT.ld0 _ _) sc_27) rfl (by kernel_rfl) rfl ?_
   refine XQ.pv (i := 4) (l' := #[tt,tt,tt,tt,tt,ff,ff,ff]) rfl (by kernel_rfl) rfl (V.fieldAddr rfl fo_98_1) rfl rfl ?_
   refine XQ.pv (i := 5) (l' := #[tt,tt,tt,tt,tt,tt,ff,ff]) rfl (by kernel_rfl) rfl (V.fieldAddr rfl fo_56_1) rfl rfl ?_
   refine XQ.load (i := 6) (l' := #[tt,tt,tt,tt,tt,tt,tt,ff]) (.cells _ _ _ _) [7] rfl (by kernel_rfl) rfl (.t3 .here) (V.load rfl inEnt (encMt.ldTn _) sc_3) rfl (by kernel_rfl) rfl ?_
   refine XQ.call (i := 7) (l' := #[tt,tt,tt,tt,tt,tt,tt,tt]) rfl (by kernel_rfl) rfl rfl (r_Let _ _ v1 (hO1.sh (by omega)) _ (fun q => FF.Ok.links0 hO1.inv q)) .h3 cl_29 rfl (by rintro _ _ ⟨rfl, v2, hv2, pv2, cv2, rfl⟩; all_goals (intro _ hw'; exact ⟨fun hs => (hs 7 (by first | (simp; done) | (simp; rfl)) rfl).elim, fun hs => (hs 7 (by first | (simp; done) | (simp; rfl)) rfl).elim, trivial⟩)) ?_
   rintro _ _ ⟨rfl, v2, hv2, pv2, cv2, rfl⟩
   refine XQ.done (by kernel_rfl) ?_
   refine XE.next ?_
   refine XC.keep [] (Sub.nil _) ?_
   refine XC.sr ?_
   refine XO.as rfl rfl ?_
   refine XO.nk [(4, _)] (S1 rfl) ?_
   refine XC.ret ?_
   refine XE.ret1 rfl rfl (post_of (.cons (.t5 .here) (.cons (.t6 .here) .h3)) rfl ?_)
   have hd := hun.done (by omega) hgn
   obtain ⟨ei, el⟩ := hd
   have e : unbindE l z = 0 := by unfold unbindE; rw [if_pos (by omega)]
   have eL : (unbindL l z) = x.2.2.l := by unfold unbindL; rw [ei, el]
   have eF : unbindF s.toFF l z = (s.toFF.letF (mat l x.2.1).at_.node).letF (mat l x.2.1).to.node := by unfold unbindF; rw [if_pos (by omega), ei, show ((x.2.1.toNat : Nat) : Int) = x.2.1 from by omega]
   exact ⟨by rw [e], x.2.2.p, x.2.2.cap, x.2.2.k, x.2.2.c, x.2.2.C, v2, by rw [eL]; exact hxo.v, by rw [eL]; exact hxo.m, by rw [eF, hv2, hv1], by rw [pv2, pv1], by rw [cv2, cv1], by rw [eL]⟩
end Go.X
