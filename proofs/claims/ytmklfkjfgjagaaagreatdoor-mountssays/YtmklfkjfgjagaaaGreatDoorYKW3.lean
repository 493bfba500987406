import Derived.Test.YtmklfkjfgjagaaaGreatDoorXShort
import Derived.Test.YtmklfkjfgjagaaaGreatDoorYKW2
namespace Go.X
open Go Go.Proofs
theorem cl_56 : callable Tryz.prog 56 = true := by kernel_rfl
theorem cl_70 : callable Tryz.prog 70 = true := by kernel_rfl
theorem rt_98_4 : rowT Tryz.prog 98 4 = true := by kernel_rfl
set_option maxRecDepth 10000 in
set_option maxHeartbeats 2000000 in
theorem m_Walk (bt bf : Nat) (r : WH) (l : List MT) (p : Option Addr) (cap k c : Nat) (C : Nat → Value) (hv : RV.ok ⟨p, cap, k, l.length, c, C⟩) (hC : MC C l) (hm6 : l.length ≤ 6) (s : FC) (hI : s.toFF.Sh) (x : ByteArray) (hx : x.size ≤ 100000) : Spec Tryz.prog 23 [ptr bt 0 0, .string x]
    [.cells bt 0 4 (encT bf r (.slice p l.length c)), frow p cap 98 4 k C, .cells bf 0 321 (encF s), .fam fam40 (FC.rowsN 9 s), .fam fam40 (FC.rowsK 3 s)]
    (fun v H1 => v = .tuple #[.agg (WH.arr (walkV s.toFF l r x)), errv 76 (walkE s.toFF l r x)] ∧ H1 = [.cells bt 0 4 (encT bf r (.slice p l.length c)), frow p cap 98 4 k C, .cells bf 0 321 (encF s), .fam fam40 (FC.rowsN 9 s), .fam fam40 (FC.rowsK 3 s)]) := by
 refine Spec.intro Tryz.func23 rfl rfl ?_
 intro W
 refine XC.sr ?_
 refine XO.allocZ (z := .agg (WH.arr WH.nil)) (m := 2) (C := encW WH.nil) (by kernel_rfl) rfl (encW.box _) rfl ?_
 intro br
 refine XO.as rfl rfl ?_
 refine XO.nk [(0, _), (1, _), (4, _)] (S3 rfl rfl rfl) ?_
 refine XC.sr ?_
 refine XO.mv rfl rfl ?_
 refine XO.call rfl (m_Split _ (by omega)) .nil cl_56 rfl ?_
 rintro _ _ (⟨e9, rfl, rfl⟩ | ⟨e0, q, cq, rfl, rfl⟩)
 ·
  refine XO.mv rfl rfl ?_
  refine XO.v (V.extract rfl rfl) rfl ?_
  refine XO.v (V.extract rfl rfl) rfl ?_
  refine XO.as rfl rfl ?_
  refine XO.as rfl rfl ?_
  refine XO.nk [(0, _), (4, _), (6, _), (7, _)] (S4 rfl rfl rfl rfl) ?_
  refine XC.seq ?_
  refine XC.sr ?_
  refine XO.mv rfl rfl ?_
  refine XO.v (V.ifaceNil rfl Tryz.underlying37 rfl) rfl ?_
  refine XO.nk [(0, _), (4, _), (6, _), (7, _), (14, _)] (S5 rfl rfl rfl rfl rfl) ?_
  refine XC.condT rfl rfl ?_
  refine XC.sr ?_
  refine XO.v (V.build (vs := #[]) rfl (v := .agg (WH.arr WH.nil)) (fun _ => by kernel_rfl)) rfl ?_
  refine XO.mv rfl rfl ?_
  refine XO.storeAgg rfl rfl .here (encW.st _ _) ⟨rfl, rfl⟩ sz_56_2 ?_
  refine XO.as rfl rfl ?_
  refine XO.nk [(4, _), (5, _)] (S2 rfl rfl) ?_
  refine XC.ret ?_
  refine XE.thenRet ?_
  refine XE.retG2 rfl (.agg rfl .here (encW.agg _) ag_56 sz_56_2) (.tmp rfl) (post_of (.cons (.there .here) (.cons (.there .here) (.cons (.there .here) (.cons (.there .here) (.cons (.there .here) .nil))))) rfl ?_)
  have e : walkE s.toFF l r x = 9 := by unfold walkE; rw [if_pos (by omega), e9]
  have e2 : walkV s.toFF l r x = WH.nil := by unfold walkV; rw [if_pos (by omega)]
  exact ⟨by rw [e, e2]; rfl, rfl⟩
 ·
  have hsv := splitV_len x
  refine XO.mv rfl rfl ?_
  refine XO.v (V.extract rfl rfl) rfl ?_
  refine XO.v (V.extract rfl rfl) rfl ?_
  refine XO.as rfl rfl ?_
  refine XO.as rfl rfl ?_
  refine XO.nk [(0, _), (4, _), (6, _), (7, _)] (S4 rfl rfl rfl rfl) ?_
  refine XC.seq ?_
  refine XC.sr ?_
  refine XO.mv rfl rfl ?_
  refine XO.v (V.nilNil rfl Tryz.underlying37 rfl) rfl ?_
  refine XO.nk [(0, _), (4, _), (6, _), (7, _), (14, _)] (S5 rfl rfl rfl rfl rfl) ?_
  refine XC.condF rfl rfl ?_
  refine XC.skip ?_
  refine XE.next ?_
  refine XC.keep [(0, _), (4, _), (6, _)] (S3 rfl rfl rfl) ?_
  refine XC.sr ?_
  refine XO.mv rfl rfl ?_
  refine XO.mv rfl rfl ?_
  refine XO.call rfl (m_walk _ _ _ _ _ _ _ _ _ hv hC hm6 s hI _ _ (splitV x) ((splitV x).length) (Nat.le_refl _) (by omega)) (.cons (.t2 .here) (.cons (.t2 .here) (.cons (.t2 .here) (.cons (.t2 .here) (.cons (.t2 .here) .h1))))) cl_70 rfl ?_
  rintro _ _ ⟨rfl, rfl⟩
  rw [List.take_length]
  refine XO.v (V.extract rfl rfl) rfl ?_
  refine XO.v (V.extract rfl rfl) rfl ?_
  refine XO.storeAgg rfl rfl (.t6 .here) (encW.st _ _) ⟨rfl, rfl⟩ sz_56_2 ?_
  refine XO.as rfl rfl ?_
  refine XO.nk [(4, _), (5, _)] (S2 rfl rfl) ?_
  refine XC.ret ?_
  refine XE.retG2 rfl (.agg rfl (.t6 .here) (encW.agg _) ag_56 sz_56_2) (.tmp rfl) (post_of .h5 rfl ?_)
  have e : walkE s.toFF l r x = (led s.toFF l r (splitV x)).1 := by unfold walkE; rw [if_neg (by omega)]
  have e2 : walkV s.toFF l r x = (led s.toFF l r (splitV x)).2 := by unfold walkV; rw [if_neg (by omega)]
  exact ⟨by rw [e, e2], rfl⟩
set_option maxRecDepth 10000 in
set_option maxHeartbeats 4000000 in
theorem m_Raw (bt bf : Nat) (r : WH) (l : List MT) (p : Option Addr) (cap k c : Nat) (C : Nat → Value) (hv : RV.ok ⟨p, cap, k, l.length, c, C⟩) (hC : MC C l) (hm6 : l.length ≤ 6) (s : FC) (hI : s.toFF.Sh) (x : ByteArray) (hx : x.size ≤ 100000) : Spec Tryz.prog 46 [ptr bt 0 0, .string x]
    [.cells bt 0 4 (encT bf r (.slice p l.length c)), frow p cap 98 4 k C, .cells bf 0 321 (encF s), .fam fam40 (FC.rowsN 9 s), .fam fam40 (FC.rowsK 3 s)]
    (fun v H1 => v = .tuple #[.agg (WH.arr (rawV s.toFF l r x)), errv 76 (rawE s.toFF l r x)] ∧ H1 = [.cells bt 0 4 (encT bf r (.slice p l.length c)), frow p cap 98 4 k C, .cells bf 0 321 (encF s), .fam fam40 (FC.rowsN 9 s), .fam fam40 (FC.rowsK 3 s)]) := by
 refine Spec.intro Tryz.func46 rfl rfl ?_
 intro W
 refine XC.sr ?_
 refine XO.allocZ (z := .agg (WH.arr WH.nil)) (m := 2) (C := encW WH.nil) (by kernel_rfl) rfl (encW.box _) rfl ?_
 intro br
 refine XO.as rfl rfl ?_
 refine XO.nk [(0, _), (1, _), (4, _)] (S3 rfl rfl rfl) ?_
 refine XC.sr ?_
 refine XO.mv rfl rfl ?_
 refine XO.call rfl (m_Split _ (by omega)) .nil cl_56 rfl ?_
 rintro _ _ (⟨e9, rfl, rfl⟩ | ⟨e0, q, cq, rfl, rfl⟩)
 ·
  refine XO.mv rfl rfl ?_
  refine XO.v (V.extract rfl rfl) rfl ?_
  refine XO.v (V.extract rfl rfl) rfl ?_
  refine XO.as rfl rfl ?_
  refine XO.as rfl rfl ?_
  refine XO.nk [(0, _), (4, _), (6, _), (7, _)] (S4 rfl rfl rfl rfl) ?_
  refine XC.seq ?_
  refine XC.sr ?_
  refine XO.mv rfl rfl ?_
  refine XO.v (V.ifaceNil rfl Tryz.underlying37 rfl) rfl ?_
  refine XO.nk [(0, _), (4, _), (6, _), (7, _), (17, _)] (S5 rfl rfl rfl rfl rfl) ?_
  refine XC.condT rfl rfl ?_
  refine XC.sr ?_
  refine XO.v (V.build (vs := #[]) rfl (v := .agg (WH.arr WH.nil)) (fun _ => by kernel_rfl)) rfl ?_
  refine XO.mv rfl rfl ?_
  refine XO.storeAgg rfl rfl .here (encW.st _ _) ⟨rfl, rfl⟩ sz_56_2 ?_
  refine XO.as rfl rfl ?_
  refine XO.nk [(4, _), (5, _)] (S2 rfl rfl) ?_
  refine XC.ret ?_
  refine XE.thenRet ?_
  refine XE.retG2 rfl (.agg rfl .here (encW.agg _) ag_56 sz_56_2) (.tmp rfl) (post_of (.cons (.there .here) (.cons (.there .here) (.cons (.there .here) (.cons (.there .here) (.cons (.there .here) .nil))))) rfl ?_)
  have e : rawE s.toFF l r x = 9 := by unfold rawE; rw [if_pos (by omega), e9]
  have e2 : rawV s.toFF l r x = WH.nil := by unfold rawV; rw [if_pos (by omega)]
  exact ⟨by rw [e, e2]; rfl, rfl⟩
 ·
  have hsv := splitV_len x
  refine XO.mv rfl rfl ?_
  refine XO.v (V.extract rfl rfl) rfl ?_
  refine XO.v (V.extract rfl rfl) rfl ?_
  refine XO.as rfl rfl ?_
  refine XO.as rfl rfl ?_
  refine XO.nk [(0, _), (4, _), (6, _), (7, _)] (S4 rfl rfl rfl rfl) ?_
  refine XC.seq ?_
  refine XC.sr ?_
  refine XO.mv rfl rfl ?_
  refine XO.v (V.nilNil rfl Tryz.underlying37 rfl) rfl ?_
  refine XO.nk [(0, _), (4, _), (6, _), (7, _), (17, _)] (S5 rfl rfl rfl rfl rfl) ?_
  refine XC.condF rfl rfl ?_
  refine XC.skip ?_
  refine XE.next ?_
  refine XC.keep [(0, _), (4, _), (6, _)] (S3 rfl rfl rfl) ?_
  refine XC.sr ?_
  refine XO.mv rfl rfl ?_
  refine XO.v (V.lenSl rfl Tryz.underlying28) rfl ?_
  refine XO.v (V.sub rfl rfl _ (IntWalk.i64_in _ (by omega))) rfl ?_
  refine XO.as rfl rfl ?_
  refine XO.nk [(0, _), (4, _), (6, _), (8, _)] (S4 rfl rfl rfl rfl) ?_
  refine XC.seq ?_
  refine XC.sr ?_
  refine XO.mv rfl rfl ?_
  refine XO.v (V.cmp rfl rfl rfl) rfl ?_
  refine XO.nk [(0, _), (4, _), (6, _), (8, _), (24, _)] (S5 rfl rfl rfl rfl rfl) ?_
  refine XC.condP rfl (fun h1 => ?_) (fun h1 => ?_)
  ·
   have h0 : (splitV x).length = 0 := by omega
   refine XC.sr ?_
   refine XO.mv rfl rfl ?_
   refine XO.v (V.nilCheckP rfl) rfl ?_
   refine XO.v (V.fieldAddr rfl fo_75_1) rfl ?_
   refine XO.v (V.loadAgg rfl (inXM (.t2 .here)) (encT.ld1 _ _) ag_56 sz_56_2) rfl ?_
   refine XO.storeAgg rfl rfl (.there .here) (encW.st _ _) ⟨rfl, rfl⟩ sz_56_2 ?_
   refine XO.as rfl rfl ?_
   refine XO.nk [(4, _), (5, _)] (S2 rfl rfl) ?_
   refine XC.ret ?_
   refine XE.thenRet ?_
   refine XE.retG2 rfl (.agg rfl (.there .here) (encW.agg _) ag_56 sz_56_2) (.tmp rfl) (post_of (.cons (.t2 .here) (.cons (.t2 .here) (.cons (.t2 .here) (.cons (.t2 .here) (.cons (.t2 .here) .nil))))) rfl ?_)
   have e : rawE s.toFF l r x = 0 := by unfold rawE; rw [if_neg (by omega), if_pos h0]
   have e2 : rawV s.toFF l r x = r := by unfold rawV; rw [if_neg (by omega), if_pos h0]
   exact ⟨by rw [e, e2]; rfl, rfl⟩
  ·
   have h0 : ¬ (splitV x).length = 0 := by omega
   refine XC.skip ?_
   refine XE.next ?_
   refine XC.keep [(0, _), (4, _), (6, _), (8, _)] (S4 rfl rfl rfl rfl) ?_
   refine XC.seq ?_
   refine XC.sr ?_
   refine XO.openRow .here (by omega) ?_
   intro g hg
   subst hg
   refine XO.mv rfl rfl ?_
   refine XO.mv rfl rfl ?_
   refine XO.v (V.indexSl rfl rfl sl_28 (by omega)) rfl ?_
   refine XO.v (V.loadRow rfl (inXM .here) (strs_at (by omega)) sc_9) rfl ?_
   refine XO.v (V.strCmp rfl rfl rfl) rfl ?_
   refine XO.nk [(0, _), (4, _), (6, _), (8, _), (33, _)] (S5 rfl rfl rfl rfl rfl) ?_
   refine XC.condP rfl (fun h2 => ?_) (fun h2 => ?_)
   ·
    have hd : nlast (splitV x) = dd := h2
    refine XC.sr ?_
    refine XO.v (V.build (vs := #[]) rfl (v := .agg (WH.arr WH.nil)) (fun _ => by kernel_rfl)) rfl ?_
    refine XO.v (V.makeIface rfl Tryz.underlying76 (by simp)) rfl ?_
    refine XO.storeAgg rfl rfl (.there .here) (encW.st _ _) ⟨rfl, rfl⟩ sz_56_2 ?_
    refine XO.as rfl rfl ?_
    refine XO.nk [(4, _), (5, _)] (S2 rfl rfl) ?_
    refine XC.ret ?_
    refine XE.thenRet ?_
    refine XE.retG2 rfl (.agg rfl (.there .here) (encW.agg _) ag_56 sz_56_2) (.tmp rfl) (post_of (.cons (.t2 .here) (.cons (.t2 .here) (.cons (.t2 .here) (.cons (.t2 .here) (.cons (.t2 .here) .nil))))) rfl ?_)
    have e : rawE s.toFF l r x = 9 := by unfold rawE; rw [if_neg (by omega), if_neg h0, if_pos hd]
    have e2 : rawV s.toFF l r x = WH.nil := by unfold rawV; rw [if_pos (by omega)]
    exact ⟨by rw [e, e2]; rfl, rfl⟩
   ·
    have hd : ¬ nlast (splitV x) = dd := h2
    refine XC.skip ?_
    refine XE.next ?_
    refine XC.keep [(0, _), (4, _), (6, _), (8, _)] (S4 rfl rfl rfl rfl) ?_
    refine XC.sr ?_
    refine XO.rowLen .here ?_
    intro hcap
    refine XO.mv rfl rfl ?_
    refine XO.mv rfl rfl ?_
    refine XO.mv rfl rfl ?_
    refine XO.v (V.slicePre (m := (splitV x).length - 1) rfl rfl Tryz.underlying28 sz_9_1 (by omega) (by omega)) rfl ?_
    refine XO.call rfl (m_walk _ _ _ _ _ _ _ _ _ hv hC hm6 s hI _ _ (splitV x) ((splitV x).length - 1) (by omega) (by omega)) (.cons (.t2 .here) (.cons (.t2 .here) (.cons (.t2 .here) (.cons (.t2 .here) (.cons (.t2 .here) .h1))))) cl_70 rfl ?_
    rintro _ _ ⟨rfl, rfl⟩
    refine XO.mv rfl rfl ?_
    refine XO.v (V.extract rfl rfl) rfl ?_
    refine XO.v (V.extract rfl rfl) rfl ?_
    refine XO.allocZ (z := .agg (WH.arr WH.nil)) (m := 2) (C := encW WH.nil) (by kernel_rfl) rfl (encW.box _) rfl ?_
    intro b9
    refine XO.storeAgg rfl rfl .here (encW.st _ _) ⟨rfl, rfl⟩ sz_56_2 ?_
    refine XO.as rfl rfl ?_
    refine XO.nk [(0, _), (4, _), (6, _), (7, _), (8, _), (9, _)] (S6 rfl rfl rfl rfl rfl rfl) ?_
    refine XC.seq ?_
    refine XC.sr ?_
    refine XO.mv rfl rfl ?_
    refine XO.v (V.errNil rfl Tryz.underlying37 rfl) rfl ?_
    refine XO.nk [(0, _), (4, _), (6, _), (7, _), (8, _), (9, _), (45, _)] (S7 rfl rfl rfl rfl rfl rfl rfl) ?_
    refine XC.condP rfl (fun h3 => ?_) (fun h3 => ?_)
    ·
     have hl : ¬ (led s.toFF l r (ninit (splitV x))).1 = 0 := h3
     refine XC.sr ?_
     refine XO.v (V.build (vs := #[]) rfl (v := .agg (WH.arr WH.nil)) (fun _ => by kernel_rfl)) rfl ?_
     refine XO.mv rfl rfl ?_
     refine XO.storeAgg rfl rfl (.t7 .here) (encW.st _ _) ⟨rfl, rfl⟩ sz_56_2 ?_
     refine XO.as rfl rfl ?_
     refine XO.nk [(4, _), (5, _)] (S2 rfl rfl) ?_
     refine XC.ret ?_
     refine XE.thenRet ?_
     refine XE.retG2 rfl (.agg rfl (.t7 .here) (encW.agg _) ag_56 sz_56_2) (.tmp rfl) (post_of (.cons (.there .here) (.cons (.there .here) (.cons (.there .here) (.cons (.there .here) (.cons (.there .here) .nil))))) rfl ?_)
     have e : rawE s.toFF l r x = (led s.toFF l r (ninit (splitV x))).1 := by unfold rawE; rw [if_neg (by omega), if_neg h0, if_neg hd, if_pos hl]
     have e2 : rawV s.toFF l r x = WH.nil := by unfold rawV; rw [if_pos (by rw [e]; exact hl)]
     exact ⟨by rw [e, e2]; rfl, rfl⟩
    ·
     have hl : (led s.toFF l r (ninit (splitV x))).1 = 0 := Decidable.byContradiction h3
     refine XC.skip ?_
     refine XE.next ?_
     refine XC.keep [(0, _), (4, _), (6, _), (8, _), (9, _)] (S5 rfl rfl rfl rfl rfl) ?_
     refine XC.seq ?_
     refine XC.regionQ mixed (f := 16) (l := #[false, false, false, false, false, false, false, false, false, false, false, false, false, false, false, false]) rfl rfl XM.drawn' ?_
     refine XQ.pv (i := 0) (l' := #[tt,ff,ff,ff,ff,ff,ff,ff,ff,ff,ff,ff,ff,ff,ff,ff]) rfl (by kernel_rfl) rfl (V.move rfl) rfl rfl ?_
     refine XQ.pv (i := 1) (l' := #[tt,tt,ff,ff,ff,ff,ff,ff,ff,ff,ff,ff,ff,ff,ff,ff]) rfl (by kernel_rfl) rfl (V.nilCheckP rfl) rfl rfl ?_
     refine XQ.pv (i := 2) (l' := #[tt,tt,tt,ff,ff,ff,ff,ff,ff,ff,ff,ff,ff,ff,ff,ff]) rfl (by kernel_rfl) rfl (V.fieldAddr rfl fo_75_0) rfl rfl ?_
     refine XQ.load (i := 3) (l' := #[tt,tt,tt,tt,ff,ff,ff,ff,ff,ff,ff,ff,ff,ff,ff,ff]) (.cells _ _ _ _) [10] rfl (by kernel_rfl) rfl (.there .here) (V.load rfl inEnt (encT.ld0 _ _) sc_25) rfl (by kernel_rfl) rfl ?_
     refine XQ.pv (i := 4) (l' := #[tt,tt,tt,tt,tt,ff,ff,ff,ff,ff,ff,ff,ff,ff,ff,ff]) rfl (by kernel_rfl) rfl (V.fieldAddr rfl fo_56_1) rfl rfl ?_
     refine XQ.load (i := 5) (l' := #[tt,tt,tt,tt,tt,tt,ff,ff,ff,ff,ff,ff,ff,ff,ff,ff]) (.cells _ _ _ _) [10] rfl (by kernel_rfl) rfl .here (V.load rfl inEnt (encW.ld1 _) sc_3) rfl (by kernel_rfl) rfl ?_
     refine XQ.pv (i := 6) (l' := #[tt,tt,tt,tt,tt,tt,tt,ff,ff,ff,ff,ff,ff,ff,ff,ff]) rfl (by kernel_rfl) rfl (V.move rfl) rfl rfl ?_
     refine XQ.pv (i := 7) (l' := #[tt,tt,tt,tt,tt,tt,tt,tt,ff,ff,ff,ff,ff,ff,ff,ff]) rfl (by kernel_rfl) rfl (V.move rfl) rfl rfl ?_
     refine XQ.pv (i := 8) (l' := #[tt,tt,tt,tt,tt,tt,tt,tt,tt,ff,ff,ff,ff,ff,ff,ff]) rfl (by kernel_rfl) rfl (V.indexSl rfl rfl sl_28 (by omega)) rfl rfl ?_
     refine XQ.load (i := 9) (l' := #[tt,tt,tt,tt,tt,tt,tt,tt,tt,tt,ff,ff,ff,ff,ff,ff]) (.row _ _ _ _ _) [10] rfl (by kernel_rfl) rfl (.t6 .here) (V.loadRow rfl inEnt (strs_at (by omega)) sc_9) rfl (by kernel_rfl) rfl ?_
     refine XQ.call (i := 10) (l' := #[tt,tt,tt,tt,tt,tt,tt,tt,tt,tt,tt,ff,ff,ff,ff,ff]) rfl (by kernel_rfl) rfl rfl (t_Find _ _ _ hI _ _) (.cons (.t3 .here) (.cons (.t3 .here) (.cons (.t3 .here) .nil))) cl_38 rfl (by rintro _ _ ⟨rfl, rfl⟩; all_goals (intro _ hw'; exact ⟨fun hs => (hs 10 (by first | (simp; done) | (simp; rfl)) rfl).elim, fun hs => (hs 10 (by first | (simp; done) | (simp; rfl)) rfl).elim, fun hs => (hs 10 (by first | (simp; done) | (simp; rfl)) rfl).elim, trivial⟩)) ?_
     rintro _ _ ⟨rfl, rfl⟩
     refine XQ.pv (i := 11) (l' := #[tt,tt,tt,tt,tt,tt,tt,tt,tt,tt,tt,tt,ff,ff,ff,ff]) rfl (by kernel_rfl) rfl (V.move rfl) rfl rfl ?_
     refine XQ.pv (i := 12) (l' := #[tt,tt,tt,tt,tt,tt,tt,tt,tt,tt,tt,tt,tt,ff,ff,ff]) rfl (by kernel_rfl) rfl (V.extract rfl rfl) rfl rfl ?_
     refine XQ.pv (i := 13) (l' := #[tt,tt,tt,tt,tt,tt,tt,tt,tt,tt,tt,tt,tt,tt,ff,ff]) rfl (by kernel_rfl) rfl (V.extract rfl rfl) rfl rfl ?_
     refine XQ.pv (i := 14) (l' := #[tt,tt,tt,tt,tt,tt,tt,tt,tt,tt,tt,tt,tt,tt,tt,ff]) rfl (by kernel_rfl) rfl (V.assign rfl) rfl rfl ?_
     refine XQ.pv (i := 15) (l' := #[tt,tt,tt,tt,tt,tt,tt,tt,tt,tt,tt,tt,tt,tt,tt,tt]) rfl (by kernel_rfl) rfl (V.assign rfl) rfl rfl ?_
     refine XQ.done (by kernel_rfl) ?_
     refine XE.next ?_
     refine XC.keep [(4, _), (7, _), (9, _), (10, _)] (S4 rfl rfl rfl rfl) ?_
     refine XC.seq ?_
     refine XC.sr ?_
     refine XO.mv rfl rfl ?_
     refine XO.v (V.errNil rfl Tryz.underlying37 rfl) rfl ?_
     refine XO.nk [(4, _), (7, _), (9, _), (10, _), (63, _)] (S5 rfl rfl rfl rfl rfl) ?_
     refine XC.condP rfl (fun h4 => ?_) (fun h4 => ?_)
     ·
      have hf : ¬ s.toFF.findE (led s.toFF l r (ninit (splitV x))).2.node (nlast (splitV x)) = 0 := h4
      refine XC.sr ?_
      refine XO.v (V.build (vs := #[]) rfl (v := .agg (WH.arr WH.nil)) (fun _ => by kernel_rfl)) rfl ?_
      refine XO.mv rfl rfl ?_
      refine XO.storeAgg rfl rfl (.t7 .here) (encW.st _ _) ⟨rfl, rfl⟩ sz_56_2 ?_
      refine XO.as rfl rfl ?_
      refine XO.nk [(4, _), (5, _)] (S2 rfl rfl) ?_
      refine XC.ret ?_
      refine XE.thenRet ?_
      refine XE.retG2 rfl (.agg rfl (.t7 .here) (encW.agg _) ag_56 sz_56_2) (.tmp rfl) (post_of (.cons (.t4 .here) (.cons (.t4 .here) .h3)) rfl ?_)
      have e : rawE s.toFF l r x = s.toFF.findE (led s.toFF l r (ninit (splitV x))).2.node (nlast (splitV x)) := by unfold rawE; rw [if_neg (by omega), if_neg h0, if_neg hd, if_neg (fun q => q hl)]
      have e2 : rawV s.toFF l r x = WH.nil := by unfold rawV; rw [if_pos (by rw [e]; exact hf)]
      exact ⟨by rw [e, e2]; rfl, rfl⟩
     ·
      have hf : s.toFF.findE (led s.toFF l r (ninit (splitV x))).2.node (nlast (splitV x)) = 0 := Decidable.byContradiction h4
      refine XC.skip ?_
      refine XE.next ?_
      refine XC.keep [(4, _), (9, _), (10, _)] (S3 rfl rfl rfl) ?_
      refine XC.sr ?_
      refine XO.v (V.fieldAddr rfl fo_56_0) rfl ?_
      refine XO.v (V.load rfl (inXM (.t3 .here)) (encW.ld0 _) sc_3) rfl ?_
      refine XO.mv rfl rfl ?_
      refine XO.v (V.build (vs := #[(0, .int .i64 (led s.toFF l r (ninit (splitV x))).2.tree), (1, .int .i64 (s.toFF.findV (led s.toFF l r (ninit (splitV x))).2.node (nlast (splitV x))))]) rfl (v := .agg (WH.arr ⟨(led s.toFF l r (ninit (splitV x))).2.tree, s.toFF.findV (led s.toFF l r (ninit (splitV x))).2.node (nlast (splitV x))⟩)) (fun _ => by kernel_rfl)) rfl ?_
      refine XO.storeAgg rfl rfl (.t7 .here) (encW.st _ _) ⟨rfl, rfl⟩ sz_56_2 ?_
      refine XO.as rfl rfl ?_
      refine XO.nk [(4, _), (5, _)] (S2 rfl rfl) ?_
      refine XC.ret ?_
      refine XE.retG2 rfl (.agg rfl (.t7 .here) (encW.agg _) ag_56 sz_56_2) (.tmp rfl) (post_of (.cons (.t4 .here) (.cons (.t4 .here) .h3)) rfl ?_)
      have e : rawE s.toFF l r x = 0 := by unfold rawE; rw [if_neg (by omega), if_neg h0, if_neg hd, if_neg (fun q => q hl), hf]
      have e2 : rawV s.toFF l r x = ⟨(led s.toFF l r (ninit (splitV x))).2.tree, s.toFF.findV (led s.toFF l r (ninit (splitV x))).2.node (nlast (splitV x))⟩ := by unfold rawV; rw [if_neg (by omega), if_neg h0]
      exact ⟨by rw [e, e2]; rfl, rfl⟩
set_option maxRecDepth 10000 in
set_option maxHeartbeats 4000000 in
theorem m_Last (bt bf : Nat) (r : WH) (l : List MT) (p : Option Addr) (cap k c : Nat) (C : Nat → Value) (hv : RV.ok ⟨p, cap, k, l.length, c, C⟩) (hC : MC C l) (hm6 : l.length ≤ 6) (s : FC) (hI : s.toFF.Sh) (x : ByteArray) (hx : x.size ≤ 100000) : Spec Tryz.prog 54 [ptr bt 0 0, .string x]
    [.cells bt 0 4 (encT bf r (.slice p l.length c)), frow p cap 98 4 k C, .cells bf 0 321 (encF s), .fam fam40 (FC.rowsN 9 s), .fam fam40 (FC.rowsK 3 s)]
    (fun v H1 => v = .tuple #[.agg (WH.arr (lastV s.toFF l r x)), .string (lastN s.toFF l r x), errv 76 (lastE s.toFF l r x)] ∧ H1 = [.cells bt 0 4 (encT bf r (.slice p l.length c)), frow p cap 98 4 k C, .cells bf 0 321 (encF s), .fam fam40 (FC.rowsN 9 s), .fam fam40 (FC.rowsK 3 s)]) := by
 refine Spec.intro Tryz.func54 rfl rfl ?_
 intro W
 refine XC.sr ?_
 refine XO.allocZ (z := .agg (WH.arr WH.nil)) (m := 2) (C := encW WH.nil) (by kernel_rfl) rfl (encW.box _) rfl ?_
 intro br
 refine XO.as rfl rfl ?_
 refine XO.as rfl rfl ?_
 refine XO.nk [(0, _), (1, _), (4, _)] (S3 rfl rfl rfl) ?_
 refine XC.sr ?_
 refine XO.mv rfl rfl ?_
 refine XO.call rfl (m_Split _ (by omega)) .nil cl_56 rfl ?_
 rintro _ _ (⟨e9, rfl, rfl⟩ | ⟨e0, q, cq, rfl, rfl⟩)
 ·
  refine XO.mv rfl rfl ?_
  refine XO.v (V.extract rfl rfl) rfl ?_
  refine XO.v (V.extract rfl rfl) rfl ?_
  refine XO.as rfl rfl ?_
  refine XO.as rfl rfl ?_
  refine XO.nk [(0, _), (4, _), (7, _), (8, _)] (S4 rfl rfl rfl rfl) ?_
  refine XC.seq ?_
  refine XC.sr ?_
  refine XO.mv rfl rfl ?_
  refine XO.v (V.ifaceNil rfl Tryz.underlying37 rfl) rfl ?_
  refine XO.nk [(0, _), (4, _), (7, _), (8, _), (17, _)] (S5 rfl rfl rfl rfl rfl) ?_
  refine XC.condT rfl rfl ?_
  refine XC.sr ?_
  refine XO.v (V.build (vs := #[]) rfl (v := .agg (WH.arr WH.nil)) (fun _ => by kernel_rfl)) rfl ?_
  refine XO.mv rfl rfl ?_
  refine XO.storeAgg rfl rfl .here (encW.st _ _) ⟨rfl, rfl⟩ sz_56_2 ?_
  refine XO.as rfl rfl ?_
  refine XO.as rfl rfl ?_
  refine XO.nk [(4, _), (5, _), (6, _)] (S3 rfl rfl rfl) ?_
  refine XC.ret ?_
  refine XE.thenRet ?_
  refine XE.retG3 rfl (.agg rfl .here (encW.agg _) ag_56 sz_56_2) (.tmp rfl) (.tmp rfl) (post_of (.cons (.there .here) (.cons (.there .here) (.cons (.there .here) (.cons (.there .here) (.cons (.there .here) .nil))))) rfl ?_)
  have e : lastE s.toFF l r x = 9 := by unfold lastE; rw [if_pos (by omega), e9]
  have e2 : lastV s.toFF l r x = WH.nil := by unfold lastV; rw [if_pos (by omega)]
  have e3 : lastN s.toFF l r x = ⟨#[]⟩ := by unfold lastN; rw [if_pos (by omega)]
  exact ⟨by rw [e, e2, e3]; rfl, rfl⟩
 ·
  have hsv := splitV_len x
  refine XO.mv rfl rfl ?_
  refine XO.v (V.extract rfl rfl) rfl ?_
  refine XO.v (V.extract rfl rfl) rfl ?_
  refine XO.as rfl rfl ?_
  refine XO.as rfl rfl ?_
  refine XO.nk [(0, _), (4, _), (7, _), (8, _)] (S4 rfl rfl rfl rfl) ?_
  refine XC.seq ?_
  refine XC.sr ?_
  refine XO.mv rfl rfl ?_
  refine XO.v (V.nilNil rfl Tryz.underlying37 rfl) rfl ?_
  refine XO.nk [(0, _), (4, _), (7, _), (8, _), (17, _)] (S5 rfl rfl rfl rfl rfl) ?_
  refine XC.condF rfl rfl ?_
  refine XC.skip ?_
  refine XE.next ?_
  refine XC.keep [(0, _), (4, _), (7, _)] (S3 rfl rfl rfl) ?_
  refine XC.sr ?_
  refine XO.mv rfl rfl ?_
  refine XO.v (V.lenSl rfl Tryz.underlying28) rfl ?_
  refine XO.v (V.sub rfl rfl _ (IntWalk.i64_in _ (by omega))) rfl ?_
  refine XO.as rfl rfl ?_
  refine XO.nk [(0, _), (4, _), (7, _), (9, _)] (S4 rfl rfl rfl rfl) ?_
  refine XC.seq ?_
  refine XC.sr ?_
  refine XO.mv rfl rfl ?_
  refine XO.v (V.cmp rfl rfl rfl) rfl ?_
  refine XO.mv rfl rfl ?_
  refine XO.splitP (d := 25) rfl (fun h1 => ?_) (fun h1 => ?_)
  ·
   have h0 : (splitV x).length = 0 := by omega
   refine XO.guardSkip rfl rfl rfl rfl rfl ?_
   refine XO.guardSkip rfl rfl rfl rfl rfl ?_
   refine XO.guardSkip rfl rfl rfl rfl rfl ?_
   refine XO.guardSkip rfl rfl rfl rfl rfl ?_
   refine XO.guardSkip rfl rfl rfl rfl rfl ?_
   refine XO.v (V.pick rfl rfl rfl rfl) rfl ?_
   refine XO.nk [(0, _), (4, _), (7, _), (9, _), (31, _)] (S5 rfl rfl rfl rfl rfl) ?_
   refine XC.condT rfl rfl ?_
   refine XC.sr ?_
   refine XO.v (V.build (vs := #[]) rfl (v := .agg (WH.arr WH.nil)) (fun _ => by kernel_rfl)) rfl ?_
   refine XO.v (V.makeIface rfl Tryz.underlying76 (by simp)) rfl ?_
   refine XO.storeAgg rfl rfl (.there .here) (encW.st _ _) ⟨rfl, rfl⟩ sz_56_2 ?_
   refine XO.as rfl rfl ?_
   refine XO.as rfl rfl ?_
   refine XO.nk [(4, _), (5, _), (6, _)] (S3 rfl rfl rfl) ?_
   refine XC.ret ?_
   refine XE.thenRet ?_
   refine XE.retG3 rfl (.agg rfl (.there .here) (encW.agg _) ag_56 sz_56_2) (.tmp rfl) (.tmp rfl) (post_of (.cons (.t2 .here) (.cons (.t2 .here) (.cons (.t2 .here) (.cons (.t2 .here) (.cons (.t2 .here) .nil))))) rfl ?_)
   have e : lastE s.toFF l r x = 9 := by unfold lastE; rw [if_neg (by omega), if_pos (.inl h0)]
   have e2 : lastV s.toFF l r x = WH.nil := by unfold lastV; rw [if_pos (by omega)]
   have e3 : lastN s.toFF l r x = ⟨#[]⟩ := by unfold lastN; rw [if_pos (by omega)]
   exact ⟨by rw [e, e2, e3]; rfl, rfl⟩
  ·
   have h0 : ¬ (splitV x).length = 0 := by omega
   refine XO.guardRun rfl rfl rfl ?_
   refine XO.mv rfl rfl ?_
   refine XO.guardRun rfl rfl rfl ?_
   refine XO.mv rfl rfl ?_
   refine XO.openRow .here (by omega) ?_
   intro g hg
   subst hg
   refine XO.guardRun rfl rfl rfl ?_
   refine XO.v (V.indexSl rfl rfl sl_28 (by omega)) rfl ?_
   refine XO.guardRun rfl rfl rfl ?_
   refine XO.v (V.loadRow rfl (inXM .here) (strs_at (by omega)) sc_9) rfl ?_
   refine XO.guardRun rfl rfl rfl ?_
   refine XO.v (V.strCmp rfl rfl rfl) rfl ?_
   refine XO.v (V.pick rfl rfl rfl rfl) rfl ?_
   refine XO.nk [(0, _), (4, _), (7, _), (9, _), (31, _)] (S5 rfl rfl rfl rfl rfl) ?_
   refine XC.condP rfl (fun h2 => ?_) (fun h2 => ?_)
   ·
    have hd : nlast (splitV x) = dd := h2
    refine XC.sr ?_
    refine XO.v (V.build (vs := #[]) rfl (v := .agg (WH.arr WH.nil)) (fun _ => by kernel_rfl)) rfl ?_
    refine XO.v (V.makeIface rfl Tryz.underlying76 (by simp)) rfl ?_
    refine XO.storeAgg rfl rfl (.there .here) (encW.st _ _) ⟨rfl, rfl⟩ sz_56_2 ?_
    refine XO.as rfl rfl ?_
    refine XO.as rfl rfl ?_
    refine XO.nk [(4, _), (5, _), (6, _)] (S3 rfl rfl rfl) ?_
    refine XC.ret ?_
    refine XE.thenRet ?_
    refine XE.retG3 rfl (.agg rfl (.there .here) (encW.agg _) ag_56 sz_56_2) (.tmp rfl) (.tmp rfl) (post_of (.cons (.t2 .here) (.cons (.t2 .here) (.cons (.t2 .here) (.cons (.t2 .here) (.cons (.t2 .here) .nil))))) rfl ?_)
    have e : lastE s.toFF l r x = 9 := by unfold lastE; rw [if_neg (by omega), if_pos (.inr hd)]
    have e2 : lastV s.toFF l r x = WH.nil := by unfold lastV; rw [if_pos (by omega)]
    have e3 : lastN s.toFF l r x = ⟨#[]⟩ := by unfold lastN; rw [if_pos (by omega)]
    exact ⟨by rw [e, e2, e3]; rfl, rfl⟩
   ·
    have hd : ¬ nlast (splitV x) = dd := h2
    refine XC.skip ?_
    refine XE.next ?_
    refine XC.keep [(0, _), (4, _), (7, _), (9, _)] (S4 rfl rfl rfl rfl) ?_
    refine XC.sr ?_
    refine XO.rowLen .here ?_
    intro hcap
    refine XO.mv rfl rfl ?_
    refine XO.mv rfl rfl ?_
    refine XO.mv rfl rfl ?_
    refine XO.v (V.slicePre (m := (splitV x).length - 1) rfl rfl Tryz.underlying28 sz_9_1 (by omega) (by omega)) rfl ?_
    refine XO.call rfl (m_walk _ _ _ _ _ _ _ _ _ hv hC hm6 s hI _ _ (splitV x) ((splitV x).length - 1) (by omega) (by omega)) (.cons (.t2 .here) (.cons (.t2 .here) (.cons (.t2 .here) (.cons (.t2 .here) (.cons (.t2 .here) .h1))))) cl_70 rfl ?_
    rintro _ _ ⟨rfl, rfl⟩
    refine XO.mv rfl rfl ?_
    refine XO.v (V.extract rfl rfl) rfl ?_
    refine XO.v (V.extract rfl rfl) rfl ?_
    refine XO.allocZ (z := .agg (WH.arr WH.nil)) (m := 2) (C := encW WH.nil) (by kernel_rfl) rfl (encW.box _) rfl ?_
    intro b9
    refine XO.storeAgg rfl rfl .here (encW.st _ _) ⟨rfl, rfl⟩ sz_56_2 ?_
    refine XO.as rfl rfl ?_
    refine XO.nk [(4, _), (7, _), (8, _), (9, _), (10, _)] (S5 rfl rfl rfl rfl rfl) ?_
    refine XC.seq ?_
    refine XC.sr ?_
    refine XO.mv rfl rfl ?_
    refine XO.v (V.errNil rfl Tryz.underlying37 rfl) rfl ?_
    refine XO.nk [(4, _), (7, _), (8, _), (9, _), (10, _), (43, _)] (S6 rfl rfl rfl rfl rfl rfl) ?_
    refine XC.condP rfl (fun h3 => ?_) (fun h3 => ?_)
    ·
     have hl : ¬ (led s.toFF l r (ninit (splitV x))).1 = 0 := h3
     refine XC.sr ?_
     refine XO.v (V.build (vs := #[]) rfl (v := .agg (WH.arr WH.nil)) (fun _ => by kernel_rfl)) rfl ?_
     refine XO.mv rfl rfl ?_
     refine XO.storeAgg rfl rfl (.t7 .here) (encW.st _ _) ⟨rfl, rfl⟩ sz_56_2 ?_
     refine XO.as rfl rfl ?_
     refine XO.as rfl rfl ?_
     refine XO.nk [(4, _), (5, _), (6, _)] (S3 rfl rfl rfl) ?_
     refine XC.ret ?_
     refine XE.thenRet ?_
     refine XE.retG3 rfl (.agg rfl (.t7 .here) (encW.agg _) ag_56 sz_56_2) (.tmp rfl) (.tmp rfl) (post_of (.cons (.there .here) (.cons (.there .here) (.cons (.there .here) (.cons (.there .here) (.cons (.there .here) .nil))))) rfl ?_)
     have e : lastE s.toFF l r x = (led s.toFF l r (ninit (splitV x))).1 := by unfold lastE; rw [if_neg (by omega), if_neg (by rintro (a | a); exact h0 a; exact hd a)]
     have e2 : lastV s.toFF l r x = WH.nil := by unfold lastV; rw [if_pos (by rw [e]; exact hl)]
     have e3 : lastN s.toFF l r x = ⟨#[]⟩ := by unfold lastN; rw [if_pos (by rw [e]; exact hl)]
     exact ⟨by rw [e, e2, e3]; rfl, rfl⟩
    ·
     have hl : (led s.toFF l r (ninit (splitV x))).1 = 0 := Decidable.byContradiction h3
     refine XC.skip ?_
     refine XE.next ?_
     refine XC.keep [(4, _), (7, _), (9, _), (10, _)] (S4 rfl rfl rfl rfl) ?_
     refine XC.seq ?_
     refine XC.regionQ mixed (f := 8) (l := #[false, false, false, false, false, false, false, false]) rfl rfl XM.drawn' ?_
     refine XQ.load (i := 0) (l' := #[tt,ff,ff,ff,ff,ff,ff,ff]) (.cells _ _ _ _) [5] rfl (by kernel_rfl) rfl .here (V.loadAgg rfl inEnt (encW.agg _) ag_56 sz_56_2) rfl (by kernel_rfl) rfl ?_
     refine XQ.pv (i := 1) (l' := #[tt,tt,ff,ff,ff,ff,ff,ff]) rfl (by kernel_rfl) rfl (V.move rfl) rfl rfl ?_
     refine XQ.pv (i := 2) (l' := #[tt,tt,tt,ff,ff,ff,ff,ff]) rfl (by kernel_rfl) rfl (V.move rfl) rfl rfl ?_
     refine XQ.pv (i := 3) (l' := #[tt,tt,tt,tt,ff,ff,ff,ff]) rfl (by kernel_rfl) rfl (V.indexSl rfl rfl sl_28 (by omega)) rfl rfl ?_
     refine XQ.load (i := 4) (l' := #[tt,tt,tt,tt,tt,ff,ff,ff]) (.row _ _ _ _ _) [] rfl (by kernel_rfl) rfl (.t6 .here) (V.loadRow rfl inEnt (strs_at (by omega)) sc_9) rfl (by kernel_rfl) rfl ?_
     refine XQ.storeAgg (i := 5) (l' := #[tt,tt,tt,tt,tt,tt,ff,ff]) rfl (by kernel_rfl) rfl rfl rfl (.t7 .here) (encW.st _ _) ⟨rfl, rfl⟩ sz_56_2 (fun _ hw' => ⟨fun _ => inXM (.t6 .here) _ hw', fun hs => (hs 5 (by first | (simp; done) | (simp; rfl)) rfl).elim, trivial⟩) ?_
     refine XQ.pv (i := 6) (l' := #[tt,tt,tt,tt,tt,tt,tt,ff]) rfl (by kernel_rfl) rfl (V.assign rfl) rfl rfl ?_
     refine XQ.pv (i := 7) (l' := #[tt,tt,tt,tt,tt,tt,tt,tt]) rfl (by kernel_rfl) rfl (V.assign rfl) rfl rfl ?_
     refine XQ.done (by kernel_rfl) ?_
     refine XE.next ?_
     refine XC.keep [(4, _), (5, _), (6, _)] (S3 rfl rfl rfl) ?_
     refine XC.ret ?_
     refine XE.retG3 rfl (.agg rfl (.t7 .here) (encW.agg _) ag_56 sz_56_2) (.tmp rfl) (.tmp rfl) (post_of (.cons (.there .here) (.cons (.there .here) (.cons (.there .here) (.cons (.there .here) (.cons (.there .here) .nil))))) rfl ?_)
     have e : lastE s.toFF l r x = 0 := by unfold lastE; rw [if_neg (by omega), if_neg (by rintro (a | a); exact h0 a; exact hd a), hl]
     have e2 : lastV s.toFF l r x = (led s.toFF l r (ninit (splitV x))).2 := by unfold lastV; rw [if_neg (by omega)]
     have e3 : lastN s.toFF l r x = nlast (splitV x) := by unfold lastN; rw [if_neg (by omega)]
     exact ⟨by rw [e, e2, e3]; rfl, rfl⟩
set_option maxRecDepth 10000 in
set_option maxHeartbeats 400000 in
theorem m_Root (bt bf : Nat) (r : WH) (v : Value) : Spec Tryz.prog 18 [ptr bt 0 0]
    [.cells bt 0 4 (encT bf r (v))]
    (fun u H1 => u = .agg (WH.arr r) ∧ H1 = [.cells bt 0 4 (encT bf r (v))]) := by
 refine Spec.intro Tryz.func18 rfl rfl ?_
 intro W
 refine XC.sr ?_
 refine XO.allocZ (z := .agg (WH.arr WH.nil)) (m := 2) (C := encW WH.nil) (by kernel_rfl) rfl (encW.box _) rfl ?_
 intro br
 refine XO.nk [(0, _), (2, _)] (S2 rfl rfl) ?_
 refine XC.sr ?_
 refine XO.mv rfl rfl ?_
 refine XO.v (V.nilCheckP rfl) rfl ?_
 refine XO.v (V.fieldAddr rfl fo_75_1) rfl ?_
 refine XO.v (V.loadAgg rfl (inXM (.there .here)) (encT.ld1 _ _) ag_56 sz_56_2) rfl ?_
 refine XO.storeAgg rfl rfl .here (encW.st _ _) ⟨rfl, rfl⟩ sz_56_2 ?_
 refine XO.nk [(2, _)] (S1 rfl) ?_
 refine XC.ret ?_
 refine XE.retG1 rfl (.agg rfl .here (encW.agg _) ag_56 sz_56_2) (post_of (.cons (.there .here) .nil) rfl ?_)
 exact ⟨rfl, rfl⟩
set_option maxRecDepth 10000 in
set_option maxHeartbeats 400000 in
theorem m_Mounts (bt bf : Nat) (r : WH) (l : List MT) (p : Option Addr) (cap k c : Nat) (C : Nat → Value) (hv : RV.ok ⟨p, cap, k, l.length, c, C⟩) (hC : MC C l) (hm6 : l.length ≤ 6) : Spec Tryz.prog 20 [ptr bt 0 0]
    [.cells bt 0 4 (encT bf r (.slice p l.length c)), frow p cap 98 4 k C]
    (fun v H1 => ∃ p' cap' k' c' C', RV.ok ⟨p', cap', k', l.length, c', C'⟩ ∧ MC C' l ∧ v = .slice p' l.length c' ∧ H1 = [frow p' cap' 98 4 k' C', .cells bt 0 4 (encT bf r (.slice p l.length c)), frow p cap 98 4 k C]) := by
 refine Spec.intro Tryz.func20 rfl rfl ?_
 intro W
 refine XC.sr ?_
 refine XO.as rfl rfl ?_
 refine XO.nk [(0, _)] (S1 rfl) ?_
 refine XC.sr ?_
 refine XO.mv rfl rfl ?_
 refine XO.v (V.nilCheckP rfl) rfl ?_
 refine XO.v (V.fieldAddr rfl fo_75_2) rfl ?_
 refine XO.v (V.load rfl (inXM .here) (encT.ld2 _ _) sc_58) rfl ?_
 refine XO.g (RG.clone (e := 98) (v := ⟨p, cap, k, l.length, c, C⟩) hv rfl Tryz.underlying58 rt_98_4 (.there .here) (by show l.length ≤ _; omega)) rfl ?_
 intro u hu
 refine XO.as rfl rfl ?_
 refine XO.nk [(2, _)] (S1 rfl) ?_
 refine XC.ret ?_
 refine XE.ret1 rfl rfl (post_of .h3 rfl ?_)
 obtain ⟨hu1, hu2, hu3⟩ := hu
 obtain ⟨p', cap', k', len', c', C'⟩ := u
 have hu2 : len' = l.length := hu2
 subst hu2
 exact ⟨p', cap', k', c', C', hu1, hC.copy hu3, rfl, rfl⟩
end Go.X
