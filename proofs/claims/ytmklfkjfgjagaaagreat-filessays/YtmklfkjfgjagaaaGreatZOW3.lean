import Derived.Test.YtmklfkjfgjagaaaGreatXShort
import Derived.Test.YtmklfkjfgjagaaaGreatZOW2
namespace Go.X
open Go Go.Proofs

set_option maxRecDepth 10000 in
set_option maxHeartbeats 1000000 in
theorem f_Seek (bo oo bf bp : Nat) (O : OS) (n a : Int) : Spec Tryz.prog 55 [ptr bo oo 0, .int .i64 n, .int .i64 a]
    [.cells bo oo 122 (encO bf bp O)]
    (fun v H1 => v = errv 82 (seekE O n a) ∧ H1 = [.cells bo oo 122 (encO bf bp (seekO O n a))]) := by
 refine Spec.intro Tryz.func55 rfl rfl ?_
 intro W
 refine XC.sr ?_
 refine XO.as rfl rfl ?_
 refine XO.nk [(0, _), (1, _), (2, _)] (S3 rfl rfl rfl) ?_
 refine XC.sr ?_
 refine XO.mv rfl rfl ?_
 refine XO.mv rfl rfl ?_
 refine XO.call rfl (f_is _ _ _ _ _ _) .h1 cl_57 rfl ?_
 rintro _ _ (⟨⟨i0, i1, i2⟩, rfl, rfl⟩ | ⟨i0, rfl, rfl⟩)
 ·
  refine XO.mv rfl rfl ?_
  refine XO.v (V.extract rfl rfl) rfl ?_
  refine XO.v (V.extract rfl rfl) rfl ?_
  refine XO.as rfl rfl ?_
  refine XO.as rfl rfl ?_
  refine XO.nk [(2, _), (7, _), (8, _)] (S3 rfl rfl rfl) ?_
  refine XC.seq ?_
  refine XC.sr ?_
  refine XO.mv rfl rfl ?_
  refine XO.v (V.nilNil rfl Tryz.underlying36 rfl) rfl ?_
  refine XO.nk [(2, _), (7, _), (8, _), (16, _)] (S4 rfl rfl rfl rfl) ?_
  refine XC.condF rfl rfl ?_
  refine XC.skip ?_
  refine XE.next ?_
  refine XC.keep [(2, _), (7, _)] (S2 rfl rfl) ?_
  refine XC.seq ?_
  refine XC.sr ?_
  refine XO.mv rfl rfl ?_
  refine XO.v (V.nilCheckP rfl) rfl ?_
  refine XO.v (V.fieldAddr rfl fo_86_0) rfl ?_
  refine XO.v (V.load rfl (inXM .here) (encO.ld_o_kind _ _ (by omega)) sc_3) rfl ?_
  refine XO.v (V.cmp rfl rfl rfl) rfl ?_
  refine XO.nk [(2, _), (7, _), (22, _)] (S3 rfl rfl rfl) ?_
  refine XC.condP rfl (fun h1 => ?_) (fun h1 => ?_)
  ·
   refine XC.sr ?_
   refine XO.v (V.makeIface rfl Tryz.underlying82 (by simp)) rfl ?_
   refine XO.as rfl rfl ?_
   refine XO.nk [(6, _)] (S1 rfl) ?_
   refine XC.ret ?_
   refine XE.thenRet ?_
   refine XE.ret1 rfl rfl (post_of .h1 rfl ?_)
   have e : seekE O n a = 11 := by unfold seekE; rw [if_neg (by omega), if_pos (by assumption)]
   exact ⟨by rw [e]; rfl, by unfold seekO; rw [if_neg (by omega)]⟩
  ·
   refine XC.skip ?_
   refine XE.next ?_
   refine XC.keep [(2, _), (7, _)] (S2 rfl rfl) ?_
   refine XC.seq ?_
   refine XC.sr ?_
   refine XO.mv rfl rfl ?_
   refine XO.v (V.cmp rfl rfl rfl) rfl ?_
   refine XO.mv rfl rfl ?_
   refine XO.splitP (d := 26) rfl (fun h2 => ?_) (fun h2 => ?_)
   ·
    refine XO.guardSkip rfl rfl rfl rfl rfl ?_
    refine XO.guardSkip rfl rfl rfl rfl rfl ?_
    refine XO.v (V.pick rfl rfl rfl rfl) rfl ?_
    refine XO.nk [(2, _), (7, _), (29, _)] (S3 rfl rfl rfl) ?_
    refine XC.condT rfl rfl ?_
    refine XC.sr ?_
    refine XO.v (V.makeIface rfl Tryz.underlying82 (by simp)) rfl ?_
    refine XO.as rfl rfl ?_
    refine XO.nk [(6, _)] (S1 rfl) ?_
    refine XC.ret ?_
    refine XE.thenRet ?_
    refine XE.ret1 rfl rfl (post_of .h1 rfl ?_)
    have e : seekE O n a = 1 := by unfold seekE; rw [if_neg (by omega), if_neg (by omega), if_pos (by omega)]
    exact ⟨by rw [e]; rfl, by unfold seekO; rw [if_neg (by omega)]⟩
   ·
    refine XO.guardRun rfl rfl rfl ?_
    refine XO.mv rfl rfl ?_
    refine XO.guardRun rfl rfl rfl ?_
    refine XO.v (V.cmp rfl rfl rfl) rfl ?_
    refine XO.v (V.pick rfl rfl rfl rfl) rfl ?_
    refine XO.nk [(2, _), (7, _), (29, _)] (S3 rfl rfl rfl) ?_
    refine XC.condP rfl (fun h3 => ?_) (fun h3 => ?_)
    ·
     refine XC.sr ?_
     refine XO.v (V.makeIface rfl Tryz.underlying82 (by simp)) rfl ?_
     refine XO.as rfl rfl ?_
     refine XO.nk [(6, _)] (S1 rfl) ?_
     refine XC.ret ?_
     refine XE.thenRet ?_
     refine XE.ret1 rfl rfl (post_of .h1 rfl ?_)
     have e : seekE O n a = 1 := by unfold seekE; rw [if_neg (by omega), if_neg (by omega), if_pos (by omega)]
     exact ⟨by rw [e]; rfl, by unfold seekO; rw [if_neg (by omega)]⟩
    ·
     refine XC.skip ?_
     refine XE.next ?_
     refine XC.keep [(2, _), (7, _)] (S2 rfl rfl) ?_
     refine XC.sr ?_
     refine XO.mv rfl rfl ?_
     refine XO.mv rfl rfl ?_
     refine XO.v (V.nilCheckP rfl) rfl ?_
     refine XO.v (V.fieldAddr rfl fo_86_2) rfl ?_
     refine XO.store rfl rfl .here (encO.st_o_at _ _ (by omega) _) rfl sz_3_1 ?_
     refine XO.nk [] (Sub.nil _) ?_
     refine XC.sr ?_
     refine XO.as rfl rfl ?_
     refine XO.nk [(6, _)] (S1 rfl) ?_
     refine XC.ret ?_
     refine XE.ret1 rfl rfl (post_of .h1 rfl ?_)
     have e : seekE O n a = 0 := by unfold seekE; rw [if_neg (by omega), if_neg (by omega), if_neg (by omega)]
     exact ⟨by rw [e]; rfl, by unfold seekO; rw [if_pos e]⟩
 ·
  refine XO.mv rfl rfl ?_
  refine XO.v (V.extract rfl rfl) rfl ?_
  refine XO.v (V.extract rfl rfl) rfl ?_
  refine XO.as rfl rfl ?_
  refine XO.as rfl rfl ?_
  refine XO.nk [(2, _), (7, _), (8, _)] (S3 rfl rfl rfl) ?_
  refine XC.seq ?_
  refine XC.sr ?_
  refine XO.mv rfl rfl ?_
  refine XO.v (V.ifaceNil rfl Tryz.underlying36 rfl) rfl ?_
  refine XO.nk [(2, _), (7, _), (8, _), (16, _)] (S4 rfl rfl rfl rfl) ?_
  refine XC.condT rfl rfl ?_
  refine XC.sr ?_
  refine XO.mv rfl rfl ?_
  refine XO.as rfl rfl ?_
  refine XO.nk [(6, _)] (S1 rfl) ?_
  refine XC.ret ?_
  refine XE.thenRet ?_
  refine XE.ret1 rfl rfl (post_of .h1 rfl ?_)
  have e : seekE O n a = O.is n := by unfold seekE; rw [if_pos i0]
  exact ⟨by rw [e, errv_pos _ i0], by unfold seekO; rw [if_neg (by omega)]⟩
set_option maxRecDepth 10000 in
set_option maxHeartbeats 1000000 in
theorem f_Of (bo oo bf bp : Nat) (O : OS) (n : Int) : Spec Tryz.prog 13 [ptr bo oo 0, .int .i64 n]
    [.cells bo oo 122 (encO bf bp O)]
    (fun v H1 => v = .tuple #[.int .i64 (ofx O n (O.kind n)), .int .i64 (ofx O n (O.n n)), .int .i64 (ofx O n (O.at_ n)), .int .i64 (ofx O n (O.refs n)), errv 82 (O.is n)] ∧ H1 = [.cells bo oo 122 (encO bf bp O)]) := by
 refine Spec.intro Tryz.func13 rfl rfl ?_
 intro W
 refine XC.sr ?_
 refine XO.as rfl rfl ?_
 refine XO.as rfl rfl ?_
 refine XO.as rfl rfl ?_
 refine XO.as rfl rfl ?_
 refine XO.as rfl rfl ?_
 refine XO.nk [(0, _), (1, _)] (S2 rfl rfl) ?_
 refine XC.sr ?_
 refine XO.mv rfl rfl ?_
 refine XO.mv rfl rfl ?_
 refine XO.call rfl (f_is _ _ _ _ _ _) .h1 cl_57 rfl ?_
 rintro _ _ (⟨⟨i0, i1, i2⟩, rfl, rfl⟩ | ⟨i0, rfl, rfl⟩)
 ·
  refine XO.mv rfl rfl ?_
  refine XO.v (V.extract rfl rfl) rfl ?_
  refine XO.v (V.extract rfl rfl) rfl ?_
  refine XO.as rfl rfl ?_
  refine XO.as rfl rfl ?_
  refine XO.nk [(8, _), (9, _)] (S2 rfl rfl) ?_
  refine XC.seq ?_
  refine XC.sr ?_
  refine XO.mv rfl rfl ?_
  refine XO.v (V.nilNil rfl Tryz.underlying36 rfl) rfl ?_
  refine XO.nk [(8, _), (9, _), (17, _)] (S3 rfl rfl rfl) ?_
  refine XC.condF rfl rfl ?_
  refine XC.skip ?_
  refine XE.next ?_
  refine XC.keep [(9, _)] (S1 rfl) ?_
  refine XC.seq ?_
  refine XC.regionQ mixed (f := 21) (l := #[false, false, false, false, false, false, false, false, false, false, false, false, false, false, false, false, false, false, false, false, false]) rfl rfl XM.drawn' ?_
  refine XQ.pv (i := 0) (l' := #[tt,ff,ff,ff,ff,ff,ff,ff,ff,ff,ff,ff,ff,ff,ff,ff,ff,ff,ff,ff,ff]) rfl (by kernel_rfl) rfl (V.move rfl) rfl rfl ?_
  refine XQ.pv (i := 1) (l' := #[tt,tt,ff,ff,ff,ff,ff,ff,ff,ff,ff,ff,ff,ff,ff,ff,ff,ff,ff,ff,ff]) rfl (by kernel_rfl) rfl (V.nilCheckP rfl) rfl rfl ?_
  refine XQ.pv (i := 2) (l' := #[tt,tt,tt,ff,ff,ff,ff,ff,ff,ff,ff,ff,ff,ff,ff,ff,ff,ff,ff,ff,ff]) rfl (by kernel_rfl) rfl (V.fieldAddr rfl fo_86_0) rfl rfl ?_
  refine XQ.load (i := 3) (l' := #[tt,tt,tt,tt,ff,ff,ff,ff,ff,ff,ff,ff,ff,ff,ff,ff,ff,ff,ff,ff,ff]) (.cells _ _ _ _) [] rfl (by kernel_rfl) rfl .here (V.load rfl inEnt (encO.ld_o_kind _ _ (by omega)) sc_3) rfl (by kernel_rfl) rfl ?_
  refine XQ.pv (i := 4) (l' := #[tt,tt,tt,tt,tt,ff,ff,ff,ff,ff,ff,ff,ff,ff,ff,ff,ff,ff,ff,ff,ff]) rfl (by kernel_rfl) rfl (V.move rfl) rfl rfl ?_
  refine XQ.pv (i := 5) (l' := #[tt,tt,tt,tt,tt,tt,ff,ff,ff,ff,ff,ff,ff,ff,ff,ff,ff,ff,ff,ff,ff]) rfl (by kernel_rfl) rfl (V.nilCheckP rfl) rfl rfl ?_
  refine XQ.pv (i := 6) (l' := #[tt,tt,tt,tt,tt,tt,tt,ff,ff,ff,ff,ff,ff,ff,ff,ff,ff,ff,ff,ff,ff]) rfl (by kernel_rfl) rfl (V.fieldAddr rfl fo_86_1) rfl rfl ?_
  refine XQ.load (i := 7) (l' := #[tt,tt,tt,tt,tt,tt,tt,tt,ff,ff,ff,ff,ff,ff,ff,ff,ff,ff,ff,ff,ff]) (.cells _ _ _ _) [] rfl (by kernel_rfl) rfl .here (V.load rfl inEnt (encO.ld_o_n _ _ (by omega)) sc_3) rfl (by kernel_rfl) rfl ?_
  refine XQ.pv (i := 8) (l' := #[tt,tt,tt,tt,tt,tt,tt,tt,tt,ff,ff,ff,ff,ff,ff,ff,ff,ff,ff,ff,ff]) rfl (by kernel_rfl) rfl (V.move rfl) rfl rfl ?_
  refine XQ.pv (i := 9) (l' := #[tt,tt,tt,tt,tt,tt,tt,tt,tt,tt,ff,ff,ff,ff,ff,ff,ff,ff,ff,ff,ff]) rfl (by kernel_rfl) rfl (V.nilCheckP rfl) rfl rfl ?_
  refine XQ.pv (i := 10) (l' := #[tt,tt,tt,tt,tt,tt,tt,tt,tt,tt,tt,ff,ff,ff,ff,ff,ff,ff,ff,ff,ff]) rfl (by kernel_rfl) rfl (V.fieldAddr rfl fo_86_2) rfl rfl ?_
  refine XQ.load (i := 11) (l' := #[tt,tt,tt,tt,tt,tt,tt,tt,tt,tt,tt,tt,ff,ff,ff,ff,ff,ff,ff,ff,ff]) (.cells _ _ _ _) [] rfl (by kernel_rfl) rfl .here (V.load rfl inEnt (encO.ld_o_at _ _ (by omega)) sc_3) rfl (by kernel_rfl) rfl ?_
  refine XQ.pv (i := 12) (l' := #[tt,tt,tt,tt,tt,tt,tt,tt,tt,tt,tt,tt,tt,ff,ff,ff,ff,ff,ff,ff,ff]) rfl (by kernel_rfl) rfl (V.move rfl) rfl rfl ?_
  refine XQ.pv (i := 13) (l' := #[tt,tt,tt,tt,tt,tt,tt,tt,tt,tt,tt,tt,tt,tt,ff,ff,ff,ff,ff,ff,ff]) rfl (by kernel_rfl) rfl (V.nilCheckP rfl) rfl rfl ?_
  refine XQ.pv (i := 14) (l' := #[tt,tt,tt,tt,tt,tt,tt,tt,tt,tt,tt,tt,tt,tt,tt,ff,ff,ff,ff,ff,ff]) rfl (by kernel_rfl) rfl (V.fieldAddr rfl fo_86_4) rfl rfl ?_
  refine XQ.load (i := 15) (l' := #[tt,tt,tt,tt,tt,tt,tt,tt,tt,tt,tt,tt,tt,tt,tt,tt,ff,ff,ff,ff,ff]) (.cells _ _ _ _) [] rfl (by kernel_rfl) rfl .here (V.load rfl inEnt (encO.ld_o_refs _ _ (by omega)) sc_3) rfl (by kernel_rfl) rfl ?_
  refine XQ.pv (i := 16) (l' := #[tt,tt,tt,tt,tt,tt,tt,tt,tt,tt,tt,tt,tt,tt,tt,tt,tt,ff,ff,ff,ff]) rfl (by kernel_rfl) rfl (V.assign rfl) rfl rfl ?_
  refine XQ.pv (i := 17) (l' := #[tt,tt,tt,tt,tt,tt,tt,tt,tt,tt,tt,tt,tt,tt,tt,tt,tt,tt,ff,ff,ff]) rfl (by kernel_rfl) rfl (V.assign rfl) rfl rfl ?_
  refine XQ.pv (i := 18) (l' := #[tt,tt,tt,tt,tt,tt,tt,tt,tt,tt,tt,tt,tt,tt,tt,tt,tt,tt,tt,ff,ff]) rfl (by kernel_rfl) rfl (V.assign rfl) rfl rfl ?_
  refine XQ.pv (i := 19) (l' := #[tt,tt,tt,tt,tt,tt,tt,tt,tt,tt,tt,tt,tt,tt,tt,tt,tt,tt,tt,tt,ff]) rfl (by kernel_rfl) rfl (V.assign rfl) rfl rfl ?_
  refine XQ.pv (i := 20) (l' := #[tt,tt,tt,tt,tt,tt,tt,tt,tt,tt,tt,tt,tt,tt,tt,tt,tt,tt,tt,tt,tt]) rfl (by kernel_rfl) rfl (V.assign rfl) rfl rfl ?_
  refine XQ.done (by kernel_rfl) ?_
  refine XE.next ?_
  refine XC.keep [(4, _), (5, _), (6, _), (7, _), (8, _)] (S5 rfl rfl rfl rfl rfl) ?_
  refine XC.ret ?_
  refine XE.ret5 rfl rfl rfl rfl rfl rfl (post_of .h1 rfl ?_)
  have e : ∀ x, ofx O n x = x := fun x => if_pos i0
  exact ⟨by rw [e, e, e, e, i0]; rfl, rfl⟩
 ·
  refine XO.mv rfl rfl ?_
  refine XO.v (V.extract rfl rfl) rfl ?_
  refine XO.v (V.extract rfl rfl) rfl ?_
  refine XO.as rfl rfl ?_
  refine XO.as rfl rfl ?_
  refine XO.nk [(8, _), (9, _)] (S2 rfl rfl) ?_
  refine XC.seq ?_
  refine XC.sr ?_
  refine XO.mv rfl rfl ?_
  refine XO.v (V.ifaceNil rfl Tryz.underlying36 rfl) rfl ?_
  refine XO.nk [(8, _), (9, _), (17, _)] (S3 rfl rfl rfl) ?_
  refine XC.condT rfl rfl ?_
  refine XC.sr ?_
  refine XO.mv rfl rfl ?_
  refine XO.as rfl rfl ?_
  refine XO.as rfl rfl ?_
  refine XO.as rfl rfl ?_
  refine XO.as rfl rfl ?_
  refine XO.as rfl rfl ?_
  refine XO.nk [(4, _), (5, _), (6, _), (7, _), (8, _)] (S5 rfl rfl rfl rfl rfl) ?_
  refine XC.ret ?_
  refine XE.thenRet ?_
  refine XE.ret5 rfl rfl rfl rfl rfl rfl (post_of .h1 rfl ?_)
  have e : ∀ x, ofx O n x = 0 := fun x => if_neg i0
  exact ⟨by rw [e, e, e, e, errv_pos _ i0], rfl⟩
set_option maxRecDepth 10000 in
set_option maxHeartbeats 1000000 in
theorem f_Room (bo oo bf bp : Nat) (O : OS) (J : Int) (hJ : J ≤ 1000000) (hO : O.Inv J) (m : Int) : Spec Tryz.prog 20 [ptr bo oo 0, .int .i64 m]
    [.cells bo oo 122 (encO bf bp O)]
    (fun v H1 => v = .bool (roomB O m) ∧ H1 = [.cells bo oo 122 (encO bf bp O)]) := by
 refine Spec.intro Tryz.func20 rfl rfl ?_
 intro W
 refine XC.sr ?_
 refine XO.as rfl rfl ?_
 refine XO.nk [(0, _), (1, _)] (S2 rfl rfl) ?_
 refine XC.sr ?_
 refine XO.mv rfl rfl ?_
 refine XO.v (V.cmp rfl rfl rfl) rfl ?_
 refine XO.mv rfl rfl ?_
 refine XO.splitP (d := 7) rfl (fun h1 => ?_) (fun h1 => ?_)
 ·
  refine XO.guardSkip rfl rfl rfl rfl rfl ?_
  refine XO.guardSkip rfl rfl rfl rfl rfl ?_
  refine XO.guardSkip rfl rfl rfl rfl rfl ?_
  refine XO.guardSkip rfl rfl rfl rfl rfl ?_
  refine XO.v (V.pick rfl rfl rfl rfl) rfl ?_
  refine XO.as rfl rfl ?_
  refine XO.nk [(4, _)] (S1 rfl) ?_
  refine XC.ret ?_
  refine XE.ret1 rfl rfl (post_of .h1 rfl ?_)
  have e : roomB O m = true := by unfold roomB; rw [decide_eq_true (show m < 1 by assumption), Bool.true_or]
  exact ⟨by rw [e]; rfl, rfl⟩
 ·
  refine XO.guardRun rfl rfl rfl ?_
  refine XO.mv rfl rfl ?_
  refine XO.guardRun rfl rfl rfl ?_
  refine XO.mv rfl rfl ?_
  refine XO.guardRun rfl rfl rfl ?_
  refine XO.call rfl (f_free _ _ _ _ _ _) .h1 cl_58 rfl ?_
  rintro _ _ (⟨f0, rfl, rfl⟩ | ⟨f0, p1, c1, rfl, rfl⟩)
  ·
   have hfn := OS.freeT_num (fun z z1 z2 => (hO.refs z z1 z2).1) m (by omega) 24 (Nat.le_refl 24)
   rw [show O.cntT 24 = O.opens from rfl] at hfn
   have hol := O.opens_le
   refine XO.guardRun rfl rfl rfl ?_
   refine XO.v (V.sliceNil rfl Tryz.underlying29 rfl) rfl ?_
   refine XO.v (V.pick rfl rfl rfl rfl) rfl ?_
   refine XO.as rfl rfl ?_
   refine XO.nk [(4, _)] (S1 rfl) ?_
   refine XC.ret ?_
   refine XE.ret1 rfl rfl (post_of .h1 rfl ?_)
   have e : roomB O m = false := by unfold roomB; rw [decide_eq_false (show ¬ m ≤ 24 - O.opens by omega), decide_eq_false (show ¬ m < 1 by omega)]; rfl
   exact ⟨by rw [e]; first | rfl | simp, rfl⟩
  ·
   have hfn := OS.freeT_num (fun z z1 z2 => (hO.refs z z1 z2).1) m (by omega) 24 (Nat.le_refl 24)
   rw [show O.cntT 24 = O.opens from rfl] at hfn
   have hol := O.opens_le
   refine XO.openRow .here (by show 0 < (O.freeT m 24).length; omega) ?_
   intro g hg
   subst hg
   refine XO.guardRun rfl rfl rfl ?_
   refine XO.v (V.sliceNil rfl Tryz.underlying29 rfl) rfl ?_
   refine XO.v (V.pick rfl rfl rfl rfl) rfl ?_
   refine XO.as rfl rfl ?_
   refine XO.nk [(4, _)] (S1 rfl) ?_
   refine XC.ret ?_
   refine XE.ret1 rfl rfl (post_of (.cons (.there .here) .nil) rfl ?_)
   have e : roomB O m = true := by unfold roomB; rw [decide_eq_true (show m ≤ 24 - O.opens by omega), Bool.or_true]
   exact ⟨by rw [e]; first | rfl | simp, rfl⟩
set_option maxRecDepth 10000 in
set_option maxHeartbeats 4000000 in
theorem f_Pipe (bo oo bf bp : Nat) (O : OS) (K : Int) (hK : K ≤ 1000000) (q : PS) (hq : q.Inv K) : Spec Tryz.prog 46 [ptr bo oo 0]
    [.cells bo oo 122 (encO bf bp O), .cells bp 0 24 (encP q)]
    (fun v H1 => v = .tuple #[.int .i64 (opipeV q O), .int .i64 (opipeU q O), errv 82 (opipeE q O)] ∧ H1 = [.cells bo oo 122 (encO bf bp (opipeO q O)), .cells bp 0 24 (encP (opipeP q O))]) := by
 refine Spec.intro Tryz.func46 rfl rfl ?_
 intro W
 refine XC.sr ?_
 refine XO.as rfl rfl ?_
 refine XO.as rfl rfl ?_
 refine XO.as rfl rfl ?_
 refine XO.nk [(0, _)] (S1 rfl) ?_
 refine XC.sr ?_
 refine XO.mv rfl rfl ?_
 refine XO.call rfl (f_free _ _ _ _ _ _) .h1 cl_58 rfl ?_
 rintro _ _ (⟨f0, rfl, rfl⟩ | ⟨f0, p1, c1, rfl, rfl⟩)
 ·
  refine XO.as rfl rfl ?_
  refine XO.nk [(0, _), (5, _)] (S2 rfl rfl) ?_
  refine XC.seq ?_
  refine XC.sr ?_
  refine XO.mv rfl rfl ?_
  refine XO.v (V.sliceNil rfl Tryz.underlying29 rfl) rfl ?_
  refine XO.nk [(0, _), (5, _), (11, _)] (S3 rfl rfl rfl) ?_
  refine XC.condTP rfl (rfl) ?_
  refine XC.sr ?_
  refine XO.v (V.makeIface rfl Tryz.underlying82 (by simp)) rfl ?_
  refine XO.as rfl rfl ?_
  refine XO.as rfl rfl ?_
  refine XO.as rfl rfl ?_
  refine XO.nk [(2, _), (3, _), (4, _)] (S3 rfl rfl rfl) ?_
  refine XC.ret ?_
  refine XE.thenRet ?_
  refine XE.ret3 rfl rfl rfl rfl (post_of .h2 rfl ?_)
  have hf := OS.free2_no f0
  have e : opipeE q O = 4 := by unfold opipeE; rw [if_pos hf]
  have eV : opipeV q O = 0 := by unfold opipeV; rw [if_neg (by omega)]
  have eU : opipeU q O = 0 := by unfold opipeU; rw [if_neg (by omega)]
  have eO : opipeO q O = O := by unfold opipeO; rw [if_neg (by omega)]
  have eP : opipeP q O = q := by unfold opipeP; rw [if_pos hf]
  exact ⟨by rw [e, eV, eU]; rfl, by rw [eO, eP]⟩
 ·
  obtain ⟨hf1, hf2, hf4⟩ := OS.free2_yes f0
  have hf3 := OS.first_ok hf1
  have hf5 : 0 ≤ O.second ∧ O.second < 24 := ⟨by omega, (OS.first_ok (s := O.lay O.first 2 0 false) hf2).2.1⟩
  have hf6 : ¬ (O.first < 0 ∨ O.second < 0) := by omega
  rw [hf4]
  refine XO.as rfl rfl ?_
  refine XO.nk [(0, _), (5, _)] (S2 rfl rfl) ?_
  refine XC.seq ?_
  refine XC.sr ?_
  refine XO.openRow .here (by show 0 < 2; omega) ?_
  intro g hg
  subst hg
  refine XO.mv rfl rfl ?_
  refine XO.v (V.sliceNil rfl Tryz.underlying29 rfl) rfl ?_
  refine XO.nk [(0, _), (5, _), (11, _)] (S3 rfl rfl rfl) ?_
  refine XC.condFP rfl (by simp) ?_
  refine XC.skip ?_
  refine XE.next ?_
  refine XC.keep [(0, _), (5, _)] (S2 rfl rfl) ?_
  refine XC.sr ?_
  refine XO.mv rfl rfl ?_
  refine XO.v (V.nilCheckP rfl) rfl ?_
  refine XO.v (V.fieldAddr rfl fo_89_1) rfl ?_
  refine XO.v (V.load rfl (inXM (.there .here)) (encO.ld_p _) sc_41) rfl ?_
  refine XO.call rfl (p_Make _ _ K hK q hq) (.cons (.t2 .here) .nil) cl_87 rfl ?_
  rintro _ _ ⟨rfl, rfl⟩
  refine XO.mv rfl rfl ?_
  refine XO.v (V.extract rfl rfl) rfl ?_
  refine XO.v (V.extract rfl rfl) rfl ?_
  refine XO.as rfl rfl ?_
  refine XO.as rfl rfl ?_
  refine XO.nk [(0, _), (5, _), (6, _), (7, _)] (S4 rfl rfl rfl rfl) ?_
  refine XC.seq ?_
  refine XC.sr ?_
  refine XO.mv rfl rfl ?_
  refine XO.v (V.errNil rfl Tryz.underlying36 rfl) rfl ?_
  refine XO.nk [(0, _), (5, _), (6, _), (7, _), (22, _)] (S5 rfl rfl rfl rfl rfl) ?_
  refine XC.condP rfl (fun h1 => ?_) (fun h1 => ?_)
  ·
   refine XC.sr ?_
   refine XO.mv rfl rfl ?_
   refine XO.as rfl rfl ?_
   refine XO.as rfl rfl ?_
   refine XO.as rfl rfl ?_
   refine XO.nk [(2, _), (3, _), (4, _)] (S3 rfl rfl rfl) ?_
   refine XC.ret ?_
   refine XE.thenRet ?_
   refine XE.ret3 rfl rfl rfl rfl (post_of (.cons (.t2 .here) .h1) rfl ?_)
   have e : opipeE q O = q.make.2.1 := by unfold opipeE; rw [if_neg hf6]
   have eV : opipeV q O = 0 := by unfold opipeV; rw [if_neg (by omega)]
   have eU : opipeU q O = 0 := by unfold opipeU; rw [if_neg (by omega)]
   have eO : opipeO q O = O := by unfold opipeO; rw [if_neg (by omega)]
   have eP : opipeP q O = q.make.2.2 := by unfold opipeP; rw [if_neg hf6]
   exact ⟨by rw [e, eV, eU], by rw [eO, eP]⟩
  ·
   refine XC.skip ?_
   refine XE.next ?_
   refine XC.keep [(0, _), (5, _), (6, _)] (S3 rfl rfl rfl) ?_
   refine XC.seq ?_
   refine XC.regionQ mixed (f := 10) (l := #[false, false, false, false, false, false, false, false, false, false]) rfl rfl XM.drawn' ?_
   refine XQ.pv (i := 0) (l' := #[tt,ff,ff,ff,ff,ff,ff,ff,ff,ff]) rfl (by kernel_rfl) rfl (V.move rfl) rfl rfl ?_
   refine XQ.pv (i := 1) (l' := #[tt,tt,ff,ff,ff,ff,ff,ff,ff,ff]) rfl (by kernel_rfl) rfl (V.move rfl) rfl rfl ?_
   refine XQ.pv (i := 2) (l' := #[tt,tt,tt,ff,ff,ff,ff,ff,ff,ff]) rfl (by kernel_rfl) rfl (V.indexSl rfl rfl sl_29 (by show (0 : Int) ≤ 0 ∧ (0 : Int) < 2; omega)) rfl rfl ?_
   refine XQ.load (i := 3) (l' := #[tt,tt,tt,tt,ff,ff,ff,ff,ff,ff]) (.row _ _ _ _ _) [9] rfl (by kernel_rfl) rfl (.there .here) (V.loadRow rfl inEnt (ints2a _ _) sc_3) rfl (by kernel_rfl) rfl ?_
   refine XQ.pv (i := 4) (l' := #[tt,tt,tt,tt,tt,ff,ff,ff,ff,ff]) rfl (by kernel_rfl) rfl (V.move rfl) rfl rfl ?_
   refine XQ.pv (i := 5) (l' := #[tt,tt,tt,tt,tt,tt,ff,ff,ff,ff]) rfl (by kernel_rfl) rfl (V.build (vs := #[(0, .int .i64 2), (1, .int .i64 q.make.1), (4, .int .i64 1)]) rfl (v := .agg (encO.arr ⟨2, q.make.1, 0, false, 1⟩)) (fun _ => by kernel_rfl)) rfl rfl ?_
   refine XQ.pv (i := 6) (l' := #[tt,tt,tt,tt,tt,tt,tt,ff,ff,ff]) rfl (by kernel_rfl) rfl (V.nilCheckP rfl) rfl rfl ?_
   refine XQ.pv (i := 7) (l' := #[tt,tt,tt,tt,tt,tt,tt,tt,ff,ff]) rfl (by kernel_rfl) rfl (V.fieldAddr rfl fo_89_2) rfl rfl ?_
   refine XQ.pv (i := 8) (l' := #[tt,tt,tt,tt,tt,tt,tt,tt,tt,ff]) rfl (by kernel_rfl) rfl (V.indexArr rfl rfl ar_87 ⟨hf3.1, hf3.2.1⟩) rfl rfl ?_
   refine XQ.storeAgg (i := 9) (l' := #[tt,tt,tt,tt,tt,tt,tt,tt,tt,tt]) rfl (by kernel_rfl) rfl rfl rfl (.t2 .here) (encO.put O O.first 2 q.make.1 false 1 ⟨hf3.1, hf3.2.1⟩) ⟨rfl, rfl⟩ sz_86_5 (fun _ hw' => ⟨fun hs => (hs 9 (by first | (simp; done) | (simp; rfl)) rfl).elim, trivial⟩) ?_
   refine XQ.done (by kernel_rfl) ?_
   refine XE.next ?_
   refine XC.keep [(0, _), (5, _), (6, _)] (S3 rfl rfl rfl) ?_
   refine XC.seq ?_
   refine XC.regionQ mixed (f := 10) (l := #[false, false, false, false, false, false, false, false, false, false]) rfl rfl XM.drawn' ?_
   refine XQ.pv (i := 0) (l' := #[tt,ff,ff,ff,ff,ff,ff,ff,ff,ff]) rfl (by kernel_rfl) rfl (V.move rfl) rfl rfl ?_
   refine XQ.pv (i := 1) (l' := #[tt,tt,ff,ff,ff,ff,ff,ff,ff,ff]) rfl (by kernel_rfl) rfl (V.move rfl) rfl rfl ?_
   refine XQ.pv (i := 2) (l' := #[tt,tt,tt,ff,ff,ff,ff,ff,ff,ff]) rfl (by kernel_rfl) rfl (V.indexSl rfl rfl sl_29 (by show (0 : Int) ≤ 1 ∧ (1 : Int) < 2; omega)) rfl rfl ?_
   refine XQ.load (i := 3) (l' := #[tt,tt,tt,tt,ff,ff,ff,ff,ff,ff]) (.row _ _ _ _ _) [9] rfl (by kernel_rfl) rfl (.there .here) (V.loadRow rfl inEnt (ints2b _ _) sc_3) rfl (by kernel_rfl) rfl ?_
   refine XQ.pv (i := 4) (l' := #[tt,tt,tt,tt,tt,ff,ff,ff,ff,ff]) rfl (by kernel_rfl) rfl (V.move rfl) rfl rfl ?_
   refine XQ.pv (i := 5) (l' := #[tt,tt,tt,tt,tt,tt,ff,ff,ff,ff]) rfl (by kernel_rfl) rfl (V.build (vs := #[(0, .int .i64 3), (1, .int .i64 q.make.1), (4, .int .i64 1)]) rfl (v := .agg (encO.arr ⟨3, q.make.1, 0, false, 1⟩)) (fun _ => by kernel_rfl)) rfl rfl ?_
   refine XQ.pv (i := 6) (l' := #[tt,tt,tt,tt,tt,tt,tt,ff,ff,ff]) rfl (by kernel_rfl) rfl (V.nilCheckP rfl) rfl rfl ?_
   refine XQ.pv (i := 7) (l' := #[tt,tt,tt,tt,tt,tt,tt,tt,ff,ff]) rfl (by kernel_rfl) rfl (V.fieldAddr rfl fo_89_2) rfl rfl ?_
   refine XQ.pv (i := 8) (l' := #[tt,tt,tt,tt,tt,tt,tt,tt,tt,ff]) rfl (by kernel_rfl) rfl (V.indexArr rfl rfl ar_87 hf5) rfl rfl ?_
   refine XQ.storeAgg (i := 9) (l' := #[tt,tt,tt,tt,tt,tt,tt,tt,tt,tt]) rfl (by kernel_rfl) rfl rfl rfl (.t2 .here) (encO.put (O.lay O.first 2 q.make.1 false) O.second 3 q.make.1 false 1 hf5) ⟨rfl, rfl⟩ sz_86_5 (fun _ hw' => ⟨fun hs => (hs 9 (by first | (simp; done) | (simp; rfl)) rfl).elim, trivial⟩) ?_
   refine XQ.done (by kernel_rfl) ?_
   refine XE.next ?_
   refine XC.keep [(5, _)] (S1 rfl) ?_
   refine XC.seq ?_
   refine XC.regionQ mixed (f := 9) (l := #[false, false, false, false, false, false, false, false, false]) rfl rfl XM.drawn' ?_
   refine XQ.pv (i := 0) (l' := #[tt,ff,ff,ff,ff,ff,ff,ff,ff]) rfl (by kernel_rfl) rfl (V.move rfl) rfl rfl ?_
   refine XQ.pv (i := 1) (l' := #[tt,tt,ff,ff,ff,ff,ff,ff,ff]) rfl (by kernel_rfl) rfl (V.indexSl rfl rfl sl_29 (by show (0 : Int) ≤ 0 ∧ (0 : Int) < 2; omega)) rfl rfl ?_
   refine XQ.load (i := 2) (l' := #[tt,tt,tt,ff,ff,ff,ff,ff,ff]) (.row _ _ _ _ _) [] rfl (by kernel_rfl) rfl (.there .here) (V.loadRow rfl inEnt (ints2a _ _) sc_3) rfl (by kernel_rfl) rfl ?_
   refine XQ.pv (i := 3) (l' := #[tt,tt,tt,tt,ff,ff,ff,ff,ff]) rfl (by kernel_rfl) rfl (V.move rfl) rfl rfl ?_
   refine XQ.pv (i := 4) (l' := #[tt,tt,tt,tt,tt,ff,ff,ff,ff]) rfl (by kernel_rfl) rfl (V.indexSl rfl rfl sl_29 (by show (0 : Int) ≤ 1 ∧ (1 : Int) < 2; omega)) rfl rfl ?_
   refine XQ.load (i := 5) (l' := #[tt,tt,tt,tt,tt,tt,ff,ff,ff]) (.row _ _ _ _ _) [] rfl (by kernel_rfl) rfl (.there .here) (V.loadRow rfl inEnt (ints2b _ _) sc_3) rfl (by kernel_rfl) rfl ?_
   refine XQ.pv (i := 6) (l' := #[tt,tt,tt,tt,tt,tt,tt,ff,ff]) rfl (by kernel_rfl) rfl (V.assign rfl) rfl rfl ?_
   refine XQ.pv (i := 7) (l' := #[tt,tt,tt,tt,tt,tt,tt,tt,ff]) rfl (by kernel_rfl) rfl (V.assign rfl) rfl rfl ?_
   refine XQ.pv (i := 8) (l' := #[tt,tt,tt,tt,tt,tt,tt,tt,tt]) rfl (by kernel_rfl) rfl (V.assign rfl) rfl rfl ?_
   refine XQ.done (by kernel_rfl) ?_
   refine XE.next ?_
   refine XC.keep [(2, _), (3, _), (4, _)] (S3 rfl rfl rfl) ?_
   refine XC.ret ?_
   refine XE.ret3 rfl rfl rfl rfl (post_of (.cons (.t2 .here) .h1) rfl ?_)
   have hz : q.make.2.1 = 0 := Decidable.byContradiction (by assumption)
   have e : opipeE q O = 0 := by unfold opipeE; rw [if_neg hf6, hz]
   have eV : opipeV q O = O.first := by unfold opipeV; rw [if_pos e]
   have eU : opipeU q O = O.second := by unfold opipeU; rw [if_pos e]
   have eO : opipeO q O = (O.lay O.first 2 q.make.1 false).lay O.second 3 q.make.1 false := by unfold opipeO; rw [if_pos e]
   have eP : opipeP q O = q.make.2.2 := by unfold opipeP; rw [if_neg hf6]
   exact ⟨by rw [e, eV, eU]; rfl, by rw [eO, eP]; rfl⟩
end Go.X
