import Derived.Test.YtmklfkjfgjagaaaGreatDoorXShort
import Derived.Test.YtmklfkjfgjagaaaGreatDoorYNW4
namespace Go.X
open Go Go.Proofs
theorem cl_80 : callable Tryz.prog 80 = true := by kernel_rfl
set_option maxRecDepth 10000 in
set_option maxHeartbeats 4000000 in
theorem t_Move (b o : Nat) (s : FC) (hI : s.toFF.Sh) (d : Int → Nat) (hc : ∀ k, s.toFF.Ch d k) (n : Int) (x : ByteArray) (to : Int) (y : ByteArray) (hy : y.size ≤ 9223372036854775807) : Spec Tryz.prog 35 [ptr b o 0, .int .i64 n, .string x, .int .i64 to, .string y]
    [.cells b o 321 (encF s), .fam fam40 (s.rowsN 9), .fam fam40 (s.rowsK 3)]
    (fun v H1 => v = errv 76 (s.moveE d n x to y) ∧ ∃ t : FC, t.toFF = s.move d n x to y ∧ t.rP = s.rP ∧ t.rC = s.rC ∧ H1 = [.cells b o 321 (encF t), .fam fam40 (FC.rowsN 9 t), .fam fam40 (FC.rowsK 3 t)]) := by
 refine Spec.intro Tryz.func35 rfl rfl ?_
 intro W
 refine XC.sr ?_
 refine XO.as rfl rfl ?_
 refine XO.nk [(0, _), (1, _), (2, _), (3, _), (4, _)] (S5 rfl rfl rfl rfl rfl) ?_
 refine XC.sr ?_
 refine XO.mv rfl rfl ?_
 refine XO.mv rfl rfl ?_
 refine XO.mv rfl rfl ?_
 refine XO.call rfl (t_Find _ _ _ hI _ _) .h3 cl_38 rfl ?_
 rintro _ _ ⟨rfl, rfl⟩
 refine XO.mv rfl rfl ?_
 refine XO.v (V.extract rfl rfl) rfl ?_
 refine XO.v (V.extract rfl rfl) rfl ?_
 refine XO.as rfl rfl ?_
 refine XO.as rfl rfl ?_
 refine XO.nk [(0, _), (1, _), (2, _), (3, _), (4, _), (11, _), (12, _)] (S7 rfl rfl rfl rfl rfl rfl rfl) ?_
 refine XC.seq ?_
 refine XC.sr ?_
 refine XO.mv rfl rfl ?_
 refine XO.v (V.errNil rfl Tryz.underlying37 rfl) rfl ?_
 refine XO.nk [(0, _), (1, _), (2, _), (3, _), (4, _), (11, _), (12, _), (21, _)] (S8 rfl rfl rfl rfl rfl rfl rfl rfl) ?_
 refine XC.condP rfl (fun h1 => ?_) (fun h1 => ?_)
 ·
  obtain ⟨i1, i2, i3, k1, k2, hh⟩ := hI.kid (show s.findE n x = 0 by simpa using h1)
  have f0 : s.findE n x = 0 := by simpa using h1
  refine XC.region ?_
  refine XO.mv rfl rfl ?_
  refine XO.mv rfl rfl ?_
  refine XO.call rfl (t_dir _ _ _ _) .h1 cl_79 rfl ?_
  rintro _ _ ⟨rfl, rfl⟩
  refine XO.as rfl rfl ?_
  refine XO.nk [(0, _), (1, _), (2, _), (3, _), (4, _), (11, _), (12, _)] (S7 rfl rfl rfl rfl rfl rfl rfl) ?_
  refine XC.seq ?_
  refine XC.sr ?_
  refine XO.mv rfl rfl ?_
  refine XO.v (V.errNil rfl Tryz.underlying37 rfl) rfl ?_
  refine XO.nk [(0, _), (1, _), (2, _), (3, _), (4, _), (11, _), (12, _), (26, _)] (S8 rfl rfl rfl rfl rfl rfl rfl rfl) ?_
  refine XC.condP rfl (fun h2 => ?_) (fun h2 => ?_)
  ·
   refine XC.sr ?_
   refine XO.mv rfl rfl ?_
   refine XO.as rfl rfl ?_
   refine XO.nk [(10, _)] (S1 rfl) ?_
   refine XC.ret ?_
   refine XE.thenRet ?_
   refine XE.ret1 rfl rfl (post_of .h3 rfl ?_)
   have e0 : s.moveE0 d n x to = s.isE to 2 := by unfold FF.moveE0; rw [if_neg (by omega), if_pos (by omega)]
   have e : s.moveE d n x to y = s.moveE0 d n x to := by unfold FF.moveE; rw [if_pos (by omega)]
   exact ⟨by rw [e, e0], s, by unfold FF.move; rw [if_pos (by omega)], rfl, rfl, rfl⟩
  ·
   obtain ⟨t1, t2, _, t3⟩ := FF.isE_k0 (show s.isE to 2 = 0 by simpa using h2)
   have t3 := t3 (by omega)
   have t0 : s.isE to 2 = 0 := by simpa using h2
   refine XC.skip ?_
   refine XE.next ?_
   refine XC.keep [(0, _), (1, _), (2, _), (3, _), (4, _), (11, _)] (S6 rfl rfl rfl rfl rfl rfl) ?_
   refine XC.seq ?_
   refine XC.seq ?_
   refine XC.regionQ mixed (f := 15) (l := #[false, false, false, false, false, false, false, false, false, false, false, false, false, false, false]) rfl rfl XM.drawn' ?_
   refine XQ.pv (i := 0) (l' := #[tt,ff,ff,ff,ff,ff,ff,ff,ff,ff,ff,ff,ff,ff,ff]) rfl (by kernel_rfl) rfl (V.move rfl) rfl rfl ?_
   refine XQ.pv (i := 1) (l' := #[tt,tt,ff,ff,ff,ff,ff,ff,ff,ff,ff,ff,ff,ff,ff]) rfl (by kernel_rfl) rfl (V.move rfl) rfl rfl ?_
   refine XQ.pv (i := 2) (l' := #[tt,tt,tt,ff,ff,ff,ff,ff,ff,ff,ff,ff,ff,ff,ff]) rfl (by kernel_rfl) rfl (V.nilCheckP rfl) rfl rfl ?_
   refine XQ.pv (i := 3) (l' := #[tt,tt,tt,tt,ff,ff,ff,ff,ff,ff,ff,ff,ff,ff,ff]) rfl (by kernel_rfl) rfl (V.fieldAddr rfl fo_72_0) rfl rfl ?_
   refine XQ.pv (i := 4) (l' := #[tt,tt,tt,tt,tt,ff,ff,ff,ff,ff,ff,ff,ff,ff,ff]) rfl (by kernel_rfl) rfl (V.indexArr rfl rfl ar_70 (by omega)) rfl rfl ?_
   refine XQ.pv (i := 5) (l' := #[tt,tt,tt,tt,tt,tt,ff,ff,ff,ff,ff,ff,ff,ff,ff]) rfl (by kernel_rfl) rfl (V.fieldAddr rfl fo_69_1) rfl rfl ?_
   refine XQ.load (i := 6) (l' := #[tt,tt,tt,tt,tt,tt,tt,ff,ff,ff,ff,ff,ff,ff,ff]) (.cells _ _ _ _) [] rfl (by kernel_rfl) rfl .here (V.load rfl inEnt (encF.ld_n_tree _ _ (by omega)) sc_3) rfl (by kernel_rfl) rfl ?_
   refine XQ.pv (i := 7) (l' := #[tt,tt,tt,tt,tt,tt,tt,tt,ff,ff,ff,ff,ff,ff,ff]) rfl (by kernel_rfl) rfl (V.move rfl) rfl rfl ?_
   refine XQ.pv (i := 8) (l' := #[tt,tt,tt,tt,tt,tt,tt,tt,tt,ff,ff,ff,ff,ff,ff]) rfl (by kernel_rfl) rfl (V.move rfl) rfl rfl ?_
   refine XQ.pv (i := 9) (l' := #[tt,tt,tt,tt,tt,tt,tt,tt,tt,tt,ff,ff,ff,ff,ff]) rfl (by kernel_rfl) rfl (V.nilCheckP rfl) rfl rfl ?_
   refine XQ.pv (i := 10) (l' := #[tt,tt,tt,tt,tt,tt,tt,tt,tt,tt,tt,ff,ff,ff,ff]) rfl (by kernel_rfl) rfl (V.fieldAddr rfl fo_72_0) rfl rfl ?_
   refine XQ.pv (i := 11) (l' := #[tt,tt,tt,tt,tt,tt,tt,tt,tt,tt,tt,tt,ff,ff,ff]) rfl (by kernel_rfl) rfl (V.indexArr rfl rfl ar_70 (by omega)) rfl rfl ?_
   refine XQ.pv (i := 12) (l' := #[tt,tt,tt,tt,tt,tt,tt,tt,tt,tt,tt,tt,tt,ff,ff]) rfl (by kernel_rfl) rfl (V.fieldAddr rfl fo_69_1) rfl rfl ?_
   refine XQ.load (i := 13) (l' := #[tt,tt,tt,tt,tt,tt,tt,tt,tt,tt,tt,tt,tt,tt,ff]) (.cells _ _ _ _) [] rfl (by kernel_rfl) rfl .here (V.load rfl inEnt (encF.ld_n_tree _ _ (by omega)) sc_3) rfl (by kernel_rfl) rfl ?_
   refine XQ.pv (i := 14) (l' := #[tt,tt,tt,tt,tt,tt,tt,tt,tt,tt,tt,tt,tt,tt,tt]) rfl (by kernel_rfl) rfl (V.cmp rfl rfl rfl) rfl rfl ?_
   refine XQ.done (by kernel_rfl) ?_
   refine XE.next ?_
   refine XC.keep [(0, _), (1, _), (2, _), (3, _), (4, _), (11, _), (42, _)] (S7 rfl rfl rfl rfl rfl rfl rfl) ?_
   refine XC.condP rfl (fun h3 => ?_) (fun h3 => ?_)
   ·
    refine XC.sr ?_
    refine XO.v (V.makeIface rfl Tryz.underlying76 (by simp)) rfl ?_
    refine XO.as rfl rfl ?_
    refine XO.nk [(10, _)] (S1 rfl) ?_
    refine XC.ret ?_
    refine XE.thenRet ?_
    refine XE.ret1 rfl rfl (post_of .h3 rfl ?_)
    have e0 : s.moveE0 d n x to = 11 := by unfold FF.moveE0; rw [if_neg (by omega), if_neg (by omega), if_pos (by assumption)]
    have e : s.moveE d n x to y = s.moveE0 d n x to := by unfold FF.moveE; rw [if_pos (by omega)]
    exact ⟨by rw [e, e0]; rfl, s, by unfold FF.move; rw [if_pos (by omega)], rfl, rfl, rfl⟩
   ·
    refine XC.skip ?_
    refine XE.next ?_
    refine XC.keep [(0, _), (1, _), (2, _), (3, _), (4, _), (11, _)] (S6 rfl rfl rfl rfl rfl rfl) ?_
    refine XC.seq ?_
    refine XC.sr ?_
    refine XO.mv rfl rfl ?_
    refine XO.mv rfl rfl ?_
    refine XO.v (V.nilCheckP rfl) rfl ?_
    refine XO.v (V.fieldAddr rfl fo_72_0) rfl ?_
    refine XO.v (V.indexArr rfl rfl ar_70 (by omega)) rfl ?_
    refine XO.v (V.fieldAddr rfl fo_69_0) rfl ?_
    refine XO.v (V.load rfl (inXM .here) (encF.ld_n_kind _ _ (by omega)) sc_3) rfl ?_
    refine XO.v (V.cmp rfl rfl rfl) rfl ?_
    refine XO.mv rfl rfl ?_
    refine XO.splitP (d := 52) rfl (fun h4 => ?_) (fun h4 => ?_)
    ·
     refine XO.guardRun rfl rfl rfl ?_
     refine XO.mv rfl rfl ?_
     refine XO.guardRun rfl rfl rfl ?_
     refine XO.mv rfl rfl ?_
     refine XO.guardRun rfl rfl rfl ?_
     refine XO.mv rfl rfl ?_
     refine XO.guardRun rfl rfl rfl ?_
     refine XO.call rfl (t_under _ _ _ d _ _ ⟨by omega, by omega, t3⟩ (hc _)) .h1 cl_80 rfl ?_
     rintro _ _ ⟨rfl, rfl⟩
     refine XO.v (V.pick rfl rfl rfl rfl) rfl ?_
     refine XO.nk [(0, _), (1, _), (2, _), (3, _), (4, _), (11, _), (57, _)] (S7 rfl rfl rfl rfl rfl rfl rfl) ?_
     refine XC.cond rfl (fun h5 => ?_) (fun h5 => ?_)
     ·
      try simp only [sb] at h5
      have hun : FF.und d s.toFF to (s.findV n x) = true := by simpa using h5
      refine XC.sr ?_
      refine XO.v (V.makeIface rfl Tryz.underlying76 (by simp)) rfl ?_
      refine XO.as rfl rfl ?_
      refine XO.nk [(10, _)] (S1 rfl) ?_
      refine XC.ret ?_
      refine XE.thenRet ?_
      refine XE.ret1 rfl rfl (post_of .h3 rfl ?_)
      have e0 : s.moveE0 d n x to = 5 := by unfold FF.moveE0; rw [if_neg (by omega), if_neg (by omega), if_neg (by omega), if_pos ⟨by assumption, hun⟩]
      have e : s.moveE d n x to y = s.moveE0 d n x to := by unfold FF.moveE; rw [if_pos (by omega)]
      exact ⟨by rw [e, e0]; rfl, s, by unfold FF.move; rw [if_pos (by omega)], rfl, rfl, rfl⟩
     ·
      try simp only [sb] at h5
      have hun : FF.und d s.toFF to (s.findV n x) = false := by simpa using h5
      refine XC.skip ?_
      refine XE.next ?_
      refine XC.keep [(0, _), (1, _), (2, _), (3, _), (4, _), (11, _)] (S6 rfl rfl rfl rfl rfl rfl) ?_
      refine XC.sr ?_
      refine XO.mv rfl rfl ?_
      refine XO.mv rfl rfl ?_
      refine XO.mv rfl rfl ?_
      refine XO.call rfl (t_cut _ _ _ hI _ _ (by omega) (by assumption)) .h3 cl_76 rfl ?_
      rintro _ _ ⟨rfl, t, ht, hp, hc0, rfl⟩
      have hI2 : t.toFF.Sh := by rw [ht]; exact hI.cutF i1 i2 hh
      refine XO.nk [(0, _), (1, _), (2, _), (3, _), (4, _), (11, _)] (S6 rfl rfl rfl rfl rfl rfl) ?_
      refine XC.sr ?_
      refine XO.mv rfl rfl ?_
      refine XO.mv rfl rfl ?_
      refine XO.mv rfl rfl ?_
      refine XO.call rfl (t_room _ _ _ hI2 _ _ (by assumption)) .h3 cl_68 rfl ?_
      rintro _ _ ⟨rfl, rfl⟩
      refine XO.as rfl rfl ?_
      refine XO.nk [(0, _), (1, _), (2, _), (3, _), (4, _), (11, _), (12, _)] (S7 rfl rfl rfl rfl rfl rfl rfl) ?_
      refine XC.seq ?_
      refine XC.sr ?_
      refine XO.mv rfl rfl ?_
      refine XO.v (V.errNil rfl Tryz.underlying37 rfl) rfl ?_
      refine XO.nk [(0, _), (1, _), (2, _), (3, _), (4, _), (11, _), (12, _), (68, _)] (S8 rfl rfl rfl rfl rfl rfl rfl rfl) ?_
      refine XC.condP rfl (fun h6 => ?_) (fun h6 => ?_)
      ·
       have hm : (s.cutF n x).roomE to y ≠ 0 := by rw [← ht]; assumption
       refine XC.sr ?_
       refine XO.mv rfl rfl ?_
       refine XO.mv rfl rfl ?_
       refine XO.mv rfl rfl ?_
       refine XO.mv rfl rfl ?_
       refine XO.call rfl (t_put _ _ _ hI2 _ _ _ (by omega)) .h3 cl_69 rfl ?_
       rintro _ _ ⟨rfl, t2, ht2, hp2, hc2, rfl⟩
       refine XO.nk [(12, _)] (S1 rfl) ?_
       refine XC.sr ?_
       refine XO.mv rfl rfl ?_
       refine XO.as rfl rfl ?_
       refine XO.nk [(10, _)] (S1 rfl) ?_
       refine XC.ret ?_
       refine XE.thenRet ?_
       refine XE.ret1 rfl rfl (post_of .h3 rfl ?_)
       have e0 : s.moveE0 d n x to = 0 := by unfold FF.moveE0; rw [if_neg (by omega), if_neg (by omega), if_neg (by omega), if_neg (fun q => absurd q.2 (by rw [hun]; simp))]
       have e : s.moveE d n x to y = (s.cutF n x).roomE to y := by unfold FF.moveE; rw [if_neg (by omega)]
       exact ⟨by rw [e, ht], t2, by rw [ht2, ht]; unfold FF.move; rw [if_neg (by omega), if_pos (by omega)], hp2.trans hp, hc2.trans hc0, rfl⟩
      ·
       have hm : (s.cutF n x).roomE to y = 0 := by rw [← ht]; simpa using h6
       refine XC.skip ?_
       refine XE.next ?_
       refine XC.keep [(0, _), (3, _), (4, _), (11, _)] (S4 rfl rfl rfl rfl) ?_
       refine XC.sr ?_
       refine XO.mv rfl rfl ?_
       refine XO.mv rfl rfl ?_
       refine XO.mv rfl rfl ?_
       refine XO.mv rfl rfl ?_
       refine XO.call rfl (t_put _ _ _ hI2 _ _ _ (by omega)) .h3 cl_69 rfl ?_
       rintro _ _ ⟨rfl, t2, ht2, hp2, hc2, rfl⟩
       have hkd : t2.kind (s.findV n x) = s.kind (s.findV n x) := (congrFun (congrArg FF.kind ht2) _).trans (congrFun (congrArg FF.kind ht) _)
       refine XO.nk [(0, _), (3, _), (11, _)] (S3 rfl rfl rfl) ?_
       refine XC.seq ?_
       refine XC.sr ?_
       refine XO.mv rfl rfl ?_
       refine XO.mv rfl rfl ?_
       refine XO.v (V.nilCheckP rfl) rfl ?_
       refine XO.v (V.fieldAddr rfl fo_72_0) rfl ?_
       refine XO.v (V.indexArr rfl rfl ar_70 (by omega)) rfl ?_
       refine XO.v (V.fieldAddr rfl fo_69_0) rfl ?_
       refine XO.v (V.load rfl (inXM .here) (encF.ld_n_kind _ _ (by omega)) sc_3) rfl ?_
       refine XO.v (V.cmp rfl rfl rfl) rfl ?_
       refine XO.nk [(0, _), (3, _), (11, _), (87, _)] (S4 rfl rfl rfl rfl) ?_
       refine XC.condP rfl (fun h7 => ?_) (fun h7 => ?_)
       ·
        refine XC.region ?_
        refine XO.mv rfl rfl ?_
        refine XO.mv rfl rfl ?_
        refine XO.mv rfl rfl ?_
        refine XO.v (V.nilCheckP rfl) rfl ?_
        refine XO.v (V.fieldAddr rfl fo_72_0) rfl ?_
        refine XO.v (V.indexArr rfl rfl ar_70 (by omega)) rfl ?_
        refine XO.v (V.fieldAddr rfl fo_69_7) rfl ?_
        refine XO.store rfl rfl .here (encF.st_n_up _ _ (by omega) _) rfl sz_3_1 ?_
        refine XO.nk [] (Sub.nil _) ?_
        refine XC.sr ?_
        refine XO.as rfl rfl ?_
        refine XO.nk [(10, _)] (S1 rfl) ?_
        refine XC.ret ?_
        refine XE.ret1 rfl rfl (post_of .h3 rfl ?_)
        have e0 : s.moveE0 d n x to = 0 := by unfold FF.moveE0; rw [if_neg (by omega), if_neg (by omega), if_neg (by omega), if_neg (fun q => absurd q.2 (by rw [hun]; simp))]
        have e : s.moveE d n x to y = (s.cutF n x).roomE to y := by unfold FF.moveE; rw [if_neg (by omega)]
        exact ⟨by rw [e, hm]; rfl, ({ t2 with up := fset t2.up (s.findV n x) to } : FC), by rw [up_of ht2, ht]; unfold FF.move; rw [if_neg (by omega), if_neg (by omega), if_pos (by omega)]; rfl, hp2.trans hp, hc2.trans hc0, rfl⟩
       ·
        refine XC.skip ?_
        refine XE.next ?_
        refine XC.keep [] (Sub.nil _) ?_
        refine XC.sr ?_
        refine XO.as rfl rfl ?_
        refine XO.nk [(10, _)] (S1 rfl) ?_
        refine XC.ret ?_
        refine XE.ret1 rfl rfl (post_of .h3 rfl ?_)
        have e0 : s.moveE0 d n x to = 0 := by unfold FF.moveE0; rw [if_neg (by omega), if_neg (by omega), if_neg (by omega), if_neg (fun q => absurd q.2 (by rw [hun]; simp))]
        have e : s.moveE d n x to y = (s.cutF n x).roomE to y := by unfold FF.moveE; rw [if_neg (by omega)]
        exact ⟨by rw [e, hm]; rfl, t2, by rw [ht2, ht]; unfold FF.move; rw [if_neg (by omega), if_neg (by omega), if_neg (by omega)], hp2.trans hp, hc2.trans hc0, rfl⟩
    ·
     refine XO.guardSkip rfl rfl rfl rfl rfl ?_
     refine XO.guardSkip rfl rfl rfl rfl rfl ?_
     refine XO.guardSkip rfl rfl rfl rfl rfl ?_
     refine XO.guardSkip rfl rfl rfl rfl rfl ?_
     refine XO.v (V.pick rfl rfl rfl rfl) rfl ?_
     refine XO.nk [(0, _), (1, _), (2, _), (3, _), (4, _), (11, _), (57, _)] (S7 rfl rfl rfl rfl rfl rfl rfl) ?_
     refine XC.condF rfl rfl ?_
     refine XC.skip ?_
     refine XE.next ?_
     refine XC.keep [(0, _), (1, _), (2, _), (3, _), (4, _), (11, _)] (S6 rfl rfl rfl rfl rfl rfl) ?_
     refine XC.sr ?_
     refine XO.mv rfl rfl ?_
     refine XO.mv rfl rfl ?_
     refine XO.mv rfl rfl ?_
     refine XO.call rfl (t_cut _ _ _ hI _ _ (by omega) (by assumption)) .h3 cl_76 rfl ?_
     rintro _ _ ⟨rfl, t, ht, hp, hc0, rfl⟩
     have hI2 : t.toFF.Sh := by rw [ht]; exact hI.cutF i1 i2 hh
     refine XO.nk [(0, _), (1, _), (2, _), (3, _), (4, _), (11, _)] (S6 rfl rfl rfl rfl rfl rfl) ?_
     refine XC.sr ?_
     refine XO.mv rfl rfl ?_
     refine XO.mv rfl rfl ?_
     refine XO.mv rfl rfl ?_
     refine XO.call rfl (t_room _ _ _ hI2 _ _ (by assumption)) .h3 cl_68 rfl ?_
     rintro _ _ ⟨rfl, rfl⟩
     refine XO.as rfl rfl ?_
     refine XO.nk [(0, _), (1, _), (2, _), (3, _), (4, _), (11, _), (12, _)] (S7 rfl rfl rfl rfl rfl rfl rfl) ?_
     refine XC.seq ?_
     refine XC.sr ?_
     refine XO.mv rfl rfl ?_
     refine XO.v (V.errNil rfl Tryz.underlying37 rfl) rfl ?_
     refine XO.nk [(0, _), (1, _), (2, _), (3, _), (4, _), (11, _), (12, _), (68, _)] (S8 rfl rfl rfl rfl rfl rfl rfl rfl) ?_
     refine XC.condP rfl (fun h8 => ?_) (fun h8 => ?_)
     ·
      have hm : (s.cutF n x).roomE to y ≠ 0 := by rw [← ht]; assumption
      refine XC.sr ?_
      refine XO.mv rfl rfl ?_
      refine XO.mv rfl rfl ?_
      refine XO.mv rfl rfl ?_
      refine XO.mv rfl rfl ?_
      refine XO.call rfl (t_put _ _ _ hI2 _ _ _ (by omega)) .h3 cl_69 rfl ?_
      rintro _ _ ⟨rfl, t2, ht2, hp2, hc2, rfl⟩
      refine XO.nk [(12, _)] (S1 rfl) ?_
      refine XC.sr ?_
      refine XO.mv rfl rfl ?_
      refine XO.as rfl rfl ?_
      refine XO.nk [(10, _)] (S1 rfl) ?_
      refine XC.ret ?_
      refine XE.thenRet ?_
      refine XE.ret1 rfl rfl (post_of .h3 rfl ?_)
      have e0 : s.moveE0 d n x to = 0 := by unfold FF.moveE0; rw [if_neg (by omega), if_neg (by omega), if_neg (by omega), if_neg (fun q => absurd q.1 (by assumption))]
      have e : s.moveE d n x to y = (s.cutF n x).roomE to y := by unfold FF.moveE; rw [if_neg (by omega)]
      exact ⟨by rw [e, ht], t2, by rw [ht2, ht]; unfold FF.move; rw [if_neg (by omega), if_pos (by omega)], hp2.trans hp, hc2.trans hc0, rfl⟩
     ·
      have hm : (s.cutF n x).roomE to y = 0 := by rw [← ht]; simpa using h8
      refine XC.skip ?_
      refine XE.next ?_
      refine XC.keep [(0, _), (3, _), (4, _), (11, _)] (S4 rfl rfl rfl rfl) ?_
      refine XC.sr ?_
      refine XO.mv rfl rfl ?_
      refine XO.mv rfl rfl ?_
      refine XO.mv rfl rfl ?_
      refine XO.mv rfl rfl ?_
      refine XO.call rfl (t_put _ _ _ hI2 _ _ _ (by omega)) .h3 cl_69 rfl ?_
      rintro _ _ ⟨rfl, t2, ht2, hp2, hc2, rfl⟩
      have hkd : t2.kind (s.findV n x) = s.kind (s.findV n x) := (congrFun (congrArg FF.kind ht2) _).trans (congrFun (congrArg FF.kind ht) _)
      refine XO.nk [(0, _), (3, _), (11, _)] (S3 rfl rfl rfl) ?_
      refine XC.seq ?_
      refine XC.sr ?_
      refine XO.mv rfl rfl ?_
      refine XO.mv rfl rfl ?_
      refine XO.v (V.nilCheckP rfl) rfl ?_
      refine XO.v (V.fieldAddr rfl fo_72_0) rfl ?_
      refine XO.v (V.indexArr rfl rfl ar_70 (by omega)) rfl ?_
      refine XO.v (V.fieldAddr rfl fo_69_0) rfl ?_
      refine XO.v (V.load rfl (inXM .here) (encF.ld_n_kind _ _ (by omega)) sc_3) rfl ?_
      refine XO.v (V.cmp rfl rfl rfl) rfl ?_
      refine XO.nk [(0, _), (3, _), (11, _), (87, _)] (S4 rfl rfl rfl rfl) ?_
      refine XC.condP rfl (fun h9 => ?_) (fun h9 => ?_)
      ·
       refine XC.region ?_
       refine XO.mv rfl rfl ?_
       refine XO.mv rfl rfl ?_
       refine XO.mv rfl rfl ?_
       refine XO.v (V.nilCheckP rfl) rfl ?_
       refine XO.v (V.fieldAddr rfl fo_72_0) rfl ?_
       refine XO.v (V.indexArr rfl rfl ar_70 (by omega)) rfl ?_
       refine XO.v (V.fieldAddr rfl fo_69_7) rfl ?_
       refine XO.store rfl rfl .here (encF.st_n_up _ _ (by omega) _) rfl sz_3_1 ?_
       refine XO.nk [] (Sub.nil _) ?_
       refine XC.sr ?_
       refine XO.as rfl rfl ?_
       refine XO.nk [(10, _)] (S1 rfl) ?_
       refine XC.ret ?_
       refine XE.ret1 rfl rfl (post_of .h3 rfl ?_)
       have e0 : s.moveE0 d n x to = 0 := by unfold FF.moveE0; rw [if_neg (by omega), if_neg (by omega), if_neg (by omega), if_neg (fun q => absurd q.1 (by assumption))]
       have e : s.moveE d n x to y = (s.cutF n x).roomE to y := by unfold FF.moveE; rw [if_neg (by omega)]
       exact ⟨by rw [e, hm]; rfl, ({ t2 with up := fset t2.up (s.findV n x) to } : FC), by rw [up_of ht2, ht]; unfold FF.move; rw [if_neg (by omega), if_neg (by omega), if_pos (by omega)]; rfl, hp2.trans hp, hc2.trans hc0, rfl⟩
      ·
       refine XC.skip ?_
       refine XE.next ?_
       refine XC.keep [] (Sub.nil _) ?_
       refine XC.sr ?_
       refine XO.as rfl rfl ?_
       refine XO.nk [(10, _)] (S1 rfl) ?_
       refine XC.ret ?_
       refine XE.ret1 rfl rfl (post_of .h3 rfl ?_)
       have e0 : s.moveE0 d n x to = 0 := by unfold FF.moveE0; rw [if_neg (by omega), if_neg (by omega), if_neg (by omega), if_neg (fun q => absurd q.1 (by assumption))]
       have e : s.moveE d n x to y = (s.cutF n x).roomE to y := by unfold FF.moveE; rw [if_neg (by omega)]
       exact ⟨by rw [e, hm]; rfl, t2, by rw [ht2, ht]; unfold FF.move; rw [if_neg (by omega), if_neg (by omega), if_neg (by omega)], hp2.trans hp, hc2.trans hc0, rfl⟩
 ·
  have f0 : s.findE n x ≠ 0 := by assumption
  refine XC.skip ?_
  refine XE.next ?_
  refine XC.keep [(0, _), (1, _), (2, _), (3, _), (4, _), (11, _), (12, _)] (S7 rfl rfl rfl rfl rfl rfl rfl) ?_
  refine XC.seq ?_
  refine XC.sr ?_
  refine XO.mv rfl rfl ?_
  refine XO.v (V.errNil rfl Tryz.underlying37 rfl) rfl ?_
  refine XO.nk [(0, _), (1, _), (2, _), (3, _), (4, _), (11, _), (12, _), (26, _)] (S8 rfl rfl rfl rfl rfl rfl rfl rfl) ?_
  refine XC.condTP rfl (by assumption) ?_
  refine XC.sr ?_
  refine XO.mv rfl rfl ?_
  refine XO.as rfl rfl ?_
  refine XO.nk [(10, _)] (S1 rfl) ?_
  refine XC.ret ?_
  refine XE.thenRet ?_
  refine XE.ret1 rfl rfl (post_of .h3 rfl ?_)
  have e0 : s.moveE0 d n x to = s.findE n x := by unfold FF.moveE0; rw [if_pos (by omega)]
  have e : s.moveE d n x to y = s.moveE0 d n x to := by unfold FF.moveE; rw [if_pos (by omega)]
  exact ⟨by rw [e, e0], s, by unfold FF.move; rw [if_pos (by omega)], rfl, rfl, rfl⟩
end Go.X
