import Derived.Test.YtmklfkjfgjagaaaNW4
namespace Go.X
open Go Go.Proofs
theorem cl_66 : callable Try.prog 66 = true := by kernel_rfl
set_option maxRecDepth 10000 in
set_option maxHeartbeats 4000000 in
theorem t_Move (b o : Nat) (s : FC) (hI : s.toFF.Sh) (d : Int → Nat) (hc : ∀ k, s.toFF.Ch d k) (n : Int) (x : ByteArray) (to : Int) (y : ByteArray) (hy : y.size ≤ 9223372036854775807) : Spec Try.prog 24 [ptr b o 0, .int .i64 n, .string x, .int .i64 to, .string y]
    [.cells b o 321 (encF s), .fam fam40 (s.rowsN 9), .fam fam40 (s.rowsK 3)]
    (fun v H1 => v = errv 100 (s.moveE d n x to y) ∧ ∃ t : FC, t.toFF = s.move d n x to y ∧ t.rP = s.rP ∧ t.rC = s.rC ∧ H1 = [.cells b o 321 (encF t), .fam fam40 (FC.rowsN 9 t), .fam fam40 (FC.rowsK 3 t)]) := by
  refine Spec.intro Try.func24 rfl rfl ?_
  intro W
  refine XC.seq ?_
  refine XC.region ?_
  refine XO.v (V.assign rfl) rfl ?_
  refine XO.nil ?_
  refine XE.next ?_
  refine XC.keep [(0, _), (1, _), (2, _), (3, _), (4, _)] (Sub.cons rfl (Sub.cons rfl (Sub.cons rfl (Sub.cons rfl (Sub.cons rfl (Sub.nil _)))))) ?_
  refine XC.seq ?_
  refine XC.region ?_
  refine XO.v (V.move rfl) rfl ?_
  refine XO.v (V.move rfl) rfl ?_
  refine XO.v (V.move rfl) rfl ?_
  refine XO.call rfl (t_Find _ _ _ hI _ _) (.cons .here (.cons .here (.cons .here .nil))) cl_20 rfl ?_
  rintro _ _ ⟨rfl, rfl⟩
  refine XO.v (V.move rfl) rfl ?_
  refine XO.v (V.extract rfl rfl) rfl ?_
  refine XO.v (V.extract rfl rfl) rfl ?_
  refine XO.v (V.assign rfl) rfl ?_
  refine XO.v (V.assign rfl) rfl ?_
  refine XO.nil ?_
  refine XE.next ?_
  refine XC.keep [(0, _), (1, _), (2, _), (3, _), (4, _), (11, _), (12, _)] (Sub.cons rfl (Sub.cons rfl (Sub.cons rfl (Sub.cons rfl (Sub.cons rfl (Sub.cons rfl (Sub.cons rfl (Sub.nil _)))))))) ?_
  refine XC.seq ?_
  refine XC.seq ?_
  refine XC.region ?_
  refine XO.v (V.move rfl) rfl ?_
  refine XO.v (V.errNil rfl Try.underlying43 rfl) rfl ?_
  refine XO.nil ?_
  refine XE.next ?_
  refine XC.keep [(0, _), (1, _), (2, _), (3, _), (4, _), (11, _), (12, _), (21, _)] (Sub.cons rfl (Sub.cons rfl (Sub.cons rfl (Sub.cons rfl (Sub.cons rfl (Sub.cons rfl (Sub.cons rfl (Sub.cons rfl (Sub.nil _))))))))) ?_
  refine XC.condP rfl (fun h1 => ?_) (fun h1 => ?_)
  · skip
    obtain ⟨i1, i2, i3, k1, k2, hh⟩ := hI.kid (show s.findE n x = 0 by simpa using h1)
    have f0 : s.findE n x = 0 := by simpa using h1
    refine XC.region ?_
    refine XO.v (V.move rfl) rfl ?_
    refine XO.v (V.move rfl) rfl ?_
    refine XO.call rfl (t_dir _ _ _ _) (.cons .here .nil) cl_62 rfl ?_
    rintro _ _ ⟨rfl, rfl⟩
    refine XO.v (V.assign rfl) rfl ?_
    refine XO.nil ?_
    refine XE.next ?_
    refine XC.keep [(0, _), (1, _), (2, _), (3, _), (4, _), (11, _), (12, _)] (Sub.cons rfl (Sub.cons rfl (Sub.cons rfl (Sub.cons rfl (Sub.cons rfl (Sub.cons rfl (Sub.cons rfl (Sub.nil _)))))))) ?_
    refine XC.seq ?_
    refine XC.seq ?_
    refine XC.region ?_
    refine XO.v (V.move rfl) rfl ?_
    refine XO.v (V.errNil rfl Try.underlying43 rfl) rfl ?_
    refine XO.nil ?_
    refine XE.next ?_
    refine XC.keep [(0, _), (1, _), (2, _), (3, _), (4, _), (11, _), (12, _), (26, _)] (Sub.cons rfl (Sub.cons rfl (Sub.cons rfl (Sub.cons rfl (Sub.cons rfl (Sub.cons rfl (Sub.cons rfl (Sub.cons rfl (Sub.nil _))))))))) ?_
    refine XC.condP rfl (fun h2 => ?_) (fun h2 => ?_)
    · skip
      refine XC.seq ?_
      refine XC.region ?_
      refine XO.v (V.move rfl) rfl ?_
      refine XO.v (V.assign rfl) rfl ?_
      refine XO.nil ?_
      refine XE.next ?_
      refine XC.keep [(10, _)] (Sub.cons rfl (Sub.nil _)) ?_
      refine XC.ret ?_
      refine XE.thenRet ?_
      refine XE.ret1 rfl rfl (post_of (.cons .here (.cons .here (.cons .here .nil))) rfl ?_)
      have e0 : s.moveE0 d n x to = s.isE to 2 := by unfold FF.moveE0; rw [if_neg (by omega), if_pos (by omega)]
      have e : s.moveE d n x to y = s.moveE0 d n x to := by unfold FF.moveE; rw [if_pos (by omega)]
      exact ⟨by rw [e, e0], s, by unfold FF.move; rw [if_pos (by omega)], rfl, rfl, rfl⟩
    · skip
      obtain ⟨t1, t2, _, t3⟩ := FF.isE_k0 (show s.isE to 2 = 0 by simpa using h2)
      have t3 := t3 (by omega)
      have t0 : s.isE to 2 = 0 := by simpa using h2
      refine XC.skip ?_
      refine XE.next ?_
      refine XC.keep [(0, _), (1, _), (2, _), (3, _), (4, _), (11, _)] (Sub.cons rfl (Sub.cons rfl (Sub.cons rfl (Sub.cons rfl (Sub.cons rfl (Sub.cons rfl (Sub.nil _))))))) ?_
      refine XC.seq ?_
      refine XC.seq ?_
      refine XC.regionQ mixed (f := 15) (l := #[false, false, false, false, false, false, false, false, false, false, false, false, false, false, false]) rfl rfl XM.drawn' ?_
      refine XQ.pv (i := 0) (l' := #[true, false, false, false, false, false, false, false, false, false, false, false, false, false, false]) rfl (by kernel_rfl) rfl (V.move rfl) rfl rfl ?_
      refine XQ.pv (i := 1) (l' := #[true, true, false, false, false, false, false, false, false, false, false, false, false, false, false]) rfl (by kernel_rfl) rfl (V.move rfl) rfl rfl ?_
      refine XQ.pv (i := 2) (l' := #[true, true, true, false, false, false, false, false, false, false, false, false, false, false, false]) rfl (by kernel_rfl) rfl (V.nilCheckP rfl) rfl rfl ?_
      refine XQ.pv (i := 3) (l' := #[true, true, true, true, false, false, false, false, false, false, false, false, false, false, false]) rfl (by kernel_rfl) rfl (V.fieldAddr rfl fo_82_0) rfl rfl ?_
      refine XQ.pv (i := 4) (l' := #[true, true, true, true, true, false, false, false, false, false, false, false, false, false, false]) rfl (by kernel_rfl) rfl (V.indexArr rfl rfl ar_80 (by omega)) rfl rfl ?_
      refine XQ.pv (i := 5) (l' := #[true, true, true, true, true, true, false, false, false, false, false, false, false, false, false]) rfl (by kernel_rfl) rfl (V.fieldAddr rfl fo_79_1) rfl rfl ?_
      refine XQ.load (i := 6) (l' := #[true, true, true, true, true, true, true, false, false, false, false, false, false, false, false]) (.cells _ _ _ _) [] rfl (by kernel_rfl) rfl .here (V.load rfl inEnt (encF.ld_n_tree _ _ (by omega)) sc_3) rfl (by kernel_rfl) rfl ?_
      refine XQ.pv (i := 7) (l' := #[true, true, true, true, true, true, true, true, false, false, false, false, false, false, false]) rfl (by kernel_rfl) rfl (V.move rfl) rfl rfl ?_
      refine XQ.pv (i := 8) (l' := #[true, true, true, true, true, true, true, true, true, false, false, false, false, false, false]) rfl (by kernel_rfl) rfl (V.move rfl) rfl rfl ?_
      refine XQ.pv (i := 9) (l' := #[true, true, true, true, true, true, true, true, true, true, false, false, false, false, false]) rfl (by kernel_rfl) rfl (V.nilCheckP rfl) rfl rfl ?_
      refine XQ.pv (i := 10) (l' := #[true, true, true, true, true, true, true, true, true, true, true, false, false, false, false]) rfl (by kernel_rfl) rfl (V.fieldAddr rfl fo_82_0) rfl rfl ?_
      refine XQ.pv (i := 11) (l' := #[true, true, true, true, true, true, true, true, true, true, true, true, false, false, false]) rfl (by kernel_rfl) rfl (V.indexArr rfl rfl ar_80 (by omega)) rfl rfl ?_
      refine XQ.pv (i := 12) (l' := #[true, true, true, true, true, true, true, true, true, true, true, true, true, false, false]) rfl (by kernel_rfl) rfl (V.fieldAddr rfl fo_79_1) rfl rfl ?_
      refine XQ.load (i := 13) (l' := #[true, true, true, true, true, true, true, true, true, true, true, true, true, true, false]) (.cells _ _ _ _) [] rfl (by kernel_rfl) rfl .here (V.load rfl inEnt (encF.ld_n_tree _ _ (by omega)) sc_3) rfl (by kernel_rfl) rfl ?_
      refine XQ.pv (i := 14) (l' := #[true, true, true, true, true, true, true, true, true, true, true, true, true, true, true]) rfl (by kernel_rfl) rfl (V.cmp rfl rfl rfl) rfl rfl ?_
      refine XQ.done (by kernel_rfl) ?_
      refine XE.next ?_
      refine XC.keep [(0, _), (1, _), (2, _), (3, _), (4, _), (11, _), (42, _)] (Sub.cons rfl (Sub.cons rfl (Sub.cons rfl (Sub.cons rfl (Sub.cons rfl (Sub.cons rfl (Sub.cons rfl (Sub.nil _)))))))) ?_
      refine XC.condP rfl (fun h3 => ?_) (fun h3 => ?_)
      · skip
        refine XC.seq ?_
        refine XC.region ?_
        refine XO.v (V.makeIface rfl Try.underlying100 (by simp)) rfl ?_
        refine XO.v (V.assign rfl) rfl ?_
        refine XO.nil ?_
        refine XE.next ?_
        refine XC.keep [(10, _)] (Sub.cons rfl (Sub.nil _)) ?_
        refine XC.ret ?_
        refine XE.thenRet ?_
        refine XE.ret1 rfl rfl (post_of (.cons .here (.cons .here (.cons .here .nil))) rfl ?_)
        have e0 : s.moveE0 d n x to = 11 := by unfold FF.moveE0; rw [if_neg (by omega), if_neg (by omega), if_pos (by assumption)]
        have e : s.moveE d n x to y = s.moveE0 d n x to := by unfold FF.moveE; rw [if_pos (by omega)]
        exact ⟨by rw [e, e0]; rfl, s, by unfold FF.move; rw [if_pos (by omega)], rfl, rfl, rfl⟩
      · skip
        refine XC.skip ?_
        refine XE.next ?_
        refine XC.keep [(0, _), (1, _), (2, _), (3, _), (4, _), (11, _)] (Sub.cons rfl (Sub.cons rfl (Sub.cons rfl (Sub.cons rfl (Sub.cons rfl (Sub.cons rfl (Sub.nil _))))))) ?_
        refine XC.seq ?_
        refine XC.seq ?_
        refine XC.region ?_
        refine XO.v (V.move rfl) rfl ?_
        refine XO.v (V.move rfl) rfl ?_
        refine XO.v (V.nilCheckP rfl) rfl ?_
        refine XO.v (V.fieldAddr rfl fo_82_0) rfl ?_
        refine XO.v (V.indexArr rfl rfl ar_80 (by omega)) rfl ?_
        refine XO.v (V.fieldAddr rfl fo_79_0) rfl ?_
        refine XO.v (V.load rfl (inXM .here) (encF.ld_n_kind _ _ (by omega)) sc_3) rfl ?_
        refine XO.v (V.cmp rfl rfl rfl) rfl ?_
        refine XO.v (V.move rfl) rfl ?_
        refine XO.splitP (d := 52) rfl (fun h4 => ?_) (fun h4 => ?_)
        · skip
          refine XO.guardRun rfl rfl rfl ?_
          refine XO.v (V.move rfl) rfl ?_
          refine XO.guardRun rfl rfl rfl ?_
          refine XO.v (V.move rfl) rfl ?_
          refine XO.guardRun rfl rfl rfl ?_
          refine XO.v (V.move rfl) rfl ?_
          refine XO.guardRun rfl rfl rfl ?_
          refine XO.call rfl (t_under _ _ _ d _ _ ⟨by omega, by omega, t3⟩ (hc _)) (.cons .here .nil) cl_66 rfl ?_
          rintro _ _ ⟨rfl, rfl⟩
          refine XO.v (V.pick rfl rfl rfl rfl) rfl ?_
          refine XO.nil ?_
          refine XE.next ?_
          refine XC.keep [(0, _), (1, _), (2, _), (3, _), (4, _), (11, _), (57, _)] (Sub.cons rfl (Sub.cons rfl (Sub.cons rfl (Sub.cons rfl (Sub.cons rfl (Sub.cons rfl (Sub.cons rfl (Sub.nil _)))))))) ?_
          refine XC.cond rfl (fun h5 => ?_) (fun h5 => ?_)
          · try simp only [sb] at h5
            have hun : FF.und d s.toFF to (s.findV n x) = true := by simpa using h5
            refine XC.seq ?_
            refine XC.region ?_
            refine XO.v (V.makeIface rfl Try.underlying100 (by simp)) rfl ?_
            refine XO.v (V.assign rfl) rfl ?_
            refine XO.nil ?_
            refine XE.next ?_
            refine XC.keep [(10, _)] (Sub.cons rfl (Sub.nil _)) ?_
            refine XC.ret ?_
            refine XE.thenRet ?_
            refine XE.ret1 rfl rfl (post_of (.cons .here (.cons .here (.cons .here .nil))) rfl ?_)
            have e0 : s.moveE0 d n x to = 5 := by unfold FF.moveE0; rw [if_neg (by omega), if_neg (by omega), if_neg (by omega), if_pos ⟨by assumption, hun⟩]
            have e : s.moveE d n x to y = s.moveE0 d n x to := by unfold FF.moveE; rw [if_pos (by omega)]
            exact ⟨by rw [e, e0]; rfl, s, by unfold FF.move; rw [if_pos (by omega)], rfl, rfl, rfl⟩
          · try simp only [sb] at h5
            have hun : FF.und d s.toFF to (s.findV n x) = false := by simpa using h5
            refine XC.skip ?_
            refine XE.next ?_
            refine XC.keep [(0, _), (1, _), (2, _), (3, _), (4, _), (11, _)] (Sub.cons rfl (Sub.cons rfl (Sub.cons rfl (Sub.cons rfl (Sub.cons rfl (Sub.cons rfl (Sub.nil _))))))) ?_
            refine XC.seq ?_
            refine XC.region ?_
            refine XO.v (V.move rfl) rfl ?_
            refine XO.v (V.move rfl) rfl ?_
            refine XO.v (V.move rfl) rfl ?_
            refine XO.call rfl (t_cut _ _ _ hI _ _ (by omega) (by assumption)) (.cons .here (.cons .here (.cons .here .nil))) cl_67 rfl ?_
            rintro _ _ ⟨rfl, t, ht, hp, hc0, rfl⟩
            have hI2 : t.toFF.Sh := by rw [ht]; exact hI.cutF i1 i2 hh
            refine XO.nil ?_
            refine XE.next ?_
            refine XC.keep [(0, _), (1, _), (2, _), (3, _), (4, _), (11, _)] (Sub.cons rfl (Sub.cons rfl (Sub.cons rfl (Sub.cons rfl (Sub.cons rfl (Sub.cons rfl (Sub.nil _))))))) ?_
            refine XC.seq ?_
            refine XC.region ?_
            refine XO.v (V.move rfl) rfl ?_
            refine XO.v (V.move rfl) rfl ?_
            refine XO.v (V.move rfl) rfl ?_
            refine XO.call rfl (t_room _ _ _ hI2 _ _ (by assumption)) (.cons .here (.cons .here (.cons .here .nil))) cl_59 rfl ?_
            rintro _ _ ⟨rfl, rfl⟩
            refine XO.v (V.assign rfl) rfl ?_
            refine XO.nil ?_
            refine XE.next ?_
            refine XC.keep [(0, _), (1, _), (2, _), (3, _), (4, _), (11, _), (12, _)] (Sub.cons rfl (Sub.cons rfl (Sub.cons rfl (Sub.cons rfl (Sub.cons rfl (Sub.cons rfl (Sub.cons rfl (Sub.nil _)))))))) ?_
            refine XC.seq ?_
            refine XC.seq ?_
            refine XC.region ?_
            refine XO.v (V.move rfl) rfl ?_
            refine XO.v (V.errNil rfl Try.underlying43 rfl) rfl ?_
            refine XO.nil ?_
            refine XE.next ?_
            refine XC.keep [(0, _), (1, _), (2, _), (3, _), (4, _), (11, _), (12, _), (68, _)] (Sub.cons rfl (Sub.cons rfl (Sub.cons rfl (Sub.cons rfl (Sub.cons rfl (Sub.cons rfl (Sub.cons rfl (Sub.cons rfl (Sub.nil _))))))))) ?_
            refine XC.condP rfl (fun h6 => ?_) (fun h6 => ?_)
            · skip
              have hm : (s.cutF n x).roomE to y ≠ 0 := by rw [← ht]; assumption
              refine XC.seq ?_
              refine XC.region ?_
              refine XO.v (V.move rfl) rfl ?_
              refine XO.v (V.move rfl) rfl ?_
              refine XO.v (V.move rfl) rfl ?_
              refine XO.v (V.move rfl) rfl ?_
              refine XO.call rfl (t_put _ _ _ hI2 _ _ _ (by omega)) (.cons .here (.cons .here (.cons .here .nil))) cl_60 rfl ?_
              rintro _ _ ⟨rfl, t2, ht2, hp2, hc2, rfl⟩
              refine XO.nil ?_
              refine XE.next ?_
              refine XC.keep [(12, _)] (Sub.cons rfl (Sub.nil _)) ?_
              refine XC.seq ?_
              refine XC.region ?_
              refine XO.v (V.move rfl) rfl ?_
              refine XO.v (V.assign rfl) rfl ?_
              refine XO.nil ?_
              refine XE.next ?_
              refine XC.keep [(10, _)] (Sub.cons rfl (Sub.nil _)) ?_
              refine XC.ret ?_
              refine XE.thenRet ?_
              refine XE.ret1 rfl rfl (post_of (.cons .here (.cons .here (.cons .here .nil))) rfl ?_)
              have e0 : s.moveE0 d n x to = 0 := by unfold FF.moveE0; rw [if_neg (by omega), if_neg (by omega), if_neg (by omega), if_neg (fun q => absurd q.2 (by rw [hun]; simp))]
              have e : s.moveE d n x to y = (s.cutF n x).roomE to y := by unfold FF.moveE; rw [if_neg (by omega)]
              exact ⟨by rw [e, ht], t2, by rw [ht2, ht]; unfold FF.move; rw [if_neg (by omega), if_pos (by omega)], hp2.trans hp, hc2.trans hc0, rfl⟩
            · skip
              have hm : (s.cutF n x).roomE to y = 0 := by rw [← ht]; simpa using h6
              refine XC.skip ?_
              refine XE.next ?_
              refine XC.keep [(0, _), (3, _), (4, _), (11, _)] (Sub.cons rfl (Sub.cons rfl (Sub.cons rfl (Sub.cons rfl (Sub.nil _))))) ?_
              refine XC.seq ?_
              refine XC.region ?_
              refine XO.v (V.move rfl) rfl ?_
              refine XO.v (V.move rfl) rfl ?_
              refine XO.v (V.move rfl) rfl ?_
              refine XO.v (V.move rfl) rfl ?_
              refine XO.call rfl (t_put _ _ _ hI2 _ _ _ (by omega)) (.cons .here (.cons .here (.cons .here .nil))) cl_60 rfl ?_
              rintro _ _ ⟨rfl, t2, ht2, hp2, hc2, rfl⟩
              have hkd : t2.kind (s.findV n x) = s.kind (s.findV n x) := (congrFun (congrArg FF.kind ht2) _).trans (congrFun (congrArg FF.kind ht) _)
              refine XO.nil ?_
              refine XE.next ?_
              refine XC.keep [(0, _), (3, _), (11, _)] (Sub.cons rfl (Sub.cons rfl (Sub.cons rfl (Sub.nil _)))) ?_
              refine XC.seq ?_
              refine XC.seq ?_
              refine XC.region ?_
              refine XO.v (V.move rfl) rfl ?_
              refine XO.v (V.move rfl) rfl ?_
              refine XO.v (V.nilCheckP rfl) rfl ?_
              refine XO.v (V.fieldAddr rfl fo_82_0) rfl ?_
              refine XO.v (V.indexArr rfl rfl ar_80 (by omega)) rfl ?_
              refine XO.v (V.fieldAddr rfl fo_79_0) rfl ?_
              refine XO.v (V.load rfl (inXM .here) (encF.ld_n_kind _ _ (by omega)) sc_3) rfl ?_
              refine XO.v (V.cmp rfl rfl rfl) rfl ?_
              refine XO.nil ?_
              refine XE.next ?_
              refine XC.keep [(0, _), (3, _), (11, _), (87, _)] (Sub.cons rfl (Sub.cons rfl (Sub.cons rfl (Sub.cons rfl (Sub.nil _))))) ?_
              refine XC.condP rfl (fun h7 => ?_) (fun h7 => ?_)
              · skip
                refine XC.region ?_
                refine XO.v (V.move rfl) rfl ?_
                refine XO.v (V.move rfl) rfl ?_
                refine XO.v (V.move rfl) rfl ?_
                refine XO.v (V.nilCheckP rfl) rfl ?_
                refine XO.v (V.fieldAddr rfl fo_82_0) rfl ?_
                refine XO.v (V.indexArr rfl rfl ar_80 (by omega)) rfl ?_
                refine XO.v (V.fieldAddr rfl fo_79_7) rfl ?_
                refine XO.store rfl rfl .here (encF.st_n_up _ _ (by omega) _) rfl sz_3_1 ?_
                refine XO.nil ?_
                refine XE.next ?_
                refine XC.keep [] (Sub.nil _) ?_
                refine XC.seq ?_
                refine XC.region ?_
                refine XO.v (V.assign rfl) rfl ?_
                refine XO.nil ?_
                refine XE.next ?_
                refine XC.keep [(10, _)] (Sub.cons rfl (Sub.nil _)) ?_
                refine XC.ret ?_
                refine XE.ret1 rfl rfl (post_of (.cons .here (.cons .here (.cons .here .nil))) rfl ?_)
                have e0 : s.moveE0 d n x to = 0 := by unfold FF.moveE0; rw [if_neg (by omega), if_neg (by omega), if_neg (by omega), if_neg (fun q => absurd q.2 (by rw [hun]; simp))]
                have e : s.moveE d n x to y = (s.cutF n x).roomE to y := by unfold FF.moveE; rw [if_neg (by omega)]
                exact ⟨by rw [e, hm]; rfl, ({ t2 with up := fset t2.up (s.findV n x) to } : FC), by rw [up_of ht2, ht]; unfold FF.move; rw [if_neg (by omega), if_neg (by omega), if_pos (by omega)]; rfl, hp2.trans hp, hc2.trans hc0, rfl⟩
              · skip
                refine XC.skip ?_
                refine XE.next ?_
                refine XC.keep [] (Sub.nil _) ?_
                refine XC.seq ?_
                refine XC.region ?_
                refine XO.v (V.assign rfl) rfl ?_
                refine XO.nil ?_
                refine XE.next ?_
                refine XC.keep [(10, _)] (Sub.cons rfl (Sub.nil _)) ?_
                refine XC.ret ?_
                refine XE.ret1 rfl rfl (post_of (.cons .here (.cons .here (.cons .here .nil))) rfl ?_)
                have e0 : s.moveE0 d n x to = 0 := by unfold FF.moveE0; rw [if_neg (by omega), if_neg (by omega), if_neg (by omega), if_neg (fun q => absurd q.2 (by rw [hun]; simp))]
                have e : s.moveE d n x to y = (s.cutF n x).roomE to y := by unfold FF.moveE; rw [if_neg (by omega)]
                exact ⟨by rw [e, hm]; rfl, t2, by rw [ht2, ht]; unfold FF.move; rw [if_neg (by omega), if_neg (by omega), if_neg (by omega)], hp2.trans hp, hc2.trans hc0, rfl⟩
        · skip
          refine XO.guardSkip rfl rfl rfl rfl rfl ?_
          refine XO.guardSkip rfl rfl rfl rfl rfl ?_
          refine XO.guardSkip rfl rfl rfl rfl rfl ?_
          refine XO.guardSkip rfl rfl rfl rfl rfl ?_
          refine XO.v (V.pick rfl rfl rfl rfl) rfl ?_
          refine XO.nil ?_
          refine XE.next ?_
          refine XC.keep [(0, _), (1, _), (2, _), (3, _), (4, _), (11, _), (57, _)] (Sub.cons rfl (Sub.cons rfl (Sub.cons rfl (Sub.cons rfl (Sub.cons rfl (Sub.cons rfl (Sub.cons rfl (Sub.nil _)))))))) ?_
          refine XC.condF rfl rfl ?_
          refine XC.skip ?_
          refine XE.next ?_
          refine XC.keep [(0, _), (1, _), (2, _), (3, _), (4, _), (11, _)] (Sub.cons rfl (Sub.cons rfl (Sub.cons rfl (Sub.cons rfl (Sub.cons rfl (Sub.cons rfl (Sub.nil _))))))) ?_
          refine XC.seq ?_
          refine XC.region ?_
          refine XO.v (V.move rfl) rfl ?_
          refine XO.v (V.move rfl) rfl ?_
          refine XO.v (V.move rfl) rfl ?_
          refine XO.call rfl (t_cut _ _ _ hI _ _ (by omega) (by assumption)) (.cons .here (.cons .here (.cons .here .nil))) cl_67 rfl ?_
          rintro _ _ ⟨rfl, t, ht, hp, hc0, rfl⟩
          have hI2 : t.toFF.Sh := by rw [ht]; exact hI.cutF i1 i2 hh
          refine XO.nil ?_
          refine XE.next ?_
          refine XC.keep [(0, _), (1, _), (2, _), (3, _), (4, _), (11, _)] (Sub.cons rfl (Sub.cons rfl (Sub.cons rfl (Sub.cons rfl (Sub.cons rfl (Sub.cons rfl (Sub.nil _))))))) ?_
          refine XC.seq ?_
          refine XC.region ?_
          refine XO.v (V.move rfl) rfl ?_
          refine XO.v (V.move rfl) rfl ?_
          refine XO.v (V.move rfl) rfl ?_
          refine XO.call rfl (t_room _ _ _ hI2 _ _ (by assumption)) (.cons .here (.cons .here (.cons .here .nil))) cl_59 rfl ?_
          rintro _ _ ⟨rfl, rfl⟩
          refine XO.v (V.assign rfl) rfl ?_
          refine XO.nil ?_
          refine XE.next ?_
          refine XC.keep [(0, _), (1, _), (2, _), (3, _), (4, _), (11, _), (12, _)] (Sub.cons rfl (Sub.cons rfl (Sub.cons rfl (Sub.cons rfl (Sub.cons rfl (Sub.cons rfl (Sub.cons rfl (Sub.nil _)))))))) ?_
          refine XC.seq ?_
          refine XC.seq ?_
          refine XC.region ?_
          refine XO.v (V.move rfl) rfl ?_
          refine XO.v (V.errNil rfl Try.underlying43 rfl) rfl ?_
          refine XO.nil ?_
          refine XE.next ?_
          refine XC.keep [(0, _), (1, _), (2, _), (3, _), (4, _), (11, _), (12, _), (68, _)] (Sub.cons rfl (Sub.cons rfl (Sub.cons rfl (Sub.cons rfl (Sub.cons rfl (Sub.cons rfl (Sub.cons rfl (Sub.cons rfl (Sub.nil _))))))))) ?_
          refine XC.condP rfl (fun h8 => ?_) (fun h8 => ?_)
          · skip
            have hm : (s.cutF n x).roomE to y ≠ 0 := by rw [← ht]; assumption
            refine XC.seq ?_
            refine XC.region ?_
            refine XO.v (V.move rfl) rfl ?_
            refine XO.v (V.move rfl) rfl ?_
            refine XO.v (V.move rfl) rfl ?_
            refine XO.v (V.move rfl) rfl ?_
            refine XO.call rfl (t_put _ _ _ hI2 _ _ _ (by omega)) (.cons .here (.cons .here (.cons .here .nil))) cl_60 rfl ?_
            rintro _ _ ⟨rfl, t2, ht2, hp2, hc2, rfl⟩
            refine XO.nil ?_
            refine XE.next ?_
            refine XC.keep [(12, _)] (Sub.cons rfl (Sub.nil _)) ?_
            refine XC.seq ?_
            refine XC.region ?_
            refine XO.v (V.move rfl) rfl ?_
            refine XO.v (V.assign rfl) rfl ?_
            refine XO.nil ?_
            refine XE.next ?_
            refine XC.keep [(10, _)] (Sub.cons rfl (Sub.nil _)) ?_
            refine XC.ret ?_
            refine XE.thenRet ?_
            refine XE.ret1 rfl rfl (post_of (.cons .here (.cons .here (.cons .here .nil))) rfl ?_)
            have e0 : s.moveE0 d n x to = 0 := by unfold FF.moveE0; rw [if_neg (by omega), if_neg (by omega), if_neg (by omega), if_neg (fun q => absurd q.1 (by assumption))]
            have e : s.moveE d n x to y = (s.cutF n x).roomE to y := by unfold FF.moveE; rw [if_neg (by omega)]
            exact ⟨by rw [e, ht], t2, by rw [ht2, ht]; unfold FF.move; rw [if_neg (by omega), if_pos (by omega)], hp2.trans hp, hc2.trans hc0, rfl⟩
          · skip
            have hm : (s.cutF n x).roomE to y = 0 := by rw [← ht]; simpa using h8
            refine XC.skip ?_
            refine XE.next ?_
            refine XC.keep [(0, _), (3, _), (4, _), (11, _)] (Sub.cons rfl (Sub.cons rfl (Sub.cons rfl (Sub.cons rfl (Sub.nil _))))) ?_
            refine XC.seq ?_
            refine XC.region ?_
            refine XO.v (V.move rfl) rfl ?_
            refine XO.v (V.move rfl) rfl ?_
            refine XO.v (V.move rfl) rfl ?_
            refine XO.v (V.move rfl) rfl ?_
            refine XO.call rfl (t_put _ _ _ hI2 _ _ _ (by omega)) (.cons .here (.cons .here (.cons .here .nil))) cl_60 rfl ?_
            rintro _ _ ⟨rfl, t2, ht2, hp2, hc2, rfl⟩
            have hkd : t2.kind (s.findV n x) = s.kind (s.findV n x) := (congrFun (congrArg FF.kind ht2) _).trans (congrFun (congrArg FF.kind ht) _)
            refine XO.nil ?_
            refine XE.next ?_
            refine XC.keep [(0, _), (3, _), (11, _)] (Sub.cons rfl (Sub.cons rfl (Sub.cons rfl (Sub.nil _)))) ?_
            refine XC.seq ?_
            refine XC.seq ?_
            refine XC.region ?_
            refine XO.v (V.move rfl) rfl ?_
            refine XO.v (V.move rfl) rfl ?_
            refine XO.v (V.nilCheckP rfl) rfl ?_
            refine XO.v (V.fieldAddr rfl fo_82_0) rfl ?_
            refine XO.v (V.indexArr rfl rfl ar_80 (by omega)) rfl ?_
            refine XO.v (V.fieldAddr rfl fo_79_0) rfl ?_
            refine XO.v (V.load rfl (inXM .here) (encF.ld_n_kind _ _ (by omega)) sc_3) rfl ?_
            refine XO.v (V.cmp rfl rfl rfl) rfl ?_
            refine XO.nil ?_
            refine XE.next ?_
            refine XC.keep [(0, _), (3, _), (11, _), (87, _)] (Sub.cons rfl (Sub.cons rfl (Sub.cons rfl (Sub.cons rfl (Sub.nil _))))) ?_
            refine XC.condP rfl (fun h9 => ?_) (fun h9 => ?_)
            · skip
              refine XC.region ?_
              refine XO.v (V.move rfl) rfl ?_
              refine XO.v (V.move rfl) rfl ?_
              refine XO.v (V.move rfl) rfl ?_
              refine XO.v (V.nilCheckP rfl) rfl ?_
              refine XO.v (V.fieldAddr rfl fo_82_0) rfl ?_
              refine XO.v (V.indexArr rfl rfl ar_80 (by omega)) rfl ?_
              refine XO.v (V.fieldAddr rfl fo_79_7) rfl ?_
              refine XO.store rfl rfl .here (encF.st_n_up _ _ (by omega) _) rfl sz_3_1 ?_
              refine XO.nil ?_
              refine XE.next ?_
              refine XC.keep [] (Sub.nil _) ?_
              refine XC.seq ?_
              refine XC.region ?_
              refine XO.v (V.assign rfl) rfl ?_
              refine XO.nil ?_
              refine XE.next ?_
              refine XC.keep [(10, _)] (Sub.cons rfl (Sub.nil _)) ?_
              refine XC.ret ?_
              refine XE.ret1 rfl rfl (post_of (.cons .here (.cons .here (.cons .here .nil))) rfl ?_)
              have e0 : s.moveE0 d n x to = 0 := by unfold FF.moveE0; rw [if_neg (by omega), if_neg (by omega), if_neg (by omega), if_neg (fun q => absurd q.1 (by assumption))]
              have e : s.moveE d n x to y = (s.cutF n x).roomE to y := by unfold FF.moveE; rw [if_neg (by omega)]
              exact ⟨by rw [e, hm]; rfl, ({ t2 with up := fset t2.up (s.findV n x) to } : FC), by rw [up_of ht2, ht]; unfold FF.move; rw [if_neg (by omega), if_neg (by omega), if_pos (by omega)]; rfl, hp2.trans hp, hc2.trans hc0, rfl⟩
            · skip
              refine XC.skip ?_
              refine XE.next ?_
              refine XC.keep [] (Sub.nil _) ?_
              refine XC.seq ?_
              refine XC.region ?_
              refine XO.v (V.assign rfl) rfl ?_
              refine XO.nil ?_
              refine XE.next ?_
              refine XC.keep [(10, _)] (Sub.cons rfl (Sub.nil _)) ?_
              refine XC.ret ?_
              refine XE.ret1 rfl rfl (post_of (.cons .here (.cons .here (.cons .here .nil))) rfl ?_)
              have e0 : s.moveE0 d n x to = 0 := by unfold FF.moveE0; rw [if_neg (by omega), if_neg (by omega), if_neg (by omega), if_neg (fun q => absurd q.1 (by assumption))]
              have e : s.moveE d n x to y = (s.cutF n x).roomE to y := by unfold FF.moveE; rw [if_neg (by omega)]
              exact ⟨by rw [e, hm]; rfl, t2, by rw [ht2, ht]; unfold FF.move; rw [if_neg (by omega), if_neg (by omega), if_neg (by omega)], hp2.trans hp, hc2.trans hc0, rfl⟩
  · skip
    have f0 : s.findE n x ≠ 0 := by assumption
    refine XC.skip ?_
    refine XE.next ?_
    refine XC.keep [(0, _), (1, _), (2, _), (3, _), (4, _), (11, _), (12, _)] (Sub.cons rfl (Sub.cons rfl (Sub.cons rfl (Sub.cons rfl (Sub.cons rfl (Sub.cons rfl (Sub.cons rfl (Sub.nil _)))))))) ?_
    refine XC.seq ?_
    refine XC.seq ?_
    refine XC.region ?_
    refine XO.v (V.move rfl) rfl ?_
    refine XO.v (V.errNil rfl Try.underlying43 rfl) rfl ?_
    refine XO.nil ?_
    refine XE.next ?_
    refine XC.keep [(0, _), (1, _), (2, _), (3, _), (4, _), (11, _), (12, _), (26, _)] (Sub.cons rfl (Sub.cons rfl (Sub.cons rfl (Sub.cons rfl (Sub.cons rfl (Sub.cons rfl (Sub.cons rfl (Sub.cons rfl (Sub.nil _))))))))) ?_
    refine XC.condTP rfl (by assumption) ?_
    refine XC.seq ?_
    refine XC.region ?_
    refine XO.v (V.move rfl) rfl ?_
    refine XO.v (V.assign rfl) rfl ?_
    refine XO.nil ?_
    refine XE.next ?_
    refine XC.keep [(10, _)] (Sub.cons rfl (Sub.nil _)) ?_
    refine XC.ret ?_
    refine XE.thenRet ?_
    refine XE.ret1 rfl rfl (post_of (.cons .here (.cons .here (.cons .here .nil))) rfl ?_)
    have e0 : s.moveE0 d n x to = s.findE n x := by unfold FF.moveE0; rw [if_pos (by omega)]
    have e : s.moveE d n x to y = s.moveE0 d n x to := by unfold FF.moveE; rw [if_pos (by omega)]
    exact ⟨by rw [e, e0], s, by unfold FF.move; rw [if_pos (by omega)], rfl, rfl, rfl⟩
end Go.X
