import Derived.Test.YtfpdkhncfkefhaaFB1
namespace Go.X
open Go Go.Proofs

set_option maxRecDepth 10000 in
set_option maxHeartbeats 4000000 in
theorem quota_n (pl : Option Addr) (cap : Nat) (q : Int) (hqb : -9223372036854775808 ≤ q ∧ q ≤ 9223372036854775807) (p : Int) (hpb : -9223372036854775808 ≤ p ∧ p ≤ 9223372036854775807) : Spec Try.prog 6 [.slice pl 0 cap, .int .i64 q, .int .i64 p]
    []
    (fun v H1 => v = .bool true ∧ H1 = []) := by
  refine Spec.intro Try.func6 rfl rfl ?_
  intro W
  refine XC.seq ?_
  refine XC.region ?_
  refine XO.v (V.assign rfl) rfl ?_
  refine XO.nil ?_
  refine XE.next ?_
  refine XC.keep [(0, _), (1, _), (2, _)] (Sub.cons rfl (Sub.cons rfl (Sub.cons rfl (Sub.nil _)))) ?_
  refine XC.seq ?_
  refine XC.region ?_
  refine XO.call rfl (f_New) .nil cl_9 rfl ?_
  rintro _ _ ⟨bs, rfl, t0, t0l, t0R, rfl⟩
  refine XO.v (V.assign rfl) rfl ?_
  refine XO.nil ?_
  refine XE.next ?_
  refine XC.keep [(0, _), (1, _), (2, _), (7, _)] (Sub.cons rfl (Sub.cons rfl (Sub.cons rfl (Sub.cons rfl (Sub.nil _))))) ?_
  refine XC.seq ?_
  refine XC.seq ?_
  refine XC.region ?_
  have hO0 : t0.toSF.Ok dQ 3 0 := by rw [t0l]; exact SF.init_okd SF.dQ_le
  refine XO.v (V.move rfl) rfl ?_
  refine XO.v (V.ptrNilP rfl Try.underlying25 rfl) rfl ?_
  refine XO.v (V.move rfl) rfl ?_
  refine XO.guardRun rfl rfl rfl ?_
  refine XO.v (V.move rfl) rfl ?_
  refine XO.guardRun rfl rfl rfl ?_
  refine XO.call rfl (f_AddGroup _ _ t0 dQ hO0.inv t0R _ _ _) (.cons .here (.cons .here .nil)) cl_19 rfl ?_
  rintro _ _ ⟨rfl, t1, t1l, t1R, rfl⟩
  have e1 : t1.toSF = SF.init.newU 1 0 5 true := by rw [t1l, t0l]; exact q1e
  have hA : t0.toSF.addGE 1 0 5 = 0 := by rw [t0l]; exact qA
  have hO1 : t1.toSF.Ok dQ 3 0 := by rw [e1]; exact Q1_ok
  have hB : t1.toSF.addGE 2 1 5 = 0 := by rw [e1]; exact qB
  refine XO.guardRun rfl rfl rfl ?_
  refine XO.v (V.errNil rfl Try.underlying40 rfl) rfl ?_
  refine XO.v (V.pick rfl rfl rfl rfl) rfl ?_
  refine XO.v (V.move rfl) rfl ?_
  refine XO.splitF (d := 28) rfl (by simp [hA]) ?_
  refine XO.guardRun rfl rfl rfl ?_
  refine XO.v (V.move rfl) rfl ?_
  refine XO.guardRun rfl rfl rfl ?_
  refine XO.call rfl (f_AddGroup _ _ t1 dQ hO1.inv t1R _ _ _) (.cons .here (.cons .here .nil)) cl_19 rfl ?_
  rintro _ _ ⟨rfl, t2, t2l, t2R, rfl⟩
  have e2 : t2.toSF = Q2 := by rw [t2l, e1]; exact q2e
  have hO2 : t2.toSF.Ok dQ 3 0 := by rw [e2]; exact Q2_ok
  refine XO.guardRun rfl rfl rfl ?_
  refine XO.v (V.errNil rfl Try.underlying40 rfl) rfl ?_
  refine XO.v (V.pick rfl rfl rfl rfl) rfl ?_
  refine XO.nil ?_
  refine XE.next ?_
  refine XC.keep [(0, _), (1, _), (2, _), (7, _), (32, _)] (Sub.cons rfl (Sub.cons rfl (Sub.cons rfl (Sub.cons rfl (Sub.cons rfl (Sub.nil _)))))) ?_
  refine XC.condFP rfl (by simp [hB]) ?_
  refine XC.skip ?_
  refine XE.next ?_
  refine XC.keep [(0, _), (1, _), (2, _), (7, _)] (Sub.cons rfl (Sub.cons rfl (Sub.cons rfl (Sub.cons rfl (Sub.nil _))))) ?_
  refine XC.seq ?_
  refine XC.seq ?_
  refine XC.region ?_
  refine XO.v (V.move rfl) rfl ?_
  refine XO.v (V.move rfl) rfl ?_
  refine XO.v (V.move rfl) rfl ?_
  refine XO.call rfl (f_quota _ _ t2 dQ hO2.inv t2R _ _ _) (.cons .here (.cons .here .nil)) cl_20 rfl ?_
  rintro _ _ ⟨rfl, t3, t3l, t3R, rfl⟩
  have hQE : t2.toSF.quoE 1 q p = Q2.quoE 1 q p := by rw [e2]
  refine XO.v (V.errNil rfl Try.underlying40 rfl) rfl ?_
  refine XO.nil ?_
  refine XE.next ?_
  refine XC.keep [(0, _), (1, _), (2, _), (7, _), (37, _)] (Sub.cons rfl (Sub.cons rfl (Sub.cons rfl (Sub.cons rfl (Sub.cons rfl (Sub.nil _)))))) ?_
  refine XC.condP rfl (fun h2 => ?_) (fun h2 => ?_)
  · skip
    have hbad := SF.quo_bad (q := q) (p := p) (by rw [← hQE]; assumption)
    refine XC.seq ?_
    refine XC.region ?_
    refine XO.v (V.move rfl) rfl ?_
    refine XO.v (V.cmp rfl rfl rfl) rfl ?_
    refine XO.v (V.move rfl) rfl ?_
    refine XO.splitP (d := 40) rfl (fun h3 => ?_) (fun h3 => ?_)
    · skip
      refine XO.guardSkip rfl rfl rfl rfl rfl ?_
      refine XO.guardSkip rfl rfl rfl rfl rfl ?_
      refine XO.v (V.pick rfl rfl rfl rfl) rfl ?_
      refine XO.v (V.move rfl) rfl ?_
      refine XO.guardSkip rfl rfl rfl rfl rfl ?_
      refine XO.guardSkip rfl rfl rfl rfl rfl ?_
      refine XO.v (V.pick rfl rfl rfl rfl) rfl ?_
      refine XO.v (V.move rfl) rfl ?_
      refine XO.guardSkip rfl rfl rfl rfl rfl ?_
      refine XO.guardSkip rfl rfl rfl rfl rfl ?_
      refine XO.guardSkip rfl rfl rfl rfl rfl ?_
      refine XO.v (V.pick rfl rfl rfl rfl) rfl ?_
      refine XO.v (V.assign rfl) rfl ?_
      refine XO.nil ?_
      refine XE.next ?_
      refine XC.keep [(6, _)] (Sub.cons rfl (Sub.nil _)) ?_
      refine XC.ret ?_
      refine XE.thenRet ?_
      refine XE.ret1 rfl rfl (post_of .nil rfl ?_)
      first
      | exact ⟨rfl, rfl⟩
      | exact ⟨congrArg Value.bool (decide_eq_true (by omega)), rfl⟩
    · skip
      refine XO.guardRun rfl rfl rfl ?_
      refine XO.v (V.move rfl) rfl ?_
      refine XO.guardRun rfl rfl rfl ?_
      refine XO.v (V.cmp rfl rfl rfl) rfl ?_
      refine XO.v (V.pick rfl rfl rfl rfl) rfl ?_
      refine XO.v (V.move rfl) rfl ?_
      refine XO.splitP (d := 44) rfl (fun h4 => ?_) (fun h4 => ?_)
      · skip
        refine XO.guardSkip rfl rfl rfl rfl rfl ?_
        refine XO.guardSkip rfl rfl rfl rfl rfl ?_
        refine XO.v (V.pick rfl rfl rfl rfl) rfl ?_
        refine XO.v (V.move rfl) rfl ?_
        refine XO.guardSkip rfl rfl rfl rfl rfl ?_
        refine XO.guardSkip rfl rfl rfl rfl rfl ?_
        refine XO.guardSkip rfl rfl rfl rfl rfl ?_
        refine XO.v (V.pick rfl rfl rfl rfl) rfl ?_
        refine XO.v (V.assign rfl) rfl ?_
        refine XO.nil ?_
        refine XE.next ?_
        refine XC.keep [(6, _)] (Sub.cons rfl (Sub.nil _)) ?_
        refine XC.ret ?_
        refine XE.thenRet ?_
        refine XE.ret1 rfl rfl (post_of .nil rfl ?_)
        first
        | exact ⟨rfl, rfl⟩
        | exact ⟨congrArg Value.bool (decide_eq_true (by omega)), rfl⟩
      · skip
        refine XO.guardRun rfl rfl rfl ?_
        refine XO.v (V.move rfl) rfl ?_
        refine XO.guardRun rfl rfl rfl ?_
        refine XO.v (V.cmp rfl rfl rfl) rfl ?_
        refine XO.v (V.pick rfl rfl rfl rfl) rfl ?_
        refine XO.v (V.move rfl) rfl ?_
        refine XO.splitP (d := 48) rfl (fun h5 => ?_) (fun h5 => ?_)
        · skip
          refine XO.guardSkip rfl rfl rfl rfl rfl ?_
          refine XO.guardSkip rfl rfl rfl rfl rfl ?_
          refine XO.guardSkip rfl rfl rfl rfl rfl ?_
          refine XO.v (V.pick rfl rfl rfl rfl) rfl ?_
          refine XO.v (V.assign rfl) rfl ?_
          refine XO.nil ?_
          refine XE.next ?_
          refine XC.keep [(6, _)] (Sub.cons rfl (Sub.nil _)) ?_
          refine XC.ret ?_
          refine XE.thenRet ?_
          refine XE.ret1 rfl rfl (post_of .nil rfl ?_)
          first
          | exact ⟨rfl, rfl⟩
          | exact ⟨congrArg Value.bool (decide_eq_true (by omega)), rfl⟩
        · skip
          refine XO.guardRun rfl rfl rfl ?_
          refine XO.v (V.move rfl) rfl ?_
          refine XO.guardRun rfl rfl rfl ?_
          refine XO.v (V.move rfl) rfl ?_
          refine XO.guardRun rfl rfl rfl ?_
          refine XO.v (V.cmp rfl rfl rfl) rfl ?_
          refine XO.v (V.pick rfl rfl rfl rfl) rfl ?_
          refine XO.v (V.assign rfl) rfl ?_
          refine XO.nil ?_
          refine XE.next ?_
          refine XC.keep [(6, _)] (Sub.cons rfl (Sub.nil _)) ?_
          refine XC.ret ?_
          refine XE.thenRet ?_
          refine XE.ret1 rfl rfl (post_of .nil rfl ?_)
          first
          | exact ⟨rfl, rfl⟩
          | exact ⟨congrArg Value.bool (decide_eq_true (by omega)), rfl⟩
  · skip
    have hQ0 : Q2.quoE 1 q p = 0 := by rw [← hQE]; simpa using h2
    obtain ⟨hq0, hp, hp1, hqp⟩ := SF.quo_good hQ0
    refine XC.skip ?_
    refine XE.next ?_
    refine XC.keep [(0, _), (1, _), (2, _), (7, _)] (Sub.cons rfl (Sub.cons rfl (Sub.cons rfl (Sub.cons rfl (Sub.nil _))))) ?_
    refine XC.seq ?_
    refine XC.seq ?_
    refine XC.region ?_
    refine XO.v (V.move rfl) rfl ?_
    refine XO.call rfl (light_any _ _ _ _) .nil cl_8 rfl ?_
    rintro _ _ ⟨rfl, rfl⟩
    refine XO.v (V.notP rfl) rfl ?_
    refine XO.v (V.move rfl) rfl ?_
    refine XO.splitP (d := 56) rfl (fun h6 => ?_) (fun h6 => ?_)
    · skip
      refine XO.guardSkip rfl rfl rfl rfl rfl ?_
      refine XO.guardSkip rfl rfl rfl rfl rfl ?_
      refine XO.v (V.pick rfl rfl rfl rfl) rfl ?_
      refine XO.nil ?_
      refine XE.next ?_
      refine XC.keep [(0, _), (1, _), (2, _), (7, _), (59, _)] (Sub.cons rfl (Sub.cons rfl (Sub.cons rfl (Sub.cons rfl (Sub.cons rfl (Sub.nil _)))))) ?_
      refine XC.condT rfl rfl ?_
      refine XC.seq ?_
      refine XC.region ?_
      refine XO.v (V.assign rfl) rfl ?_
      refine XO.nil ?_
      refine XE.next ?_
      refine XC.keep [(6, _)] (Sub.cons rfl (Sub.nil _)) ?_
      refine XC.ret ?_
      refine XE.thenRet ?_
      refine XE.ret1 rfl rfl (post_of .nil rfl ?_)
      first
      | exact ⟨rfl, rfl⟩
      | exact ⟨congrArg Value.bool (decide_eq_true (by omega)), rfl⟩
    · skip
      refine XO.guardRun rfl rfl rfl ?_
      refine XO.v (V.move rfl) rfl ?_
      refine XO.guardRun rfl rfl rfl ?_
      refine XO.v (V.cmp rfl rfl rfl) rfl ?_
      refine XO.v (V.pick rfl rfl rfl rfl) rfl ?_
      refine XO.nil ?_
      refine XE.next ?_
      refine XC.keep [(0, _), (1, _), (2, _), (7, _), (59, _)] (Sub.cons rfl (Sub.cons rfl (Sub.cons rfl (Sub.cons rfl (Sub.cons rfl (Sub.nil _)))))) ?_
      refine XC.condP rfl (fun h7 => ?_) (fun h7 => ?_)
      · skip
        refine XC.seq ?_
        refine XC.region ?_
        refine XO.v (V.assign rfl) rfl ?_
        refine XO.nil ?_
        refine XE.next ?_
        refine XC.keep [(6, _)] (Sub.cons rfl (Sub.nil _)) ?_
        refine XC.ret ?_
        refine XE.thenRet ?_
        refine XE.ret1 rfl rfl (post_of .nil rfl ?_)
        exact ⟨rfl, rfl⟩
      · skip
        have hq : 0 < q := by omega
        refine XC.skip ?_
        refine XE.next ?_
        refine XC.keep [(0, _), (1, _), (2, _), (7, _)] (Sub.cons rfl (Sub.cons rfl (Sub.cons rfl (Sub.cons rfl (Sub.nil _))))) ?_
        refine XC.seq ?_
        refine XC.seq ?_
        refine XC.region ?_
        refine XO.v (V.assign rfl) rfl ?_
        refine XO.nil ?_
        refine XE.next ?_
        refine XC.keep [(0, _), (1, _), (2, _), (7, _), (8, _)] (Sub.cons rfl (Sub.cons rfl (Sub.cons rfl (Sub.cons rfl (Sub.cons rfl (Sub.nil _)))))) ?_
        refine XC.block ?_
        refine XC.loop (σ := SC × Int) (fun y => (6 - y.2).toNat) (fun y => y.1.Rep ∧ y.1.toSF.TQ y.2 q p (fun _ => false) (fun _ => false) 0 0) (fun y => [(8, .int .i64 y.2), (0, .slice pl 0 cap), (1, .int .i64 q), (2, .int .i64 p), (7, ptr bs 0 0)]) (fun y => XM W (foot []) [.cells bs 0 2281 (encS y.1), .fam fam30 (SC.rows 86 y.1)]) ((t3, 0)) ?_ (Sub.cons rfl (Sub.cons rfl (Sub.cons rfl (Sub.cons rfl (Sub.cons rfl (Sub.nil _)))))) (fun _ hw => XM.pick (.cons .here (.cons .here .nil)) hw) ?_
        · skip
          exact ⟨t3R, by show t3.toSF.TQ 0 q p _ _ 0 0; rw [t3l, e2]; exact SF.TQ.start hQ0⟩
        intro y hy
        obtain ⟨yR, yT⟩ := hy
        have ym := yT.m0
        refine XC.seq ?_
        refine XC.seq ?_
        refine XC.region ?_
        refine XO.v (V.move rfl) rfl ?_
        refine XO.v (V.cmp rfl rfl rfl) rfl ?_
        refine XO.nil ?_
        refine XE.next ?_
        refine XC.keep [(0, _), (1, _), (2, _), (7, _), (8, _), (61, _)] (Sub.cons rfl (Sub.cons rfl (Sub.cons rfl (Sub.cons rfl (Sub.cons rfl (Sub.cons rfl (Sub.nil _))))))) ?_
        refine XC.condP rfl (fun h8 => ?_) (fun h8 => ?_)
        · skip
          refine XC.skip ?_
          refine XE.next ?_
          refine XC.keep [(0, _), (1, _), (2, _), (7, _), (8, _)] (Sub.cons rfl (Sub.cons rfl (Sub.cons rfl (Sub.cons rfl (Sub.cons rfl (Sub.nil _)))))) ?_
          refine XC.seq ?_
          refine XC.block ?_
          refine XC.seq ?_
          refine XC.region ?_
          refine XO.v (V.move rfl) rfl ?_
          refine XO.v (V.move rfl) rfl ?_
          refine XO.v (V.move rfl) rfl ?_
          refine XO.v (V.rem rfl rfl (by first | decide | omega) _ (Int.tmod_eq_emod_of_nonneg (by omega))) rfl ?_
          refine XO.v (V.move rfl) rfl ?_
          refine XO.v (V.add rfl rfl _ (IntWalk.i64_in _ (by omega))) rfl ?_
          obtain ⟨kE, kT⟩ := yT.add (by omega) (by omega) rfl
          refine XO.call rfl (f_AddTask _ _ y.1 dQ yT.ok.inv yR _ _ _) (.cons .here (.cons .here .nil)) cl_16 rfl ?_
          rintro _ _ ⟨rfl, t, tl, tR, rfl⟩
          refine XO.v (V.errNil rfl Try.underlying40 rfl) rfl ?_
          refine XO.nil ?_
          refine XE.next ?_
          refine XC.keep [(0, _), (1, _), (2, _), (7, _), (8, _), (71, _)] (Sub.cons rfl (Sub.cons rfl (Sub.cons rfl (Sub.cons rfl (Sub.cons rfl (Sub.cons rfl (Sub.nil _))))))) ?_
          refine XC.condFP rfl (by rw [kE]; simp) ?_
          refine XC.skip ?_
          refine XE.blockNormal ?_
          refine XE.next ?_
          refine XC.keep [(0, _), (1, _), (2, _), (7, _), (8, _)] (Sub.cons rfl (Sub.cons rfl (Sub.cons rfl (Sub.cons rfl (Sub.cons rfl (Sub.nil _)))))) ?_
          refine XC.region ?_
          refine XO.v (V.move rfl) rfl ?_
          refine XO.v (V.add rfl rfl _ (IntWalk.i64_in _ (by omega))) rfl ?_
          refine XO.v (V.assign rfl) rfl ?_
          refine XO.nil ?_
          refine XE.again ((t, y.2 + 1)) ?_ ?_ (Sub.cons rfl (Sub.cons rfl (Sub.cons rfl (Sub.cons rfl (Sub.cons rfl (Sub.nil _)))))) (fun _ hw => XM.pick (.cons .here (.cons .here .nil)) hw)
          · skip
            (simp; omega)
          · skip
            exact ⟨tR, by rw [tl]; exact kT⟩
        · skip
          refine XC.exit ?_
          refine XE.thenExit ?_
          refine XE.thenExit ?_
          refine XE.blockExit ?_
          refine XE.next ?_
          refine XC.keep [(0, _), (1, _), (2, _), (7, _)] (Sub.cons rfl (Sub.cons rfl (Sub.cons rfl (Sub.cons rfl (Sub.nil _))))) ?_
          refine XC.seq ?_
          refine XC.region ?_
          refine XO.allocZ (z := .agg (arrB (fun _ => false) 6)) (m := 6) (C := encBl (fun _ => false) 6) (by kernel_rfl) (arrB_size (fun _ => false) 6) (encBl.box (fun _ => false) 6) rfl ?_
          intro bk
          refine XO.nil ?_
          refine XE.next ?_
          refine XC.keep [(0, _), (1, _), (2, _), (7, _), (9, _)] (Sub.cons rfl (Sub.cons rfl (Sub.cons rfl (Sub.cons rfl (Sub.cons rfl (Sub.nil _)))))) ?_
          refine XC.seq ?_
          refine XC.region ?_
          refine XO.allocZ (z := .agg (arrB (fun _ => false) 3)) (m := 3) (C := encBl (fun _ => false) 3) (by kernel_rfl) (arrB_size (fun _ => false) 3) (encBl.box (fun _ => false) 3) rfl ?_
          intro bf
          refine XO.nil ?_
          refine XE.next ?_
          refine XC.keep [(0, _), (1, _), (2, _), (7, _), (9, _), (10, _)] (Sub.cons rfl (Sub.cons rfl (Sub.cons rfl (Sub.cons rfl (Sub.cons rfl (Sub.cons rfl (Sub.nil _))))))) ?_
          refine XC.seq ?_
          refine XC.region ?_
          refine XO.v (V.assign rfl) rfl ?_
          refine XO.nil ?_
          refine XE.next ?_
          refine XC.keep [(0, _), (1, _), (2, _), (7, _), (9, _), (10, _), (11, _)] (Sub.cons rfl (Sub.cons rfl (Sub.cons rfl (Sub.cons rfl (Sub.cons rfl (Sub.cons rfl (Sub.cons rfl (Sub.nil _)))))))) ?_
          refine XC.seq ?_
          refine XC.seq ?_
          refine XC.region ?_
          refine XO.v (V.assign rfl) rfl ?_
          refine XO.nil ?_
          refine XE.next ?_
          refine XC.keep [(0, _), (1, _), (2, _), (7, _), (9, _), (10, _), (11, _), (12, _)] (Sub.cons rfl (Sub.cons rfl (Sub.cons rfl (Sub.cons rfl (Sub.cons rfl (Sub.cons rfl (Sub.cons rfl (Sub.cons rfl (Sub.nil _))))))))) ?_
          refine XC.block ?_
          have hy6 : y.2 = 6 := by omega
          rw [hy6] at yT
          refine XC.loop (σ := SC × (Int → Bool) × (Int → Bool) × Int × Int) (fun z => ((0 : Nat) - z.2.2.2.2).toNat) (fun z => z.1.Rep ∧ z.1.toSF.TQ 6 q p z.2.1 z.2.2.1 z.2.2.2.1 (30 * z.2.2.2.2) ∧ 0 ≤ z.2.2.2.2 ∧ z.2.2.2.2 ≤ (0 : Nat)) (fun z => [(11, .int .i64 z.2.2.2.1), (12, .int .i64 z.2.2.2.2), (0, .slice pl 0 cap), (1, .int .i64 q), (2, .int .i64 p), (7, ptr bs 0 0), (9, ptr bk 0 0), (10, ptr bf 0 0)]) (fun z => XM W (foot []) [.cells bs 0 2281 (encS z.1), .fam fam30 (SC.rows 86 z.1), .cells bk 0 6 (encBl z.2.1 6), .cells bf 0 3 (encBl z.2.2.1 3)]) ((y.1, (fun _ => false), (fun _ => false), 0, 0)) ?_ (Sub.cons rfl (Sub.cons rfl (Sub.cons rfl (Sub.cons rfl (Sub.cons rfl (Sub.cons rfl (Sub.cons rfl (Sub.cons rfl (Sub.nil _))))))))) (fun _ hw => XM.pick (.cons (.there (.there .here)) (.cons (.there (.there .here)) (.cons (.there .here) (.cons .here .nil)))) hw) ?_
          · skip
            exact ⟨yR, yT, by simp, by simp⟩
          intro z hz
          obtain ⟨zR, zT, zi0, zi1⟩ := hz
          refine XC.seq ?_
          refine XC.seq ?_
          refine XC.region ?_
          refine XO.v (V.move rfl) rfl ?_
          refine XO.v (V.move rfl) rfl ?_
          refine XO.v (V.lenSl rfl Try.underlying22) rfl ?_
          refine XO.v (V.cmp rfl rfl rfl) rfl ?_
          refine XO.nil ?_
          refine XE.next ?_
          refine XC.keep [(0, _), (1, _), (2, _), (7, _), (9, _), (10, _), (11, _), (12, _), (75, _)] (Sub.cons rfl (Sub.cons rfl (Sub.cons rfl (Sub.cons rfl (Sub.cons rfl (Sub.cons rfl (Sub.cons rfl (Sub.cons rfl (Sub.cons rfl (Sub.nil _)))))))))) ?_
          refine XC.condFP rfl (by simp; omega) ?_
          refine XC.exit ?_
          refine XE.thenExit ?_
          refine XE.thenExit ?_
          refine XE.blockExit ?_
          refine XE.next ?_
          refine XC.keep [] (Sub.nil _) ?_
          refine XC.seq ?_
          refine XC.region ?_
          refine XO.v (V.assign rfl) rfl ?_
          refine XO.nil ?_
          refine XE.next ?_
          refine XC.keep [(6, _)] (Sub.cons rfl (Sub.nil _)) ?_
          refine XC.ret ?_
          refine XE.ret1 rfl rfl (post_of .nil rfl ?_)
          exact ⟨rfl, rfl⟩
end Go.X
