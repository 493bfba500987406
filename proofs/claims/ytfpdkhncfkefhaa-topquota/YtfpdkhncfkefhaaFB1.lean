import Derived.Test.YtfpdkhncfkefhaaFTQ
import Derived.Test.YtfpdkhncfkefhaaFL1
namespace Go.X
open Go Go.Proofs
theorem ag_32 : aggT Try.prog 32 = true := by kernel_rfl
theorem ar_49 : arrOf Try.prog 49 = some (20, 1) := by kernel_rfl
theorem ar_50 : arrOf Try.prog 50 = some (20, 1) := by kernel_rfl
theorem ar_52 : arrOf Try.prog 52 = some (4, 1) := by kernel_rfl
theorem ar_54 : arrOf Try.prog 54 = some (6, 1) := by kernel_rfl
theorem ar_55 : arrOf Try.prog 55 = some (3, 1) := by kernel_rfl
theorem cl_10 : callable Try.prog 10 = true := by kernel_rfl
theorem cl_11 : callable Try.prog 11 = true := by kernel_rfl
theorem cl_7 : callable Try.prog 7 = true := by kernel_rfl
theorem cl_8 : callable Try.prog 8 = true := by kernel_rfl
theorem sl_22 : sliceOf Try.prog 22 = some (32, 8) := by kernel_rfl
theorem sl_46 : sliceOf Try.prog 46 = some (3, 1) := by kernel_rfl
theorem sz_32_8 : szOf Try.prog 32 = some 8 := by kernel_rfl
set_option maxRecDepth 10000 in
set_option maxHeartbeats 4000000 in
theorem quota_s (bl ol len cap : Nat) (hlen : len ≤ cap) (A : Int → ActV) (hA : ∀ z : Int, 0 ≤ z → z < len → (A z).ok) (q : Int) (hqb : -9223372036854775808 ≤ q ∧ q ≤ 9223372036854775807) (p : Int) (hpb : -9223372036854775808 ≤ p ∧ p ≤ 9223372036854775807) : Spec Try.prog 6 [.slice (some ⟨bl, ol, none⟩) len cap, .int .i64 q, .int .i64 p]
    [.ro bl ol (8 * len) (encActs A)]
    (fun v H1 => v = .bool true ∧ H1 = []) := by
  refine Spec.intro Try.func6 rfl rfl ?_
  intro W
  refine XC.seq ?_
  refine XC.region ?_
  refine XO.v (V.assign rfl) rfl ?_
  refine XO.nil ?_
  refine XE.next ?_
  refine XC.keep [(0, _), (1, _), (2, _)] (Sub.cons rfl (Sub.cons rfl (Sub.cons rfl (Sub.nil _)))) ?_
  refine XC.seq ?_
  refine XC.region ?_
  refine XO.call rfl (f_New) .nil cl_9 rfl ?_
  rintro _ _ ⟨bs, rfl, t0, t0l, t0R, rfl⟩
  refine XO.v (V.assign rfl) rfl ?_
  refine XO.nil ?_
  refine XE.next ?_
  refine XC.keep [(0, _), (1, _), (2, _), (7, _)] (Sub.cons rfl (Sub.cons rfl (Sub.cons rfl (Sub.cons rfl (Sub.nil _))))) ?_
  refine XC.seq ?_
  refine XC.seq ?_
  refine XC.region ?_
  have hO0 : t0.toSF.Ok dQ 3 0 := by rw [t0l]; exact SF.init_okd SF.dQ_le
  refine XO.v (V.move rfl) rfl ?_
  refine XO.v (V.ptrNilP rfl Try.underlying25 rfl) rfl ?_
  refine XO.v (V.move rfl) rfl ?_
  refine XO.guardRun rfl rfl rfl ?_
  refine XO.v (V.move rfl) rfl ?_
  refine XO.guardRun rfl rfl rfl ?_
  refine XO.call rfl (f_AddGroup _ _ t0 dQ hO0.inv t0R _ _ _) (.cons .here (.cons .here .nil)) cl_19 rfl ?_
  rintro _ _ ⟨rfl, t1, t1l, t1R, rfl⟩
  have e1 : t1.toSF = SF.init.newU 1 0 5 true := by rw [t1l, t0l]; exact q1e
  have hA : t0.toSF.addGE 1 0 5 = 0 := by rw [t0l]; exact qA
  have hO1 : t1.toSF.Ok dQ 3 0 := by rw [e1]; exact Q1_ok
  have hB : t1.toSF.addGE 2 1 5 = 0 := by rw [e1]; exact qB
  refine XO.guardRun rfl rfl rfl ?_
  refine XO.v (V.errNil rfl Try.underlying40 rfl) rfl ?_
  refine XO.v (V.pick rfl rfl rfl rfl) rfl ?_
  refine XO.v (V.move rfl) rfl ?_
  refine XO.splitF (d := 28) rfl (by simp [hA]) ?_
  refine XO.guardRun rfl rfl rfl ?_
  refine XO.v (V.move rfl) rfl ?_
  refine XO.guardRun rfl rfl rfl ?_
  refine XO.call rfl (f_AddGroup _ _ t1 dQ hO1.inv t1R _ _ _) (.cons .here (.cons .here .nil)) cl_19 rfl ?_
  rintro _ _ ⟨rfl, t2, t2l, t2R, rfl⟩
  have e2 : t2.toSF = Q2 := by rw [t2l, e1]; exact q2e
  have hO2 : t2.toSF.Ok dQ 3 0 := by rw [e2]; exact Q2_ok
  refine XO.guardRun rfl rfl rfl ?_
  refine XO.v (V.errNil rfl Try.underlying40 rfl) rfl ?_
  refine XO.v (V.pick rfl rfl rfl rfl) rfl ?_
  refine XO.nil ?_
  refine XE.next ?_
  refine XC.keep [(0, _), (1, _), (2, _), (7, _), (32, _)] (Sub.cons rfl (Sub.cons rfl (Sub.cons rfl (Sub.cons rfl (Sub.cons rfl (Sub.nil _)))))) ?_
  refine XC.condFP rfl (by simp [hB]) ?_
  refine XC.skip ?_
  refine XE.next ?_
  refine XC.keep [(0, _), (1, _), (2, _), (7, _)] (Sub.cons rfl (Sub.cons rfl (Sub.cons rfl (Sub.cons rfl (Sub.nil _))))) ?_
  refine XC.seq ?_
  refine XC.seq ?_
  refine XC.region ?_
  refine XO.v (V.move rfl) rfl ?_
  refine XO.v (V.move rfl) rfl ?_
  refine XO.v (V.move rfl) rfl ?_
  refine XO.call rfl (f_quota _ _ t2 dQ hO2.inv t2R _ _ _) (.cons .here (.cons .here .nil)) cl_20 rfl ?_
  rintro _ _ ⟨rfl, t3, t3l, t3R, rfl⟩
  have hQE : t2.toSF.quoE 1 q p = Q2.quoE 1 q p := by rw [e2]
  refine XO.v (V.errNil rfl Try.underlying40 rfl) rfl ?_
  refine XO.nil ?_
  refine XE.next ?_
  refine XC.keep [(0, _), (1, _), (2, _), (7, _), (37, _)] (Sub.cons rfl (Sub.cons rfl (Sub.cons rfl (Sub.cons rfl (Sub.cons rfl (Sub.nil _)))))) ?_
  refine XC.condP rfl (fun h2 => ?_) (fun h2 => ?_)
  · skip
    have hbad := SF.quo_bad (q := q) (p := p) (by rw [← hQE]; assumption)
    refine XC.seq ?_
    refine XC.region ?_
    refine XO.v (V.move rfl) rfl ?_
    refine XO.v (V.cmp rfl rfl rfl) rfl ?_
    refine XO.v (V.move rfl) rfl ?_
    refine XO.splitP (d := 40) rfl (fun h3 => ?_) (fun h3 => ?_)
    · skip
      refine XO.guardSkip rfl rfl rfl rfl rfl ?_
      refine XO.guardSkip rfl rfl rfl rfl rfl ?_
      refine XO.v (V.pick rfl rfl rfl rfl) rfl ?_
      refine XO.v (V.move rfl) rfl ?_
      refine XO.guardSkip rfl rfl rfl rfl rfl ?_
      refine XO.guardSkip rfl rfl rfl rfl rfl ?_
      refine XO.v (V.pick rfl rfl rfl rfl) rfl ?_
      refine XO.v (V.move rfl) rfl ?_
      refine XO.guardSkip rfl rfl rfl rfl rfl ?_
      refine XO.guardSkip rfl rfl rfl rfl rfl ?_
      refine XO.guardSkip rfl rfl rfl rfl rfl ?_
      refine XO.v (V.pick rfl rfl rfl rfl) rfl ?_
      refine XO.v (V.assign rfl) rfl ?_
      refine XO.nil ?_
      refine XE.next ?_
      refine XC.keep [(6, _)] (Sub.cons rfl (Sub.nil _)) ?_
      refine XC.ret ?_
      refine XE.thenRet ?_
      refine XE.ret1 rfl rfl (post_of .nil rfl ?_)
      first
      | exact ⟨rfl, rfl⟩
      | exact ⟨congrArg Value.bool (decide_eq_true (by omega)), rfl⟩
    · skip
      refine XO.guardRun rfl rfl rfl ?_
      refine XO.v (V.move rfl) rfl ?_
      refine XO.guardRun rfl rfl rfl ?_
      refine XO.v (V.cmp rfl rfl rfl) rfl ?_
      refine XO.v (V.pick rfl rfl rfl rfl) rfl ?_
      refine XO.v (V.move rfl) rfl ?_
      refine XO.splitP (d := 44) rfl (fun h4 => ?_) (fun h4 => ?_)
      · skip
        refine XO.guardSkip rfl rfl rfl rfl rfl ?_
        refine XO.guardSkip rfl rfl rfl rfl rfl ?_
        refine XO.v (V.pick rfl rfl rfl rfl) rfl ?_
        refine XO.v (V.move rfl) rfl ?_
        refine XO.guardSkip rfl rfl rfl rfl rfl ?_
        refine XO.guardSkip rfl rfl rfl rfl rfl ?_
        refine XO.guardSkip rfl rfl rfl rfl rfl ?_
        refine XO.v (V.pick rfl rfl rfl rfl) rfl ?_
        refine XO.v (V.assign rfl) rfl ?_
        refine XO.nil ?_
        refine XE.next ?_
        refine XC.keep [(6, _)] (Sub.cons rfl (Sub.nil _)) ?_
        refine XC.ret ?_
        refine XE.thenRet ?_
        refine XE.ret1 rfl rfl (post_of .nil rfl ?_)
        first
        | exact ⟨rfl, rfl⟩
        | exact ⟨congrArg Value.bool (decide_eq_true (by omega)), rfl⟩
      · skip
        refine XO.guardRun rfl rfl rfl ?_
        refine XO.v (V.move rfl) rfl ?_
        refine XO.guardRun rfl rfl rfl ?_
        refine XO.v (V.cmp rfl rfl rfl) rfl ?_
        refine XO.v (V.pick rfl rfl rfl rfl) rfl ?_
        refine XO.v (V.move rfl) rfl ?_
        refine XO.splitP (d := 48) rfl (fun h5 => ?_) (fun h5 => ?_)
        · skip
          refine XO.guardSkip rfl rfl rfl rfl rfl ?_
          refine XO.guardSkip rfl rfl rfl rfl rfl ?_
          refine XO.guardSkip rfl rfl rfl rfl rfl ?_
          refine XO.v (V.pick rfl rfl rfl rfl) rfl ?_
          refine XO.v (V.assign rfl) rfl ?_
          refine XO.nil ?_
          refine XE.next ?_
          refine XC.keep [(6, _)] (Sub.cons rfl (Sub.nil _)) ?_
          refine XC.ret ?_
          refine XE.thenRet ?_
          refine XE.ret1 rfl rfl (post_of .nil rfl ?_)
          first
          | exact ⟨rfl, rfl⟩
          | exact ⟨congrArg Value.bool (decide_eq_true (by omega)), rfl⟩
        · skip
          refine XO.guardRun rfl rfl rfl ?_
          refine XO.v (V.move rfl) rfl ?_
          refine XO.guardRun rfl rfl rfl ?_
          refine XO.v (V.move rfl) rfl ?_
          refine XO.guardRun rfl rfl rfl ?_
          refine XO.v (V.cmp rfl rfl rfl) rfl ?_
          refine XO.v (V.pick rfl rfl rfl rfl) rfl ?_
          refine XO.v (V.assign rfl) rfl ?_
          refine XO.nil ?_
          refine XE.next ?_
          refine XC.keep [(6, _)] (Sub.cons rfl (Sub.nil _)) ?_
          refine XC.ret ?_
          refine XE.thenRet ?_
          refine XE.ret1 rfl rfl (post_of .nil rfl ?_)
          first
          | exact ⟨rfl, rfl⟩
          | exact ⟨congrArg Value.bool (decide_eq_true (by omega)), rfl⟩
  · skip
    have hQ0 : Q2.quoE 1 q p = 0 := by rw [← hQE]; simpa using h2
    obtain ⟨hq0, hp, hp1, hqp⟩ := SF.quo_good hQ0
    refine XC.skip ?_
    refine XE.next ?_
    refine XC.keep [(0, _), (1, _), (2, _), (7, _)] (Sub.cons rfl (Sub.cons rfl (Sub.cons rfl (Sub.cons rfl (Sub.nil _))))) ?_
    refine XC.seq ?_
    refine XC.seq ?_
    refine XC.region ?_
    refine XO.v (V.move rfl) rfl ?_
    refine XO.call rfl (light_any _ _ _ _) .nil cl_8 rfl ?_
    rintro _ _ ⟨rfl, rfl⟩
    refine XO.v (V.notP rfl) rfl ?_
    refine XO.v (V.move rfl) rfl ?_
    refine XO.splitP (d := 56) rfl (fun h6 => ?_) (fun h6 => ?_)
    · skip
      refine XO.guardSkip rfl rfl rfl rfl rfl ?_
      refine XO.guardSkip rfl rfl rfl rfl rfl ?_
      refine XO.v (V.pick rfl rfl rfl rfl) rfl ?_
      refine XO.nil ?_
      refine XE.next ?_
      refine XC.keep [(0, _), (1, _), (2, _), (7, _), (59, _)] (Sub.cons rfl (Sub.cons rfl (Sub.cons rfl (Sub.cons rfl (Sub.cons rfl (Sub.nil _)))))) ?_
      refine XC.condT rfl rfl ?_
      refine XC.seq ?_
      refine XC.region ?_
      refine XO.v (V.assign rfl) rfl ?_
      refine XO.nil ?_
      refine XE.next ?_
      refine XC.keep [(6, _)] (Sub.cons rfl (Sub.nil _)) ?_
      refine XC.ret ?_
      refine XE.thenRet ?_
      refine XE.ret1 rfl rfl (post_of .nil rfl ?_)
      first
      | exact ⟨rfl, rfl⟩
      | exact ⟨congrArg Value.bool (decide_eq_true (by omega)), rfl⟩
    · skip
      refine XO.guardRun rfl rfl rfl ?_
      refine XO.v (V.move rfl) rfl ?_
      refine XO.guardRun rfl rfl rfl ?_
      refine XO.v (V.cmp rfl rfl rfl) rfl ?_
      refine XO.v (V.pick rfl rfl rfl rfl) rfl ?_
      refine XO.nil ?_
      refine XE.next ?_
      refine XC.keep [(0, _), (1, _), (2, _), (7, _), (59, _)] (Sub.cons rfl (Sub.cons rfl (Sub.cons rfl (Sub.cons rfl (Sub.cons rfl (Sub.nil _)))))) ?_
      refine XC.condP rfl (fun h7 => ?_) (fun h7 => ?_)
      · skip
        refine XC.seq ?_
        refine XC.region ?_
        refine XO.v (V.assign rfl) rfl ?_
        refine XO.nil ?_
        refine XE.next ?_
        refine XC.keep [(6, _)] (Sub.cons rfl (Sub.nil _)) ?_
        refine XC.ret ?_
        refine XE.thenRet ?_
        refine XE.ret1 rfl rfl (post_of .nil rfl ?_)
        exact ⟨rfl, rfl⟩
      · skip
        have hq : 0 < q := by omega
        refine XC.skip ?_
        refine XE.next ?_
        refine XC.keep [(0, _), (1, _), (2, _), (7, _)] (Sub.cons rfl (Sub.cons rfl (Sub.cons rfl (Sub.cons rfl (Sub.nil _))))) ?_
        refine XC.seq ?_
        refine XC.seq ?_
        refine XC.region ?_
        refine XO.v (V.assign rfl) rfl ?_
        refine XO.nil ?_
        refine XE.next ?_
        refine XC.keep [(0, _), (1, _), (2, _), (7, _), (8, _)] (Sub.cons rfl (Sub.cons rfl (Sub.cons rfl (Sub.cons rfl (Sub.cons rfl (Sub.nil _)))))) ?_
        refine XC.block ?_
        refine XC.loop (σ := SC × Int) (fun y => (6 - y.2).toNat) (fun y => y.1.Rep ∧ y.1.toSF.TQ y.2 q p (fun _ => false) (fun _ => false) 0 0) (fun y => [(8, .int .i64 y.2), (0, .slice (some ⟨bl, ol, none⟩) len cap), (1, .int .i64 q), (2, .int .i64 p), (7, ptr bs 0 0)]) (fun y => XM W (foot [.ro bl ol (8 * len) (encActs A)]) [.cells bs 0 2281 (encS y.1), .fam fam30 (SC.rows 86 y.1), .ro bl ol (8 * len) (encActs A)]) ((t3, 0)) ?_ (Sub.cons rfl (Sub.cons rfl (Sub.cons rfl (Sub.cons rfl (Sub.cons rfl (Sub.nil _)))))) (fun _ hw => XM.pick (.cons .here (.cons .here (.cons .here .nil))) hw) ?_
        · skip
          exact ⟨t3R, by show t3.toSF.TQ 0 q p _ _ 0 0; rw [t3l, e2]; exact SF.TQ.start hQ0⟩
        intro y hy
        obtain ⟨yR, yT⟩ := hy
        have ym := yT.m0
        refine XC.seq ?_
        refine XC.seq ?_
        refine XC.region ?_
        refine XO.v (V.move rfl) rfl ?_
        refine XO.v (V.cmp rfl rfl rfl) rfl ?_
        refine XO.nil ?_
        refine XE.next ?_
        refine XC.keep [(0, _), (1, _), (2, _), (7, _), (8, _), (61, _)] (Sub.cons rfl (Sub.cons rfl (Sub.cons rfl (Sub.cons rfl (Sub.cons rfl (Sub.cons rfl (Sub.nil _))))))) ?_
        refine XC.condP rfl (fun h8 => ?_) (fun h8 => ?_)
        · skip
          refine XC.skip ?_
          refine XE.next ?_
          refine XC.keep [(0, _), (1, _), (2, _), (7, _), (8, _)] (Sub.cons rfl (Sub.cons rfl (Sub.cons rfl (Sub.cons rfl (Sub.cons rfl (Sub.nil _)))))) ?_
          refine XC.seq ?_
          refine XC.block ?_
          refine XC.seq ?_
          refine XC.region ?_
          refine XO.v (V.move rfl) rfl ?_
          refine XO.v (V.move rfl) rfl ?_
          refine XO.v (V.move rfl) rfl ?_
          refine XO.v (V.rem rfl rfl (by first | decide | omega) _ (Int.tmod_eq_emod_of_nonneg (by omega))) rfl ?_
          refine XO.v (V.move rfl) rfl ?_
          refine XO.v (V.add rfl rfl _ (IntWalk.i64_in _ (by omega))) rfl ?_
          obtain ⟨kE, kT⟩ := yT.add (by omega) (by omega) rfl
          refine XO.call rfl (f_AddTask _ _ y.1 dQ yT.ok.inv yR _ _ _) (.cons .here (.cons .here .nil)) cl_16 rfl ?_
          rintro _ _ ⟨rfl, t, tl, tR, rfl⟩
          refine XO.v (V.errNil rfl Try.underlying40 rfl) rfl ?_
          refine XO.nil ?_
          refine XE.next ?_
          refine XC.keep [(0, _), (1, _), (2, _), (7, _), (8, _), (71, _)] (Sub.cons rfl (Sub.cons rfl (Sub.cons rfl (Sub.cons rfl (Sub.cons rfl (Sub.cons rfl (Sub.nil _))))))) ?_
          refine XC.condFP rfl (by rw [kE]; simp) ?_
          refine XC.skip ?_
          refine XE.blockNormal ?_
          refine XE.next ?_
          refine XC.keep [(0, _), (1, _), (2, _), (7, _), (8, _)] (Sub.cons rfl (Sub.cons rfl (Sub.cons rfl (Sub.cons rfl (Sub.cons rfl (Sub.nil _)))))) ?_
          refine XC.region ?_
          refine XO.v (V.move rfl) rfl ?_
          refine XO.v (V.add rfl rfl _ (IntWalk.i64_in _ (by omega))) rfl ?_
          refine XO.v (V.assign rfl) rfl ?_
          refine XO.nil ?_
          refine XE.again ((t, y.2 + 1)) ?_ ?_ (Sub.cons rfl (Sub.cons rfl (Sub.cons rfl (Sub.cons rfl (Sub.cons rfl (Sub.nil _)))))) (fun _ hw => XM.pick (.cons .here (.cons .here (.cons .here .nil))) hw)
          · skip
            (simp; omega)
          · skip
            exact ⟨tR, by rw [tl]; exact kT⟩
        · skip
          refine XC.exit ?_
          refine XE.thenExit ?_
          refine XE.thenExit ?_
          refine XE.blockExit ?_
          refine XE.next ?_
          refine XC.keep [(0, _), (1, _), (2, _), (7, _)] (Sub.cons rfl (Sub.cons rfl (Sub.cons rfl (Sub.cons rfl (Sub.nil _))))) ?_
          refine XC.seq ?_
          refine XC.region ?_
          refine XO.allocZ (z := .agg (arrB (fun _ => false) 6)) (m := 6) (C := encBl (fun _ => false) 6) (by kernel_rfl) (arrB_size (fun _ => false) 6) (encBl.box (fun _ => false) 6) rfl ?_
          intro bk
          refine XO.nil ?_
          refine XE.next ?_
          refine XC.keep [(0, _), (1, _), (2, _), (7, _), (9, _)] (Sub.cons rfl (Sub.cons rfl (Sub.cons rfl (Sub.cons rfl (Sub.cons rfl (Sub.nil _)))))) ?_
          refine XC.seq ?_
          refine XC.region ?_
          refine XO.allocZ (z := .agg (arrB (fun _ => false) 3)) (m := 3) (C := encBl (fun _ => false) 3) (by kernel_rfl) (arrB_size (fun _ => false) 3) (encBl.box (fun _ => false) 3) rfl ?_
          intro bf
          refine XO.nil ?_
          refine XE.next ?_
          refine XC.keep [(0, _), (1, _), (2, _), (7, _), (9, _), (10, _)] (Sub.cons rfl (Sub.cons rfl (Sub.cons rfl (Sub.cons rfl (Sub.cons rfl (Sub.cons rfl (Sub.nil _))))))) ?_
          refine XC.seq ?_
          refine XC.region ?_
          refine XO.v (V.assign rfl) rfl ?_
          refine XO.nil ?_
          refine XE.next ?_
          refine XC.keep [(0, _), (1, _), (2, _), (7, _), (9, _), (10, _), (11, _)] (Sub.cons rfl (Sub.cons rfl (Sub.cons rfl (Sub.cons rfl (Sub.cons rfl (Sub.cons rfl (Sub.cons rfl (Sub.nil _)))))))) ?_
          refine XC.seq ?_
          refine XC.seq ?_
          refine XC.region ?_
          refine XO.v (V.assign rfl) rfl ?_
          refine XO.nil ?_
          refine XE.next ?_
          refine XC.keep [(0, _), (1, _), (2, _), (7, _), (9, _), (10, _), (11, _), (12, _)] (Sub.cons rfl (Sub.cons rfl (Sub.cons rfl (Sub.cons rfl (Sub.cons rfl (Sub.cons rfl (Sub.cons rfl (Sub.cons rfl (Sub.nil _))))))))) ?_
          refine XC.block ?_
          have hy6 : y.2 = 6 := by omega
          rw [hy6] at yT
          refine XC.loop (σ := SC × (Int → Bool) × (Int → Bool) × Int × Int) (fun z => (len - z.2.2.2.2).toNat) (fun z => z.1.Rep ∧ z.1.toSF.TQ 6 q p z.2.1 z.2.2.1 z.2.2.2.1 (30 * z.2.2.2.2) ∧ 0 ≤ z.2.2.2.2 ∧ z.2.2.2.2 ≤ len) (fun z => [(11, .int .i64 z.2.2.2.1), (12, .int .i64 z.2.2.2.2), (0, .slice (some ⟨bl, ol, none⟩) len cap), (1, .int .i64 q), (2, .int .i64 p), (7, ptr bs 0 0), (9, ptr bk 0 0), (10, ptr bf 0 0)]) (fun z => XM W (foot [.ro bl ol (8 * len) (encActs A)]) [.cells bs 0 2281 (encS z.1), .fam fam30 (SC.rows 86 z.1), .cells bk 0 6 (encBl z.2.1 6), .cells bf 0 3 (encBl z.2.2.1 3), .ro bl ol (8 * len) (encActs A)]) ((y.1, (fun _ => false), (fun _ => false), 0, 0)) ?_ (Sub.cons rfl (Sub.cons rfl (Sub.cons rfl (Sub.cons rfl (Sub.cons rfl (Sub.cons rfl (Sub.cons rfl (Sub.cons rfl (Sub.nil _))))))))) (fun _ hw => XM.pick (.cons (.there (.there .here)) (.cons (.there (.there .here)) (.cons (.there .here) (.cons .here (.cons .here .nil))))) hw) ?_
          · skip
            exact ⟨yR, yT, by simp, by simp⟩
          intro z hz
          obtain ⟨zR, zT, zi0, zi1⟩ := hz
          refine XC.seq ?_
          refine XC.seq ?_
          refine XC.region ?_
          refine XO.v (V.move rfl) rfl ?_
          refine XO.v (V.move rfl) rfl ?_
          refine XO.v (V.lenSl rfl Try.underlying22) rfl ?_
          refine XO.v (V.cmp rfl rfl rfl) rfl ?_
          refine XO.nil ?_
          refine XE.next ?_
          refine XC.keep [(0, _), (1, _), (2, _), (7, _), (9, _), (10, _), (11, _), (12, _), (75, _)] (Sub.cons rfl (Sub.cons rfl (Sub.cons rfl (Sub.cons rfl (Sub.cons rfl (Sub.cons rfl (Sub.cons rfl (Sub.cons rfl (Sub.cons rfl (Sub.nil _)))))))))) ?_
          refine XC.condP rfl (fun h9 => ?_) (fun h9 => ?_)
          · skip
            refine XC.skip ?_
            refine XE.next ?_
            refine XC.keep [(0, _), (1, _), (2, _), (7, _), (9, _), (10, _), (11, _), (12, _)] (Sub.cons rfl (Sub.cons rfl (Sub.cons rfl (Sub.cons rfl (Sub.cons rfl (Sub.cons rfl (Sub.cons rfl (Sub.cons rfl (Sub.nil _))))))))) ?_
            refine XC.seq ?_
            refine XC.block ?_
            refine XC.seq ?_
            refine XC.region ?_
            refine XO.v (V.move rfl) rfl ?_
            refine XO.v (V.move rfl) rfl ?_
            refine XO.v (V.indexSl rfl rfl sl_22 (by omega)) rfl ?_
            refine XO.v (V.loadAggRo rfl (inXM (.there (.there (.there (.there .here))))) (acts_load A len _ (by omega)) ag_32 sz_32_8) rfl ?_
            refine XO.allocZ (z := .agg actZero) (m := 8) (C := cellsOf actZero) (by kernel_rfl) rfl (fun _ _ => rfl) rfl ?_
            intro ba
            refine XO.storeAgg rfl rfl .here (acts_store _) ⟨rfl, rfl⟩ sz_32_8 ?_
            refine XO.nil ?_
            refine XE.next ?_
            refine XC.keep [(0, _), (1, _), (2, _), (7, _), (9, _), (10, _), (11, _), (12, _), (13, _)] (Sub.cons rfl (Sub.cons rfl (Sub.cons rfl (Sub.cons rfl (Sub.cons rfl (Sub.cons rfl (Sub.cons rfl (Sub.cons rfl (Sub.cons rfl (Sub.nil _)))))))))) ?_
            refine XC.seq ?_
            refine XC.seq ?_
            refine XC.region ?_
            refine XO.v (V.fieldAddr rfl fo_32_0) rfl ?_
            refine XO.v (V.load rfl (inXM .here) (encAct.ld_Kind _) sc_9) rfl ?_
            refine XO.nil ?_
            refine XE.next ?_
            refine XC.keep [(0, _), (1, _), (2, _), (7, _), (9, _), (10, _), (11, _), (12, _), (13, _), (83, _)] (Sub.cons rfl (Sub.cons rfl (Sub.cons rfl (Sub.cons rfl (Sub.cons rfl (Sub.cons rfl (Sub.cons rfl (Sub.cons rfl (Sub.cons rfl (Sub.cons rfl (Sub.nil _))))))))))) ?_
            refine XC.block ?_
            refine XC.seq ?_
            refine XC.region ?_
            refine XO.v (V.strCmp rfl rfl rfl) rfl ?_
            refine XO.v (V.assign rfl) rfl ?_
            refine XO.nil ?_
            refine XE.next ?_
            refine XC.keep [(0, _), (1, _), (2, _), (7, _), (9, _), (10, _), (11, _), (12, _), (13, _), (83, _), (84, _)] (Sub.cons rfl (Sub.cons rfl (Sub.cons rfl (Sub.cons rfl (Sub.cons rfl (Sub.cons rfl (Sub.cons rfl (Sub.cons rfl (Sub.cons rfl (Sub.cons rfl (Sub.cons rfl (Sub.nil _)))))))))))) ?_
            refine XC.condP rfl (fun h10 => ?_) (fun h10 => ?_)
            · skip
              refine XC.seq ?_
              refine XC.seq ?_
              refine XC.region ?_
              refine XO.v (V.move rfl) rfl ?_
              refine XO.v (V.fieldAddr rfl fo_32_1) rfl ?_
              refine XO.v (V.load rfl (inXM .here) (encAct.ld_A _) sc_3) rfl ?_
              refine XO.v (V.fieldAddr rfl fo_32_5) rfl ?_
              refine XO.v (V.load rfl (inXM .here) (encAct.ld_On _) sc_4) rfl ?_
              refine XO.call rfl (f_wake _ _ z.1 dQ zT.ok.inv zR _ _) (.cons (.there .here) (.cons (.there .here) .nil)) cl_17 rfl ?_
              rintro _ _ ⟨rfl, t, tl, tR, rfl⟩
              refine XO.v (V.errNil rfl Try.underlying40 rfl) rfl ?_
              refine XO.nil ?_
              refine XE.next ?_
              refine XC.keep [(0, _), (1, _), (2, _), (7, _), (9, _), (10, _), (11, _), (12, _), (13, _), (92, _)] (Sub.cons rfl (Sub.cons rfl (Sub.cons rfl (Sub.cons rfl (Sub.cons rfl (Sub.cons rfl (Sub.cons rfl (Sub.cons rfl (Sub.cons rfl (Sub.cons rfl (Sub.nil _))))))))))) ?_
              refine XC.condP rfl (fun h11 => ?_) (fun h11 => ?_)
              · skip
                refine XC.region ?_
                have han := zT.tkE (x := (A z.2.2.2.2).a) (by assumption)
                refine XO.v (V.fieldAddr rfl fo_32_1) rfl ?_
                refine XO.v (V.load rfl (inXM (.there (.there .here))) (encAct.ld_A _) sc_3) rfl ?_
                refine XO.v (V.fieldAddr rfl fo_32_5) rfl ?_
                refine XO.v (V.load rfl (inXM (.there (.there .here))) (encAct.ld_On _) sc_4) rfl ?_
                refine XO.v (V.indexArr rfl rfl ar_54 (by omega)) rfl ?_
                refine XO.store rfl rfl (.there (.there (.there .here))) (encBl.st _ _ _ _ (by omega)) rfl sz_4_1 ?_
                refine XO.nil ?_
                refine XE.next ?_
                refine XC.keep [(0, _), (1, _), (2, _), (7, _), (9, _), (10, _), (11, _), (12, _)] (Sub.cons rfl (Sub.cons rfl (Sub.cons rfl (Sub.cons rfl (Sub.cons rfl (Sub.cons rfl (Sub.cons rfl (Sub.cons rfl (Sub.nil _))))))))) ?_
                refine XC.exit ?_
                refine XE.blockOther rfl ?_
                refine XE.thenExit ?_
                refine XE.blockExit ?_
                refine XE.next ?_
                refine XC.keep [(0, _), (1, _), (2, _), (7, _), (9, _), (10, _), (11, _), (12, _)] (Sub.cons rfl (Sub.cons rfl (Sub.cons rfl (Sub.cons rfl (Sub.cons rfl (Sub.cons rfl (Sub.cons rfl (Sub.cons rfl (Sub.nil _))))))))) ?_
                refine XC.region ?_
                refine XO.v (V.move rfl) rfl ?_
                refine XO.v (V.add rfl rfl _ (IntWalk.i64_in _ (by omega))) rfl ?_
                refine XO.v (V.assign rfl) rfl ?_
                refine XO.nil ?_
                refine XE.again ((t, fset z.2.1 (A z.2.2.2.2).a (A z.2.2.2.2).on, z.2.2.1, z.2.2.2.1, z.2.2.2.2 + 1)) ?_ ?_ (Sub.cons rfl (Sub.cons rfl (Sub.cons rfl (Sub.cons rfl (Sub.cons rfl (Sub.cons rfl (Sub.cons rfl (Sub.cons rfl (Sub.nil _))))))))) (fun _ hw => XM.pick (.cons .here (.cons .here (.cons (.there .here) (.cons (.there .here) (.cons (.there .here) .nil))))) hw)
                · skip
                  (simp; omega)
                · skip
                  exact ⟨tR, by rw [tl]; exact (zT.wake _ (by assumption)).more (show 30 * z.2.2.2.2 ≤ 30 * (z.2.2.2.2 + 1) by omega), by simp; omega, by simp; omega⟩
              · skip
                refine XC.skip ?_
                refine XE.next ?_
                refine XC.keep [(0, _), (1, _), (2, _), (7, _), (9, _), (10, _), (11, _), (12, _)] (Sub.cons rfl (Sub.cons rfl (Sub.cons rfl (Sub.cons rfl (Sub.cons rfl (Sub.cons rfl (Sub.cons rfl (Sub.cons rfl (Sub.nil _))))))))) ?_
                refine XC.exit ?_
                refine XE.blockOther rfl ?_
                refine XE.thenExit ?_
                refine XE.blockExit ?_
                refine XE.next ?_
                refine XC.keep [(0, _), (1, _), (2, _), (7, _), (9, _), (10, _), (11, _), (12, _)] (Sub.cons rfl (Sub.cons rfl (Sub.cons rfl (Sub.cons rfl (Sub.cons rfl (Sub.cons rfl (Sub.cons rfl (Sub.cons rfl (Sub.nil _))))))))) ?_
                refine XC.region ?_
                refine XO.v (V.move rfl) rfl ?_
                refine XO.v (V.add rfl rfl _ (IntWalk.i64_in _ (by omega))) rfl ?_
                refine XO.v (V.assign rfl) rfl ?_
                refine XO.nil ?_
                refine XE.again ((t, z.2.1, z.2.2.1, z.2.2.2.1, z.2.2.2.2 + 1)) ?_ ?_ (Sub.cons rfl (Sub.cons rfl (Sub.cons rfl (Sub.cons rfl (Sub.cons rfl (Sub.cons rfl (Sub.cons rfl (Sub.cons rfl (Sub.nil _))))))))) (fun _ hw => XM.pick (.cons .here (.cons .here (.cons (.there .here) (.cons (.there .here) (.cons (.there .here) .nil))))) hw)
                · skip
                  (simp; omega)
                · skip
                  have et : t.toSF = z.1.toSF := tl.trans (SF.TW.nowake (by assumption) dQ)
                  exact ⟨tR, by rw [et]; exact zT.more (show 30 * z.2.2.2.2 ≤ 30 * (z.2.2.2.2 + 1) by omega), by simp; omega, by simp; omega⟩
            · skip
              refine XC.seq ?_
              refine XC.region ?_
              refine XO.v (V.strCmp rfl rfl rfl) rfl ?_
              refine XO.v (V.assign rfl) rfl ?_
              refine XO.nil ?_
              refine XE.next ?_
              refine XC.keep [(0, _), (1, _), (2, _), (7, _), (9, _), (10, _), (11, _), (12, _), (13, _), (98, _)] (Sub.cons rfl (Sub.cons rfl (Sub.cons rfl (Sub.cons rfl (Sub.cons rfl (Sub.cons rfl (Sub.cons rfl (Sub.cons rfl (Sub.cons rfl (Sub.cons rfl (Sub.nil _))))))))))) ?_
              refine XC.condP rfl (fun h12 => ?_) (fun h12 => ?_)
              · skip
                refine XC.seq ?_
                refine XC.seq ?_
                refine XC.region ?_
                refine XO.v (V.move rfl) rfl ?_
                refine XO.v (V.fieldAddr rfl fo_32_1) rfl ?_
                refine XO.v (V.load rfl (inXM .here) (encAct.ld_A _) sc_3) rfl ?_
                refine XO.v (V.fieldAddr rfl fo_32_5) rfl ?_
                refine XO.v (V.load rfl (inXM .here) (encAct.ld_On _) sc_4) rfl ?_
                refine XO.call rfl (f_freeze _ _ z.1 dQ zT.ok.inv zR _ _) (.cons (.there .here) (.cons (.there .here) .nil)) cl_21 rfl ?_
                rintro _ _ ⟨rfl, t, tl, tR, rfl⟩
                refine XO.v (V.errNil rfl Try.underlying40 rfl) rfl ?_
                refine XO.nil ?_
                refine XE.next ?_
                refine XC.keep [(0, _), (1, _), (2, _), (7, _), (9, _), (10, _), (11, _), (12, _), (13, _), (106, _)] (Sub.cons rfl (Sub.cons rfl (Sub.cons rfl (Sub.cons rfl (Sub.cons rfl (Sub.cons rfl (Sub.cons rfl (Sub.cons rfl (Sub.cons rfl (Sub.cons rfl (Sub.nil _))))))))))) ?_
                refine XC.condP rfl (fun h13 => ?_) (fun h13 => ?_)
                · skip
                  refine XC.region ?_
                  have han := zT.frzE (x := (A z.2.2.2.2).a) (by assumption)
                  refine XO.v (V.fieldAddr rfl fo_32_1) rfl ?_
                  refine XO.v (V.load rfl (inXM (.there (.there .here))) (encAct.ld_A _) sc_3) rfl ?_
                  refine XO.v (V.fieldAddr rfl fo_32_5) rfl ?_
                  refine XO.v (V.load rfl (inXM (.there (.there .here))) (encAct.ld_On _) sc_4) rfl ?_
                  refine XO.v (V.indexArr rfl rfl ar_55 (by omega)) rfl ?_
                  refine XO.store rfl rfl (.there (.there (.there (.there .here)))) (encBl.st _ _ _ _ (by omega)) rfl sz_4_1 ?_
                  refine XO.nil ?_
                  refine XE.next ?_
                  refine XC.keep [(0, _), (1, _), (2, _), (7, _), (9, _), (10, _), (11, _), (12, _)] (Sub.cons rfl (Sub.cons rfl (Sub.cons rfl (Sub.cons rfl (Sub.cons rfl (Sub.cons rfl (Sub.cons rfl (Sub.cons rfl (Sub.nil _))))))))) ?_
                  refine XC.exit ?_
                  refine XE.blockOther rfl ?_
                  refine XE.thenExit ?_
                  refine XE.blockExit ?_
                  refine XE.next ?_
                  refine XC.keep [(0, _), (1, _), (2, _), (7, _), (9, _), (10, _), (11, _), (12, _)] (Sub.cons rfl (Sub.cons rfl (Sub.cons rfl (Sub.cons rfl (Sub.cons rfl (Sub.cons rfl (Sub.cons rfl (Sub.cons rfl (Sub.nil _))))))))) ?_
                  refine XC.region ?_
                  refine XO.v (V.move rfl) rfl ?_
                  refine XO.v (V.add rfl rfl _ (IntWalk.i64_in _ (by omega))) rfl ?_
                  refine XO.v (V.assign rfl) rfl ?_
                  refine XO.nil ?_
                  refine XE.again ((t, z.2.1, fset z.2.2.1 (A z.2.2.2.2).a (A z.2.2.2.2).on, z.2.2.2.1, z.2.2.2.2 + 1)) ?_ ?_ (Sub.cons rfl (Sub.cons rfl (Sub.cons rfl (Sub.cons rfl (Sub.cons rfl (Sub.cons rfl (Sub.cons rfl (Sub.cons rfl (Sub.nil _))))))))) (fun _ hw => XM.pick (.cons .here (.cons .here (.cons (.there .here) (.cons (.there .here) (.cons (.there .here) .nil))))) hw)
                  · skip
                    (simp; omega)
                  · skip
                    exact ⟨tR, by rw [tl]; exact (zT.freeze _ (by assumption)).more (show 30 * z.2.2.2.2 ≤ 30 * (z.2.2.2.2 + 1) by omega), by simp; omega, by simp; omega⟩
                · skip
                  refine XC.skip ?_
                  refine XE.next ?_
                  refine XC.keep [(0, _), (1, _), (2, _), (7, _), (9, _), (10, _), (11, _), (12, _)] (Sub.cons rfl (Sub.cons rfl (Sub.cons rfl (Sub.cons rfl (Sub.cons rfl (Sub.cons rfl (Sub.cons rfl (Sub.cons rfl (Sub.nil _))))))))) ?_
                  refine XC.exit ?_
                  refine XE.blockOther rfl ?_
                  refine XE.thenExit ?_
                  refine XE.blockExit ?_
                  refine XE.next ?_
                  refine XC.keep [(0, _), (1, _), (2, _), (7, _), (9, _), (10, _), (11, _), (12, _)] (Sub.cons rfl (Sub.cons rfl (Sub.cons rfl (Sub.cons rfl (Sub.cons rfl (Sub.cons rfl (Sub.cons rfl (Sub.cons rfl (Sub.nil _))))))))) ?_
                  refine XC.region ?_
                  refine XO.v (V.move rfl) rfl ?_
                  refine XO.v (V.add rfl rfl _ (IntWalk.i64_in _ (by omega))) rfl ?_
                  refine XO.v (V.assign rfl) rfl ?_
                  refine XO.nil ?_
                  refine XE.again ((t, z.2.1, z.2.2.1, z.2.2.2.1, z.2.2.2.2 + 1)) ?_ ?_ (Sub.cons rfl (Sub.cons rfl (Sub.cons rfl (Sub.cons rfl (Sub.cons rfl (Sub.cons rfl (Sub.cons rfl (Sub.cons rfl (Sub.nil _))))))))) (fun _ hw => XM.pick (.cons .here (.cons .here (.cons (.there .here) (.cons (.there .here) (.cons (.there .here) .nil))))) hw)
                  · skip
                    (simp; omega)
                  · skip
                    have et : t.toSF = z.1.toSF := tl.trans (SF.nofreeze (by assumption) dQ)
                    exact ⟨tR, by rw [et]; exact zT.more (show 30 * z.2.2.2.2 ≤ 30 * (z.2.2.2.2 + 1) by omega), by simp; omega, by simp; omega⟩
              · skip
                refine XC.skip ?_
                refine XE.blockNormal ?_
                refine XE.next ?_
                refine XC.keep [(0, _), (1, _), (2, _), (7, _), (9, _), (10, _), (11, _), (12, _), (13, _)] (Sub.cons rfl (Sub.cons rfl (Sub.cons rfl (Sub.cons rfl (Sub.cons rfl (Sub.cons rfl (Sub.cons rfl (Sub.cons rfl (Sub.cons rfl (Sub.nil _)))))))))) ?_
                refine XC.seq ?_
                refine XC.region ?_
                refine XO.v (V.assign rfl) rfl ?_
                refine XO.nil ?_
                refine XE.next ?_
                refine XC.keep [(0, _), (1, _), (2, _), (7, _), (9, _), (10, _), (11, _), (12, _), (13, _), (14, _)] (Sub.cons rfl (Sub.cons rfl (Sub.cons rfl (Sub.cons rfl (Sub.cons rfl (Sub.cons rfl (Sub.cons rfl (Sub.cons rfl (Sub.cons rfl (Sub.cons rfl (Sub.nil _))))))))))) ?_
                refine XC.block ?_
                refine XC.loop (σ := SC × Int × Int) (fun c => (30 - c.2.2).toNat) (fun c => c.1.Rep ∧ c.1.toSF.TQ 6 q p z.2.1 z.2.2.1 c.2.1 (30 * z.2.2.2.2 + c.2.2) ∧ 0 ≤ c.2.2 ∧ c.2.2 ≤ 30) (fun c => [(11, .int .i64 c.2.1), (14, .int .i64 c.2.2), (0, .slice (some ⟨bl, ol, none⟩) len cap), (1, .int .i64 q), (2, .int .i64 p), (7, ptr bs 0 0), (9, ptr bk 0 0), (10, ptr bf 0 0), (12, .int .i64 z.2.2.2.2), (13, ptr ba 0 0)]) (fun c => XM W (foot [.ro bl ol (8 * len) (encActs A)]) [.cells bs 0 2281 (encS c.1), .fam fam30 (SC.rows 86 c.1), .cells bk 0 6 (encBl z.2.1 6), .cells bf 0 3 (encBl z.2.2.1 3), .cells ba 0 8 (encAct (A z.2.2.2.2)), .ro bl ol (8 * len) (encActs A)]) ((z.1, z.2.2.2.1, 0)) ?_ (Sub.cons rfl (Sub.cons rfl (Sub.cons rfl (Sub.cons rfl (Sub.cons rfl (Sub.cons rfl (Sub.cons rfl (Sub.cons rfl (Sub.cons rfl (Sub.cons rfl (Sub.nil _))))))))))) (fun _ hw => XM.pick (.cons (.there .here) (.cons (.there .here) (.cons (.there .here) (.cons (.there .here) (.cons .here (.cons .here .nil)))))) hw) ?_
                · skip
                  exact ⟨zR, zT.more (by simp), by simp, by simp⟩
                intro c hc
                obtain ⟨cR, cT, ck0, ck1⟩ := hc
                have cU := cT.U0
                have cN := cT.ok.now
                refine XC.seq ?_
                refine XC.seq ?_
                refine XC.region ?_
                refine XO.v (V.move rfl) rfl ?_
                refine XO.v (V.fieldAddr rfl fo_32_2) rfl ?_
                refine XO.v (V.load rfl (inXM (.there (.there (.there (.there .here))))) (encAct.ld_B _) sc_3) rfl ?_
                refine XO.v (V.min2 rfl rfl) rfl ?_
                refine XO.v (V.cmp rfl rfl rfl) rfl ?_
                refine XO.nil ?_
                refine XE.next ?_
                refine XC.keep [(0, _), (1, _), (2, _), (7, _), (9, _), (10, _), (11, _), (12, _), (13, _), (14, _), (116, _)] (Sub.cons rfl (Sub.cons rfl (Sub.cons rfl (Sub.cons rfl (Sub.cons rfl (Sub.cons rfl (Sub.cons rfl (Sub.cons rfl (Sub.cons rfl (Sub.cons rfl (Sub.cons rfl (Sub.nil _)))))))))))) ?_
                refine XC.condP rfl (fun h14 => ?_) (fun h14 => ?_)
                · skip
                  refine XC.skip ?_
                  refine XE.next ?_
                  refine XC.keep [(0, _), (1, _), (2, _), (7, _), (9, _), (10, _), (11, _), (12, _), (13, _), (14, _)] (Sub.cons rfl (Sub.cons rfl (Sub.cons rfl (Sub.cons rfl (Sub.cons rfl (Sub.cons rfl (Sub.cons rfl (Sub.cons rfl (Sub.cons rfl (Sub.cons rfl (Sub.nil _))))))))))) ?_
                  refine XC.seq ?_
                  refine XC.block ?_
                  refine XC.cutG (σ := Int) (fun u => u = if c.1.toSF.now % p = 0 then 0 else c.2.1) (fun u => [(0, .slice (some ⟨bl, ol, none⟩) len cap), (1, .int .i64 q), (2, .int .i64 p), (7, ptr bs 0 0), (9, ptr bk 0 0), (10, ptr bf 0 0), (11, .int .i64 u), (12, .int .i64 z.2.2.2.2), (13, ptr ba 0 0), (14, .int .i64 c.2.2)]) (fun u => XM W (foot [.ro bl ol (8 * len) (encActs A)]) [.cells bs 0 2281 (encS c.1), .fam fam30 (SC.rows 86 c.1), .cells bk 0 6 (encBl z.2.1 6), .cells bf 0 3 (encBl z.2.2.1 3), .cells ba 0 8 (encAct (A z.2.2.2.2)), .ro bl ol (8 * len) (encActs A)]) ?_ ?_
                  · skip
                    refine XC.seq ?_
                    refine XC.region ?_
                    refine XO.v (V.move rfl) rfl ?_
                    refine XO.call rfl (f_now _ _ _) (.cons .here .nil) cl_12 rfl ?_
                    rintro _ _ ⟨rfl, rfl⟩
                    refine XO.v (V.move rfl) rfl ?_
                    refine XO.v (V.rem rfl rfl (by first | decide | omega) _ (Int.tmod_eq_emod_of_nonneg (by omega))) rfl ?_
                    refine XO.v (V.cmp rfl rfl rfl) rfl ?_
                    refine XO.nil ?_
                    refine XE.next ?_
                    refine XC.keep [(0, _), (1, _), (2, _), (7, _), (9, _), (10, _), (11, _), (12, _), (13, _), (14, _), (123, _)] (Sub.cons rfl (Sub.cons rfl (Sub.cons rfl (Sub.cons rfl (Sub.cons rfl (Sub.cons rfl (Sub.cons rfl (Sub.cons rfl (Sub.cons rfl (Sub.cons rfl (Sub.cons rfl (Sub.nil _)))))))))))) ?_
                    refine XC.condP rfl (fun h15 => ?_) (fun h15 => ?_)
                    · skip
                      refine XC.region ?_
                      refine XO.v (V.assign rfl) rfl ?_
                      refine XO.nil ?_
                      refine XE.meetG (0) ?_ (Sub.cons rfl (Sub.cons rfl (Sub.cons rfl (Sub.cons rfl (Sub.cons rfl (Sub.cons rfl (Sub.cons rfl (Sub.cons rfl (Sub.cons rfl (Sub.cons rfl (Sub.nil _))))))))))) (fun _ hw => XM.pick (.cons .here (.cons .here (.cons .here (.cons .here (.cons .here (.cons .here .nil)))))) hw)
                      exact (if_pos (by assumption)).symm
                    · skip
                      refine XC.skip ?_
                      refine XE.meetG (c.2.1) ?_ (Sub.cons rfl (Sub.cons rfl (Sub.cons rfl (Sub.cons rfl (Sub.cons rfl (Sub.cons rfl (Sub.cons rfl (Sub.cons rfl (Sub.cons rfl (Sub.cons rfl (Sub.nil _))))))))))) (fun _ hw => XM.pick (.cons .here (.cons .here (.cons .here (.cons .here (.cons .here (.cons .here .nil)))))) hw)
                      exact (if_neg (by assumption)).symm
                  intro u hu
                  have uB : 0 ≤ u ∧ u ≤ 30 * z.2.2.2.2 + c.2.2 := by rw [hu]; split <;> omega
                  refine XC.seq ?_
                  refine XC.region ?_
                  refine XO.v (V.move rfl) rfl ?_
                  refine XO.call rfl (f_Tick _ _ c.1 dQ cT.ok.inv cR (fun n a b => by have := SF.dQ_le n; omega) (2000000000 * (30 * z.2.2.2.2 + c.2.2)) ⟨by omega, by omega⟩ cT.ok.small ⟨cT.ok.now.1, by have := cT.ok.now; omega⟩ (cT.ok.tick0 (by omega)).set) (.cons .here (.cons .here .nil)) cl_18 rfl ?_
                  rintro _ _ ⟨rfl, t, tl, tR, rfl⟩
                  refine XO.v (V.assign rfl) rfl ?_
                  refine XO.nil ?_
                  refine XE.next ?_
                  refine XC.keep [(0, _), (1, _), (2, _), (7, _), (9, _), (10, _), (11, _), (12, _), (13, _), (14, _), (15, _)] (Sub.cons rfl (Sub.cons rfl (Sub.cons rfl (Sub.cons rfl (Sub.cons rfl (Sub.cons rfl (Sub.cons rfl (Sub.cons rfl (Sub.cons rfl (Sub.cons rfl (Sub.cons rfl (Sub.nil _)))))))))))) ?_
                  refine XC.seq ?_
                  refine XC.seq ?_
                  refine XC.region ?_
                  obtain ⟨⟨q0, q1⟩, q2, q3, qT⟩ := cT.tick hq hp (by omega) hu
                  refine XO.v (V.move rfl) rfl ?_
                  refine XO.v (V.cmp rfl rfl rfl) rfl ?_
                  refine XO.v (V.move rfl) rfl ?_
                  refine XO.splitF (d := 128) rfl (by omega) ?_
                  refine XO.guardRun rfl rfl rfl ?_
                  refine XO.v (V.move rfl) rfl ?_
                  refine XO.guardRun rfl rfl rfl ?_
                  refine XO.v (V.cmp rfl rfl rfl) rfl ?_
                  refine XO.v (V.pick rfl rfl rfl rfl) rfl ?_
                  refine XO.nil ?_
                  refine XE.next ?_
                  refine XC.keep [(0, _), (1, _), (2, _), (7, _), (9, _), (10, _), (11, _), (12, _), (13, _), (14, _), (15, _), (131, _)] (Sub.cons rfl (Sub.cons rfl (Sub.cons rfl (Sub.cons rfl (Sub.cons rfl (Sub.cons rfl (Sub.cons rfl (Sub.cons rfl (Sub.cons rfl (Sub.cons rfl (Sub.cons rfl (Sub.cons rfl (Sub.nil _))))))))))))) ?_
                  refine XC.condFP rfl (by omega) ?_
                  refine XC.skip ?_
                  refine XE.next ?_
                  refine XC.keep [(0, _), (1, _), (2, _), (7, _), (9, _), (10, _), (11, _), (12, _), (13, _), (14, _), (15, _)] (Sub.cons rfl (Sub.cons rfl (Sub.cons rfl (Sub.cons rfl (Sub.cons rfl (Sub.cons rfl (Sub.cons rfl (Sub.cons rfl (Sub.cons rfl (Sub.cons rfl (Sub.cons rfl (Sub.nil _)))))))))))) ?_
                  refine XC.seq ?_
                  refine XC.region ?_
                  refine XO.v (V.assign rfl) rfl ?_
                  refine XO.nil ?_
                  refine XE.next ?_
                  refine XC.keep [(0, _), (1, _), (2, _), (7, _), (9, _), (10, _), (11, _), (12, _), (13, _), (14, _), (15, _), (16, _)] (Sub.cons rfl (Sub.cons rfl (Sub.cons rfl (Sub.cons rfl (Sub.cons rfl (Sub.cons rfl (Sub.cons rfl (Sub.cons rfl (Sub.cons rfl (Sub.cons rfl (Sub.cons rfl (Sub.cons rfl (Sub.nil _))))))))))))) ?_
                  refine XC.seq ?_
                  refine XC.seq ?_
                  refine XC.region ?_
                  refine XO.v (V.assign rfl) rfl ?_
                  refine XO.nil ?_
                  refine XE.next ?_
                  refine XC.keep [(0, _), (1, _), (2, _), (7, _), (9, _), (10, _), (11, _), (12, _), (13, _), (14, _), (15, _), (16, _), (17, _)] (Sub.cons rfl (Sub.cons rfl (Sub.cons rfl (Sub.cons rfl (Sub.cons rfl (Sub.cons rfl (Sub.cons rfl (Sub.cons rfl (Sub.cons rfl (Sub.cons rfl (Sub.cons rfl (Sub.cons rfl (Sub.cons rfl (Sub.nil _)))))))))))))) ?_
                  refine XC.block ?_
                  refine XC.loop (σ := Bool × Int) (fun g => (6 - g.2).toNat) (fun g => (0 ≤ g.2 ∧ g.2 ≤ 6) ∧ (g.1 = true ↔ ∃ j, 0 ≤ j ∧ j < g.2 ∧ z.2.1 j = true ∧ stopB z.2.2.1 q u j = false)) (fun g => [(16, .bool g.1), (17, .int .i64 g.2), (0, .slice (some ⟨bl, ol, none⟩) len cap), (1, .int .i64 q), (2, .int .i64 p), (7, ptr bs 0 0), (9, ptr bk 0 0), (10, ptr bf 0 0), (11, .int .i64 u), (12, .int .i64 z.2.2.2.2), (13, ptr ba 0 0), (14, .int .i64 c.2.2), (15, .int .i64 (c.1.toSF.tick dQ).1)]) (fun g => XM W (foot [.ro bl ol (8 * len) (encActs A)]) [.cells bs 0 2281 (encS t), .fam fam30 (SC.rows 86 t), .cells bk 0 6 (encBl z.2.1 6), .cells bf 0 3 (encBl z.2.2.1 3), .cells ba 0 8 (encAct (A z.2.2.2.2)), .ro bl ol (8 * len) (encActs A)]) ((false, 0)) ?_ (Sub.cons rfl (Sub.cons rfl (Sub.cons rfl (Sub.cons rfl (Sub.cons rfl (Sub.cons rfl (Sub.cons rfl (Sub.cons rfl (Sub.cons rfl (Sub.cons rfl (Sub.cons rfl (Sub.cons rfl (Sub.cons rfl (Sub.nil _)))))))))))))) (fun _ hw => XM.pick (.cons .here (.cons .here (.cons .here (.cons .here (.cons .here (.cons .here .nil)))))) hw) ?_
                  · skip
                    exact ⟨by simp, by simp; omega⟩
                  intro g hg
                  obtain ⟨g0, gm⟩ := hg
                  refine XC.seq ?_
                  refine XC.seq ?_
                  refine XC.region ?_
                  refine XO.v (V.move rfl) rfl ?_
                  refine XO.v (V.cmp rfl rfl rfl) rfl ?_
                  refine XO.nil ?_
                  refine XE.next ?_
                  refine XC.keep [(0, _), (1, _), (2, _), (7, _), (9, _), (10, _), (11, _), (12, _), (13, _), (14, _), (15, _), (16, _), (17, _), (133, _)] (Sub.cons rfl (Sub.cons rfl (Sub.cons rfl (Sub.cons rfl (Sub.cons rfl (Sub.cons rfl (Sub.cons rfl (Sub.cons rfl (Sub.cons rfl (Sub.cons rfl (Sub.cons rfl (Sub.cons rfl (Sub.cons rfl (Sub.cons rfl (Sub.nil _))))))))))))))) ?_
                  refine XC.condP rfl (fun h17 => ?_) (fun h17 => ?_)
                  · skip
                    refine XC.skip ?_
                    refine XE.next ?_
                    refine XC.keep [(0, _), (1, _), (2, _), (7, _), (9, _), (10, _), (11, _), (12, _), (13, _), (14, _), (15, _), (16, _), (17, _)] (Sub.cons rfl (Sub.cons rfl (Sub.cons rfl (Sub.cons rfl (Sub.cons rfl (Sub.cons rfl (Sub.cons rfl (Sub.cons rfl (Sub.cons rfl (Sub.cons rfl (Sub.cons rfl (Sub.cons rfl (Sub.cons rfl (Sub.nil _)))))))))))))) ?_
                    refine XC.seq ?_
                    refine XC.block ?_
                    refine XC.seq ?_
                    refine XC.region ?_
                    refine XO.v (V.move rfl) rfl ?_
                    refine XO.v (V.rem rfl rfl (by first | decide | omega) _ (Int.tmod_eq_emod_of_nonneg (by omega))) rfl ?_
                    refine XO.v (V.assign rfl) rfl ?_
                    refine XO.nil ?_
                    refine XE.next ?_
                    refine XC.keep [(0, _), (1, _), (2, _), (7, _), (9, _), (10, _), (11, _), (12, _), (13, _), (14, _), (15, _), (16, _), (17, _), (18, _)] (Sub.cons rfl (Sub.cons rfl (Sub.cons rfl (Sub.cons rfl (Sub.cons rfl (Sub.cons rfl (Sub.cons rfl (Sub.cons rfl (Sub.cons rfl (Sub.cons rfl (Sub.cons rfl (Sub.cons rfl (Sub.cons rfl (Sub.cons rfl (Sub.nil _))))))))))))))) ?_
                    refine XC.cutG (σ := Bool) (fun b9 => b9 = stopB z.2.2.1 q u g.2) (fun b9 => [(0, .slice (some ⟨bl, ol, none⟩) len cap), (1, .int .i64 q), (2, .int .i64 p), (7, ptr bs 0 0), (9, ptr bk 0 0), (10, ptr bf 0 0), (11, .int .i64 u), (12, .int .i64 z.2.2.2.2), (13, ptr ba 0 0), (14, .int .i64 c.2.2), (15, .int .i64 (c.1.toSF.tick dQ).1), (16, .bool g.1), (17, .int .i64 g.2), (19, .bool b9)]) (fun b9 => XM W (foot [.ro bl ol (8 * len) (encActs A)]) [.cells bs 0 2281 (encS t), .fam fam30 (SC.rows 86 t), .cells bk 0 6 (encBl z.2.1 6), .cells bf 0 3 (encBl z.2.2.1 3), .cells ba 0 8 (encAct (A z.2.2.2.2)), .ro bl ol (8 * len) (encActs A)]) ?_ ?_
                    · skip
                      refine XC.region ?_
                      refine XO.v (V.move rfl) rfl ?_
                      refine XO.v (V.cmp rfl rfl rfl) rfl ?_
                      refine XO.v (V.move rfl) rfl ?_
                      refine XO.splitP (d := 140) rfl (fun h18 => ?_) (fun h18 => ?_)
                      · skip
                        refine XO.guardRun rfl rfl rfl ?_
                        refine XO.v (V.indexArr rfl rfl ar_55 (by omega)) rfl ?_
                        refine XO.guardRun rfl rfl rfl ?_
                        refine XO.v (V.load rfl (inXM (.there (.there (.there .here)))) (encBl.ld _ _ _ (by omega)) sc_4) rfl ?_
                        refine XO.guardRun rfl rfl rfl ?_
                        refine XO.v (V.move rfl) rfl ?_
                        refine XO.split (d := 143) rfl (fun h19 => ?_) (fun h19 => ?_)
                        · try simp only [sb] at h19
                          have f1 : z.2.2.1 1 = true := h19
                          refine XO.guardSkip rfl rfl rfl rfl rfl ?_
                          refine XO.guardSkip rfl rfl rfl rfl rfl ?_
                          refine XO.guardSkip rfl rfl rfl rfl rfl ?_
                          refine XO.guardRun rfl rfl rfl ?_
                          refine XO.v (V.pick rfl rfl rfl rfl) rfl ?_
                          refine XO.v (V.pick rfl rfl rfl rfl) rfl ?_
                          refine XO.v (V.move rfl) rfl ?_
                          refine XO.guardSkip rfl rfl rfl rfl rfl ?_
                          refine XO.guardSkip rfl rfl rfl rfl rfl ?_
                          refine XO.guardSkip rfl rfl rfl rfl rfl ?_
                          refine XO.guardSkipU rfl rfl rfl rfl rfl ?_
                          refine XO.guardSkipU rfl rfl rfl rfl rfl ?_
                          refine XO.guardSkip rfl rfl rfl rfl rfl ?_
                          refine XO.v (V.pick rfl rfl rfl rfl) rfl ?_
                          refine XO.v (V.assign rfl) rfl ?_
                          refine XO.nil ?_
                          refine XE.meetG (stopB z.2.2.1 q u g.2) ?_ (Sub.cons rfl (Sub.cons rfl (Sub.cons rfl (Sub.cons rfl (Sub.cons rfl (Sub.cons rfl (Sub.cons rfl (Sub.cons rfl (Sub.cons rfl (Sub.cons rfl (Sub.cons rfl (Sub.cons rfl (Sub.cons rfl (Sub.cons (eqb (stop_a (by omega) f1)) (Sub.nil _))))))))))))))) (fun _ hw => XM.pick (.cons .here (.cons .here (.cons .here (.cons .here (.cons .here (.cons .here .nil)))))) hw)
                          rfl
                        · try simp only [sb] at h19
                          have f1 : z.2.2.1 1 = false := h19
                          refine XO.guardRun rfl rfl rfl ?_
                          refine XO.v (V.move rfl) rfl ?_
                          refine XO.guardRun rfl rfl rfl ?_
                          refine XO.v (V.move rfl) rfl ?_
                          refine XO.guardRun rfl rfl rfl ?_
                          refine XO.v (V.cmp rfl rfl rfl) rfl ?_
                          refine XO.guardRun rfl rfl rfl ?_
                          refine XO.v (V.pick rfl rfl rfl rfl) rfl ?_
                          refine XO.v (V.pick rfl rfl rfl rfl) rfl ?_
                          refine XO.v (V.move rfl) rfl ?_
                          refine XO.splitP (d := 149) rfl (fun h20 => ?_) (fun h20 => ?_)
                          · skip
                            refine XO.guardSkip rfl rfl rfl rfl rfl ?_
                            refine XO.guardSkip rfl rfl rfl rfl rfl ?_
                            refine XO.guardSkip rfl rfl rfl rfl rfl ?_
                            refine XO.guardSkipU rfl rfl rfl rfl rfl ?_
                            refine XO.guardSkipU rfl rfl rfl rfl rfl ?_
                            refine XO.guardSkip rfl rfl rfl rfl rfl ?_
                            refine XO.v (V.pick rfl rfl rfl rfl) rfl ?_
                            refine XO.v (V.assign rfl) rfl ?_
                            refine XO.nil ?_
                            refine XE.meetG (stopB z.2.2.1 q u g.2) ?_ (Sub.cons rfl (Sub.cons rfl (Sub.cons rfl (Sub.cons rfl (Sub.cons rfl (Sub.cons rfl (Sub.cons rfl (Sub.cons rfl (Sub.cons rfl (Sub.cons rfl (Sub.cons rfl (Sub.cons rfl (Sub.cons rfl (Sub.cons (eqb (stop_b (by omega) (by omega))) (Sub.nil _))))))))))))))) (fun _ hw => XM.pick (.cons .here (.cons .here (.cons .here (.cons .here (.cons .here (.cons .here .nil)))))) hw)
                            rfl
                          · skip
                            refine XO.guardRun rfl rfl rfl ?_
                            refine XO.v (V.move rfl) rfl ?_
                            refine XO.guardRun rfl rfl rfl ?_
                            refine XO.v (V.cmp rfl rfl rfl) rfl ?_
                            refine XO.guardRun rfl rfl rfl ?_
                            refine XO.v (V.move rfl) rfl ?_
                            refine XO.splitP (d := 152) rfl (fun h21 => ?_) (fun h21 => ?_)
                            · skip
                              refine XO.guardRun rfl rfl rfl ?_
                              refine XO.v (V.indexArr rfl rfl ar_55 (by omega)) rfl ?_
                              refine XO.guardRun rfl rfl rfl ?_
                              refine XO.v (V.load rfl (inXM (.there (.there (.there .here)))) (encBl.ld _ _ _ (by omega)) sc_4) rfl ?_
                              refine XO.guardRun rfl rfl rfl ?_
                              refine XO.v (V.pick rfl rfl rfl rfl) rfl ?_
                              refine XO.v (V.pick rfl rfl rfl rfl) rfl ?_
                              refine XO.v (V.assign rfl) rfl ?_
                              refine XO.nil ?_
                              refine XE.meetG (stopB z.2.2.1 q u g.2) ?_ (Sub.cons rfl (Sub.cons rfl (Sub.cons rfl (Sub.cons rfl (Sub.cons rfl (Sub.cons rfl (Sub.cons rfl (Sub.cons rfl (Sub.cons rfl (Sub.cons rfl (Sub.cons rfl (Sub.cons rfl (Sub.cons rfl (Sub.cons (eqb (stop_c (by omega) f1 (by omega))) (Sub.nil _))))))))))))))) (fun _ hw => XM.pick (.cons .here (.cons .here (.cons .here (.cons .here (.cons .here (.cons .here .nil)))))) hw)
                              rfl
                            · skip
                              refine XO.guardSkip rfl rfl rfl rfl rfl ?_
                              refine XO.guardSkip rfl rfl rfl rfl rfl ?_
                              refine XO.guardRun rfl rfl rfl ?_
                              refine XO.v (V.pick rfl rfl rfl rfl) rfl ?_
                              refine XO.v (V.pick rfl rfl rfl rfl) rfl ?_
                              refine XO.v (V.assign rfl) rfl ?_
                              refine XO.nil ?_
                              refine XE.meetG (stopB z.2.2.1 q u g.2) ?_ (Sub.cons rfl (Sub.cons rfl (Sub.cons rfl (Sub.cons rfl (Sub.cons rfl (Sub.cons rfl (Sub.cons rfl (Sub.cons rfl (Sub.cons rfl (Sub.cons rfl (Sub.cons rfl (Sub.cons rfl (Sub.cons rfl (Sub.cons (eqb (stop_d (by omega) f1 (by omega))) (Sub.nil _))))))))))))))) (fun _ hw => XM.pick (.cons .here (.cons .here (.cons .here (.cons .here (.cons .here (.cons .here .nil)))))) hw)
                              rfl
                      · skip
                        refine XO.guardSkip rfl rfl rfl rfl rfl ?_
                        refine XO.guardSkip rfl rfl rfl rfl rfl ?_
                        refine XO.guardSkip rfl rfl rfl rfl rfl ?_
                        refine XO.guardSkipU rfl rfl rfl rfl rfl ?_
                        refine XO.guardSkipU rfl rfl rfl rfl rfl ?_
                        refine XO.guardSkipU rfl rfl rfl rfl rfl ?_
                        refine XO.guardSkip rfl rfl rfl rfl rfl ?_
                        refine XO.v (V.pick rfl rfl rfl rfl) rfl ?_
                        refine XO.v (V.move rfl) rfl ?_
                        refine XO.guardRun rfl rfl rfl ?_
                        refine XO.v (V.move rfl) rfl ?_
                        refine XO.guardRun rfl rfl rfl ?_
                        refine XO.v (V.cmp rfl rfl rfl) rfl ?_
                        refine XO.guardRun rfl rfl rfl ?_
                        refine XO.v (V.move rfl) rfl ?_
                        refine XO.splitP (d := 152) rfl (fun h22 => ?_) (fun h22 => ?_)
                        · skip
                          refine XO.guardRun rfl rfl rfl ?_
                          refine XO.v (V.indexArr rfl rfl ar_55 (by omega)) rfl ?_
                          refine XO.guardRun rfl rfl rfl ?_
                          refine XO.v (V.load rfl (inXM (.there (.there (.there .here)))) (encBl.ld _ _ _ (by omega)) sc_4) rfl ?_
                          refine XO.guardRun rfl rfl rfl ?_
                          refine XO.v (V.pick rfl rfl rfl rfl) rfl ?_
                          refine XO.v (V.pick rfl rfl rfl rfl) rfl ?_
                          refine XO.v (V.assign rfl) rfl ?_
                          refine XO.nil ?_
                          refine XE.meetG (stopB z.2.2.1 q u g.2) ?_ (Sub.cons rfl (Sub.cons rfl (Sub.cons rfl (Sub.cons rfl (Sub.cons rfl (Sub.cons rfl (Sub.cons rfl (Sub.cons rfl (Sub.cons rfl (Sub.cons rfl (Sub.cons rfl (Sub.cons rfl (Sub.cons rfl (Sub.cons (eqb (by exfalso; omega)) (Sub.nil _))))))))))))))) (fun _ hw => XM.pick (.cons .here (.cons .here (.cons .here (.cons .here (.cons .here (.cons .here .nil)))))) hw)
                          rfl
                        · skip
                          refine XO.guardSkip rfl rfl rfl rfl rfl ?_
                          refine XO.guardSkip rfl rfl rfl rfl rfl ?_
                          refine XO.guardRun rfl rfl rfl ?_
                          refine XO.v (V.pick rfl rfl rfl rfl) rfl ?_
                          refine XO.v (V.pick rfl rfl rfl rfl) rfl ?_
                          refine XO.v (V.assign rfl) rfl ?_
                          refine XO.nil ?_
                          refine XE.meetG (stopB z.2.2.1 q u g.2) ?_ (Sub.cons rfl (Sub.cons rfl (Sub.cons rfl (Sub.cons rfl (Sub.cons rfl (Sub.cons rfl (Sub.cons rfl (Sub.cons rfl (Sub.cons rfl (Sub.cons rfl (Sub.cons rfl (Sub.cons rfl (Sub.cons rfl (Sub.cons (eqb (stop_e (by omega))) (Sub.nil _))))))))))))))) (fun _ hw => XM.pick (.cons .here (.cons .here (.cons .here (.cons .here (.cons .here (.cons .here .nil)))))) hw)
                          rfl
                    intro b9 hb9
                    subst hb9
                    refine XC.seq ?_
                    refine XC.seq ?_
                    refine XC.region ?_
                    refine XO.v (V.move rfl) rfl ?_
                    refine XO.v (V.indexArr rfl rfl ar_54 (by omega)) rfl ?_
                    refine XO.v (V.load rfl (inXM (.there (.there .here))) (encBl.ld _ _ _ (by omega)) sc_4) rfl ?_
                    refine XO.v (V.move rfl) rfl ?_
                    refine XO.split (d := 160) rfl (fun h23 => ?_) (fun h23 => ?_)
                    · try simp only [sb] at h23
                      have haw : z.2.1 g.2 = true := h23
                      refine XO.guardRun rfl rfl rfl ?_
                      refine XO.v (V.move rfl) rfl ?_
                      refine XO.guardRun rfl rfl rfl ?_
                      refine XO.v (V.not rfl) rfl ?_
                      refine XO.v (V.pick rfl rfl rfl rfl) rfl ?_
                      refine XO.nil ?_
                      refine XE.next ?_
                      refine XC.keep [(0, _), (1, _), (2, _), (7, _), (9, _), (10, _), (11, _), (12, _), (13, _), (14, _), (15, _), (16, _), (17, _), (19, _), (163, _)] (Sub.cons rfl (Sub.cons rfl (Sub.cons rfl (Sub.cons rfl (Sub.cons rfl (Sub.cons rfl (Sub.cons rfl (Sub.cons rfl (Sub.cons rfl (Sub.cons rfl (Sub.cons rfl (Sub.cons rfl (Sub.cons rfl (Sub.cons rfl (Sub.cons rfl (Sub.nil _)))))))))))))))) ?_
                      refine XC.cond rfl (fun h24 => ?_) (fun h24 => ?_)
                      · try simp only [sb] at h24
                        have hst : stopB z.2.2.1 q u g.2 = false := h24
                        refine XC.region ?_
                        refine XO.v (V.assign rfl) rfl ?_
                        refine XO.nil ?_
                        refine XE.next ?_
                        refine XC.keep [(0, _), (1, _), (2, _), (7, _), (9, _), (10, _), (11, _), (12, _), (13, _), (14, _), (15, _), (16, _), (17, _), (19, _)] (Sub.cons rfl (Sub.cons rfl (Sub.cons rfl (Sub.cons rfl (Sub.cons rfl (Sub.cons rfl (Sub.cons rfl (Sub.cons rfl (Sub.cons rfl (Sub.cons rfl (Sub.cons rfl (Sub.cons rfl (Sub.cons rfl (Sub.cons rfl (Sub.nil _))))))))))))))) ?_
                        refine XC.seq ?_
                        refine XC.region ?_
                        have hx9 : g.2 = (c.1.toSF.tick dQ).1 → 0 ≤ (c.1.toSF.tick dQ).1 := fun z => by omega
                        refine XO.v (V.move rfl) rfl ?_
                        refine XO.v (V.move rfl) rfl ?_
                        refine XO.v (V.cmp rfl rfl rfl) rfl ?_
                        refine XO.v (V.move rfl) rfl ?_
                        refine XO.splitP (d := 167) rfl (fun h25 => ?_) (fun h25 => ?_)
                        · skip
                          have hxq : g.2 = (c.1.toSF.tick dQ).1 := by assumption
                          refine XO.guardRun rfl rfl rfl ?_
                          refine XO.v (V.move rfl) rfl ?_
                          refine XO.guardRun rfl rfl rfl ?_
                          refine XO.v (V.indexArr rfl rfl ar_54 (by omega)) rfl ?_
                          refine XO.guardRun rfl rfl rfl ?_
                          refine XO.v (V.load rfl (inXM (.there (.there .here))) (encBl.ld _ _ _ (by omega)) sc_4) rfl ?_
                          refine XO.guardRun rfl rfl rfl ?_
                          refine XO.v (V.not rfl) rfl ?_
                          refine XO.guardRun rfl rfl rfl ?_
                          refine XO.v (V.move rfl) rfl ?_
                          refine XO.split (d := 172) rfl (fun h26 => ?_) (fun h26 => ?_)
                          · try simp only [sb] at h26
                            have hz := (q3 (hx9 hxq)).1
                            rw [← hxq] at hz
                            rw [hz] at h26
                            cases h26
                          · try simp only [sb] at h26
                            refine XO.guardRun rfl rfl rfl ?_
                            refine XO.v (V.move rfl) rfl ?_
                            refine XO.guardRun rfl rfl rfl ?_
                            refine XO.v (V.pick rfl rfl rfl rfl) rfl ?_
                            refine XO.v (V.pick rfl rfl rfl rfl) rfl ?_
                            refine XO.nil ?_
                            refine XE.next ?_
                            refine XC.keep [(0, _), (1, _), (2, _), (7, _), (9, _), (10, _), (11, _), (12, _), (13, _), (14, _), (15, _), (16, _), (17, _), (175, _)] (Sub.cons rfl (Sub.cons rfl (Sub.cons rfl (Sub.cons rfl (Sub.cons rfl (Sub.cons rfl (Sub.cons rfl (Sub.cons rfl (Sub.cons rfl (Sub.cons rfl (Sub.cons rfl (Sub.cons rfl (Sub.cons rfl (Sub.cons rfl (Sub.nil _))))))))))))))) ?_
                            refine XC.cond rfl (fun h27 => ?_) (fun h27 => ?_)
                            · try simp only [sb] at h27
                              have hz := (q3 (hx9 hxq)).2
                              rw [← hxq] at hz
                              rw [hz] at h27
                              cases h27
                            · try simp only [sb] at h27
                              refine XC.skip ?_
                              refine XE.blockNormal ?_
                              refine XE.next ?_
                              refine XC.keep [(0, _), (1, _), (2, _), (7, _), (9, _), (10, _), (11, _), (12, _), (13, _), (14, _), (15, _), (16, _), (17, _)] (Sub.cons rfl (Sub.cons rfl (Sub.cons rfl (Sub.cons rfl (Sub.cons rfl (Sub.cons rfl (Sub.cons rfl (Sub.cons rfl (Sub.cons rfl (Sub.cons rfl (Sub.cons rfl (Sub.cons rfl (Sub.cons rfl (Sub.nil _)))))))))))))) ?_
                              refine XC.region ?_
                              refine XO.v (V.move rfl) rfl ?_
                              refine XO.v (V.add rfl rfl _ (IntWalk.i64_in _ (by omega))) rfl ?_
                              refine XO.v (V.assign rfl) rfl ?_
                              refine XO.nil ?_
                              refine XE.again ((true, g.2 + 1)) ?_ ?_ (Sub.cons rfl (Sub.cons rfl (Sub.cons rfl (Sub.cons rfl (Sub.cons rfl (Sub.cons rfl (Sub.cons rfl (Sub.cons rfl (Sub.cons rfl (Sub.cons rfl (Sub.cons rfl (Sub.cons rfl (Sub.cons rfl (Sub.nil _)))))))))))))) (fun _ hw => XM.pick (.cons .here (.cons .here (.cons .here (.cons .here (.cons .here (.cons .here .nil)))))) hw)
                              · skip
                                (simp; omega)
                              · skip
                                refine ⟨by simp; omega, ⟨fun _ => ⟨g.2, by omega, by simp; omega, haw, hst⟩, fun _ => rfl⟩⟩
                        · skip
                          refine XO.guardSkip rfl rfl rfl rfl rfl ?_
                          refine XO.guardSkip rfl rfl rfl rfl rfl ?_
                          refine XO.guardSkip rfl rfl rfl rfl rfl ?_
                          refine XO.guardSkip rfl rfl rfl rfl rfl ?_
                          refine XO.guardSkip rfl rfl rfl rfl rfl ?_
                          refine XO.guardSkipU rfl rfl rfl rfl rfl ?_
                          refine XO.guardSkip rfl rfl rfl rfl rfl ?_
                          refine XO.v (V.pick rfl rfl rfl rfl) rfl ?_
                          refine XO.nil ?_
                          refine XE.next ?_
                          refine XC.keep [(0, _), (1, _), (2, _), (7, _), (9, _), (10, _), (11, _), (12, _), (13, _), (14, _), (15, _), (16, _), (17, _), (175, _)] (Sub.cons rfl (Sub.cons rfl (Sub.cons rfl (Sub.cons rfl (Sub.cons rfl (Sub.cons rfl (Sub.cons rfl (Sub.cons rfl (Sub.cons rfl (Sub.cons rfl (Sub.cons rfl (Sub.cons rfl (Sub.cons rfl (Sub.cons rfl (Sub.nil _))))))))))))))) ?_
                          refine XC.condF rfl rfl ?_
                          refine XC.skip ?_
                          refine XE.blockNormal ?_
                          refine XE.next ?_
                          refine XC.keep [(0, _), (1, _), (2, _), (7, _), (9, _), (10, _), (11, _), (12, _), (13, _), (14, _), (15, _), (16, _), (17, _)] (Sub.cons rfl (Sub.cons rfl (Sub.cons rfl (Sub.cons rfl (Sub.cons rfl (Sub.cons rfl (Sub.cons rfl (Sub.cons rfl (Sub.cons rfl (Sub.cons rfl (Sub.cons rfl (Sub.cons rfl (Sub.cons rfl (Sub.nil _)))))))))))))) ?_
                          refine XC.region ?_
                          refine XO.v (V.move rfl) rfl ?_
                          refine XO.v (V.add rfl rfl _ (IntWalk.i64_in _ (by omega))) rfl ?_
                          refine XO.v (V.assign rfl) rfl ?_
                          refine XO.nil ?_
                          refine XE.again ((true, g.2 + 1)) ?_ ?_ (Sub.cons rfl (Sub.cons rfl (Sub.cons rfl (Sub.cons rfl (Sub.cons rfl (Sub.cons rfl (Sub.cons rfl (Sub.cons rfl (Sub.cons rfl (Sub.cons rfl (Sub.cons rfl (Sub.cons rfl (Sub.cons rfl (Sub.nil _)))))))))))))) (fun _ hw => XM.pick (.cons .here (.cons .here (.cons .here (.cons .here (.cons .here (.cons .here .nil)))))) hw)
                          · skip
                            (simp; omega)
                          · skip
                            refine ⟨by simp; omega, ⟨fun _ => ⟨g.2, by omega, by simp; omega, haw, hst⟩, fun _ => rfl⟩⟩
                      · try simp only [sb] at h24
                        have hst : stopB z.2.2.1 q u g.2 = true := by simpa using h24
                        refine XC.skip ?_
                        refine XE.next ?_
                        refine XC.keep [(0, _), (1, _), (2, _), (7, _), (9, _), (10, _), (11, _), (12, _), (13, _), (14, _), (15, _), (16, _), (17, _), (19, _)] (Sub.cons rfl (Sub.cons rfl (Sub.cons rfl (Sub.cons rfl (Sub.cons rfl (Sub.cons rfl (Sub.cons rfl (Sub.cons rfl (Sub.cons rfl (Sub.cons rfl (Sub.cons rfl (Sub.cons rfl (Sub.cons rfl (Sub.cons rfl (Sub.nil _))))))))))))))) ?_
                        refine XC.seq ?_
                        refine XC.region ?_
                        have hx9 : g.2 = (c.1.toSF.tick dQ).1 → 0 ≤ (c.1.toSF.tick dQ).1 := fun z => by omega
                        refine XO.v (V.move rfl) rfl ?_
                        refine XO.v (V.move rfl) rfl ?_
                        refine XO.v (V.cmp rfl rfl rfl) rfl ?_
                        refine XO.v (V.move rfl) rfl ?_
                        refine XO.splitP (d := 167) rfl (fun h28 => ?_) (fun h28 => ?_)
                        · skip
                          have hxq : g.2 = (c.1.toSF.tick dQ).1 := by assumption
                          refine XO.guardRun rfl rfl rfl ?_
                          refine XO.v (V.move rfl) rfl ?_
                          refine XO.guardRun rfl rfl rfl ?_
                          refine XO.v (V.indexArr rfl rfl ar_54 (by omega)) rfl ?_
                          refine XO.guardRun rfl rfl rfl ?_
                          refine XO.v (V.load rfl (inXM (.there (.there .here))) (encBl.ld _ _ _ (by omega)) sc_4) rfl ?_
                          refine XO.guardRun rfl rfl rfl ?_
                          refine XO.v (V.not rfl) rfl ?_
                          refine XO.guardRun rfl rfl rfl ?_
                          refine XO.v (V.move rfl) rfl ?_
                          refine XO.split (d := 172) rfl (fun h29 => ?_) (fun h29 => ?_)
                          · try simp only [sb] at h29
                            have hz := (q3 (hx9 hxq)).1
                            rw [← hxq] at hz
                            rw [hz] at h29
                            cases h29
                          · try simp only [sb] at h29
                            refine XO.guardRun rfl rfl rfl ?_
                            refine XO.v (V.move rfl) rfl ?_
                            refine XO.guardRun rfl rfl rfl ?_
                            refine XO.v (V.pick rfl rfl rfl rfl) rfl ?_
                            refine XO.v (V.pick rfl rfl rfl rfl) rfl ?_
                            refine XO.nil ?_
                            refine XE.next ?_
                            refine XC.keep [(0, _), (1, _), (2, _), (7, _), (9, _), (10, _), (11, _), (12, _), (13, _), (14, _), (15, _), (16, _), (17, _), (175, _)] (Sub.cons rfl (Sub.cons rfl (Sub.cons rfl (Sub.cons rfl (Sub.cons rfl (Sub.cons rfl (Sub.cons rfl (Sub.cons rfl (Sub.cons rfl (Sub.cons rfl (Sub.cons rfl (Sub.cons rfl (Sub.cons rfl (Sub.cons rfl (Sub.nil _))))))))))))))) ?_
                            refine XC.cond rfl (fun h30 => ?_) (fun h30 => ?_)
                            · try simp only [sb] at h30
                              have hz := (q3 (hx9 hxq)).2
                              rw [← hxq] at hz
                              rw [hz] at h30
                              cases h30
                            · try simp only [sb] at h30
                              refine XC.skip ?_
                              refine XE.blockNormal ?_
                              refine XE.next ?_
                              refine XC.keep [(0, _), (1, _), (2, _), (7, _), (9, _), (10, _), (11, _), (12, _), (13, _), (14, _), (15, _), (16, _), (17, _)] (Sub.cons rfl (Sub.cons rfl (Sub.cons rfl (Sub.cons rfl (Sub.cons rfl (Sub.cons rfl (Sub.cons rfl (Sub.cons rfl (Sub.cons rfl (Sub.cons rfl (Sub.cons rfl (Sub.cons rfl (Sub.cons rfl (Sub.nil _)))))))))))))) ?_
                              refine XC.region ?_
                              refine XO.v (V.move rfl) rfl ?_
                              refine XO.v (V.add rfl rfl _ (IntWalk.i64_in _ (by omega))) rfl ?_
                              refine XO.v (V.assign rfl) rfl ?_
                              refine XO.nil ?_
                              refine XE.again ((g.1, g.2 + 1)) ?_ ?_ (Sub.cons rfl (Sub.cons rfl (Sub.cons rfl (Sub.cons rfl (Sub.cons rfl (Sub.cons rfl (Sub.cons rfl (Sub.cons rfl (Sub.cons rfl (Sub.cons rfl (Sub.cons rfl (Sub.cons rfl (Sub.cons rfl (Sub.nil _)))))))))))))) (fun _ hw => XM.pick (.cons .here (.cons .here (.cons .here (.cons .here (.cons .here (.cons .here .nil)))))) hw)
                              · skip
                                (simp; omega)
                              · skip
                                refine ⟨by simp; omega, ?_⟩
                                rw [gm]
                                constructor
                                · rintro ⟨j, j0, j1, j2, j3⟩; exact ⟨j, j0, by have j1b : j < g.2 := j1; show j < g.2 + 1; omega, j2, j3⟩
                                · rintro ⟨j, j0, j1, j2, j3⟩
                                  have j1b : j < g.2 + 1 := j1
                                  refine ⟨j, j0, ?_, j2, j3⟩
                                  by_cases c9 : j = g.2
                                  · subst c9; simp_all
                                  · omega
                        · skip
                          refine XO.guardSkip rfl rfl rfl rfl rfl ?_
                          refine XO.guardSkip rfl rfl rfl rfl rfl ?_
                          refine XO.guardSkip rfl rfl rfl rfl rfl ?_
                          refine XO.guardSkip rfl rfl rfl rfl rfl ?_
                          refine XO.guardSkip rfl rfl rfl rfl rfl ?_
                          refine XO.guardSkipU rfl rfl rfl rfl rfl ?_
                          refine XO.guardSkip rfl rfl rfl rfl rfl ?_
                          refine XO.v (V.pick rfl rfl rfl rfl) rfl ?_
                          refine XO.nil ?_
                          refine XE.next ?_
                          refine XC.keep [(0, _), (1, _), (2, _), (7, _), (9, _), (10, _), (11, _), (12, _), (13, _), (14, _), (15, _), (16, _), (17, _), (175, _)] (Sub.cons rfl (Sub.cons rfl (Sub.cons rfl (Sub.cons rfl (Sub.cons rfl (Sub.cons rfl (Sub.cons rfl (Sub.cons rfl (Sub.cons rfl (Sub.cons rfl (Sub.cons rfl (Sub.cons rfl (Sub.cons rfl (Sub.cons rfl (Sub.nil _))))))))))))))) ?_
                          refine XC.condF rfl rfl ?_
                          refine XC.skip ?_
                          refine XE.blockNormal ?_
                          refine XE.next ?_
                          refine XC.keep [(0, _), (1, _), (2, _), (7, _), (9, _), (10, _), (11, _), (12, _), (13, _), (14, _), (15, _), (16, _), (17, _)] (Sub.cons rfl (Sub.cons rfl (Sub.cons rfl (Sub.cons rfl (Sub.cons rfl (Sub.cons rfl (Sub.cons rfl (Sub.cons rfl (Sub.cons rfl (Sub.cons rfl (Sub.cons rfl (Sub.cons rfl (Sub.cons rfl (Sub.nil _)))))))))))))) ?_
                          refine XC.region ?_
                          refine XO.v (V.move rfl) rfl ?_
                          refine XO.v (V.add rfl rfl _ (IntWalk.i64_in _ (by omega))) rfl ?_
                          refine XO.v (V.assign rfl) rfl ?_
                          refine XO.nil ?_
                          refine XE.again ((g.1, g.2 + 1)) ?_ ?_ (Sub.cons rfl (Sub.cons rfl (Sub.cons rfl (Sub.cons rfl (Sub.cons rfl (Sub.cons rfl (Sub.cons rfl (Sub.cons rfl (Sub.cons rfl (Sub.cons rfl (Sub.cons rfl (Sub.cons rfl (Sub.cons rfl (Sub.nil _)))))))))))))) (fun _ hw => XM.pick (.cons .here (.cons .here (.cons .here (.cons .here (.cons .here (.cons .here .nil)))))) hw)
                          · skip
                            (simp; omega)
                          · skip
                            refine ⟨by simp; omega, ?_⟩
                            rw [gm]
                            constructor
                            · rintro ⟨j, j0, j1, j2, j3⟩; exact ⟨j, j0, by have j1b : j < g.2 := j1; show j < g.2 + 1; omega, j2, j3⟩
                            · rintro ⟨j, j0, j1, j2, j3⟩
                              have j1b : j < g.2 + 1 := j1
                              refine ⟨j, j0, ?_, j2, j3⟩
                              by_cases c9 : j = g.2
                              · subst c9; simp_all
                              · omega
                    · try simp only [sb] at h23
                      have haw : z.2.1 g.2 = false := h23
                      refine XO.guardSkip rfl rfl rfl rfl rfl ?_
                      refine XO.guardSkip rfl rfl rfl rfl rfl ?_
                      refine XO.v (V.pick rfl rfl rfl rfl) rfl ?_
                      refine XO.nil ?_
                      refine XE.next ?_
                      refine XC.keep [(0, _), (1, _), (2, _), (7, _), (9, _), (10, _), (11, _), (12, _), (13, _), (14, _), (15, _), (16, _), (17, _), (19, _), (163, _)] (Sub.cons rfl (Sub.cons rfl (Sub.cons rfl (Sub.cons rfl (Sub.cons rfl (Sub.cons rfl (Sub.cons rfl (Sub.cons rfl (Sub.cons rfl (Sub.cons rfl (Sub.cons rfl (Sub.cons rfl (Sub.cons rfl (Sub.cons rfl (Sub.cons rfl (Sub.nil _)))))))))))))))) ?_
                      refine XC.condF rfl rfl ?_
                      refine XC.skip ?_
                      refine XE.next ?_
                      refine XC.keep [(0, _), (1, _), (2, _), (7, _), (9, _), (10, _), (11, _), (12, _), (13, _), (14, _), (15, _), (16, _), (17, _), (19, _)] (Sub.cons rfl (Sub.cons rfl (Sub.cons rfl (Sub.cons rfl (Sub.cons rfl (Sub.cons rfl (Sub.cons rfl (Sub.cons rfl (Sub.cons rfl (Sub.cons rfl (Sub.cons rfl (Sub.cons rfl (Sub.cons rfl (Sub.cons rfl (Sub.nil _))))))))))))))) ?_
                      refine XC.seq ?_
                      refine XC.region ?_
                      have hx9 : g.2 = (c.1.toSF.tick dQ).1 → 0 ≤ (c.1.toSF.tick dQ).1 := fun z => by omega
                      refine XO.v (V.move rfl) rfl ?_
                      refine XO.v (V.move rfl) rfl ?_
                      refine XO.v (V.cmp rfl rfl rfl) rfl ?_
                      refine XO.v (V.move rfl) rfl ?_
                      refine XO.splitP (d := 167) rfl (fun h31 => ?_) (fun h31 => ?_)
                      · skip
                        have hxq : g.2 = (c.1.toSF.tick dQ).1 := by assumption
                        refine XO.guardRun rfl rfl rfl ?_
                        refine XO.v (V.move rfl) rfl ?_
                        refine XO.guardRun rfl rfl rfl ?_
                        refine XO.v (V.indexArr rfl rfl ar_54 (by omega)) rfl ?_
                        refine XO.guardRun rfl rfl rfl ?_
                        refine XO.v (V.load rfl (inXM (.there (.there .here))) (encBl.ld _ _ _ (by omega)) sc_4) rfl ?_
                        refine XO.guardRun rfl rfl rfl ?_
                        refine XO.v (V.not rfl) rfl ?_
                        refine XO.guardRun rfl rfl rfl ?_
                        refine XO.v (V.move rfl) rfl ?_
                        refine XO.split (d := 172) rfl (fun h32 => ?_) (fun h32 => ?_)
                        · try simp only [sb] at h32
                          have hz := (q3 (hx9 hxq)).1
                          rw [← hxq] at hz
                          rw [hz] at h32
                          cases h32
                        · try simp only [sb] at h32
                          refine XO.guardRun rfl rfl rfl ?_
                          refine XO.v (V.move rfl) rfl ?_
                          refine XO.guardRun rfl rfl rfl ?_
                          refine XO.v (V.pick rfl rfl rfl rfl) rfl ?_
                          refine XO.v (V.pick rfl rfl rfl rfl) rfl ?_
                          refine XO.nil ?_
                          refine XE.next ?_
                          refine XC.keep [(0, _), (1, _), (2, _), (7, _), (9, _), (10, _), (11, _), (12, _), (13, _), (14, _), (15, _), (16, _), (17, _), (175, _)] (Sub.cons rfl (Sub.cons rfl (Sub.cons rfl (Sub.cons rfl (Sub.cons rfl (Sub.cons rfl (Sub.cons rfl (Sub.cons rfl (Sub.cons rfl (Sub.cons rfl (Sub.cons rfl (Sub.cons rfl (Sub.cons rfl (Sub.cons rfl (Sub.nil _))))))))))))))) ?_
                          refine XC.cond rfl (fun h33 => ?_) (fun h33 => ?_)
                          · try simp only [sb] at h33
                            have hz := (q3 (hx9 hxq)).2
                            rw [← hxq] at hz
                            rw [hz] at h33
                            cases h33
                          · try simp only [sb] at h33
                            refine XC.skip ?_
                            refine XE.blockNormal ?_
                            refine XE.next ?_
                            refine XC.keep [(0, _), (1, _), (2, _), (7, _), (9, _), (10, _), (11, _), (12, _), (13, _), (14, _), (15, _), (16, _), (17, _)] (Sub.cons rfl (Sub.cons rfl (Sub.cons rfl (Sub.cons rfl (Sub.cons rfl (Sub.cons rfl (Sub.cons rfl (Sub.cons rfl (Sub.cons rfl (Sub.cons rfl (Sub.cons rfl (Sub.cons rfl (Sub.cons rfl (Sub.nil _)))))))))))))) ?_
                            refine XC.region ?_
                            refine XO.v (V.move rfl) rfl ?_
                            refine XO.v (V.add rfl rfl _ (IntWalk.i64_in _ (by omega))) rfl ?_
                            refine XO.v (V.assign rfl) rfl ?_
                            refine XO.nil ?_
                            refine XE.again ((g.1, g.2 + 1)) ?_ ?_ (Sub.cons rfl (Sub.cons rfl (Sub.cons rfl (Sub.cons rfl (Sub.cons rfl (Sub.cons rfl (Sub.cons rfl (Sub.cons rfl (Sub.cons rfl (Sub.cons rfl (Sub.cons rfl (Sub.cons rfl (Sub.cons rfl (Sub.nil _)))))))))))))) (fun _ hw => XM.pick (.cons .here (.cons .here (.cons .here (.cons .here (.cons .here (.cons .here .nil)))))) hw)
                            · skip
                              (simp; omega)
                            · skip
                              refine ⟨by simp; omega, ?_⟩
                              rw [gm]
                              constructor
                              · rintro ⟨j, j0, j1, j2, j3⟩; exact ⟨j, j0, by have j1b : j < g.2 := j1; show j < g.2 + 1; omega, j2, j3⟩
                              · rintro ⟨j, j0, j1, j2, j3⟩
                                have j1b : j < g.2 + 1 := j1
                                refine ⟨j, j0, ?_, j2, j3⟩
                                by_cases c9 : j = g.2
                                · subst c9; simp_all
                                · omega
                      · skip
                        refine XO.guardSkip rfl rfl rfl rfl rfl ?_
                        refine XO.guardSkip rfl rfl rfl rfl rfl ?_
                        refine XO.guardSkip rfl rfl rfl rfl rfl ?_
                        refine XO.guardSkip rfl rfl rfl rfl rfl ?_
                        refine XO.guardSkip rfl rfl rfl rfl rfl ?_
                        refine XO.guardSkipU rfl rfl rfl rfl rfl ?_
                        refine XO.guardSkip rfl rfl rfl rfl rfl ?_
                        refine XO.v (V.pick rfl rfl rfl rfl) rfl ?_
                        refine XO.nil ?_
                        refine XE.next ?_
                        refine XC.keep [(0, _), (1, _), (2, _), (7, _), (9, _), (10, _), (11, _), (12, _), (13, _), (14, _), (15, _), (16, _), (17, _), (175, _)] (Sub.cons rfl (Sub.cons rfl (Sub.cons rfl (Sub.cons rfl (Sub.cons rfl (Sub.cons rfl (Sub.cons rfl (Sub.cons rfl (Sub.cons rfl (Sub.cons rfl (Sub.cons rfl (Sub.cons rfl (Sub.cons rfl (Sub.cons rfl (Sub.nil _))))))))))))))) ?_
                        refine XC.condF rfl rfl ?_
                        refine XC.skip ?_
                        refine XE.blockNormal ?_
                        refine XE.next ?_
                        refine XC.keep [(0, _), (1, _), (2, _), (7, _), (9, _), (10, _), (11, _), (12, _), (13, _), (14, _), (15, _), (16, _), (17, _)] (Sub.cons rfl (Sub.cons rfl (Sub.cons rfl (Sub.cons rfl (Sub.cons rfl (Sub.cons rfl (Sub.cons rfl (Sub.cons rfl (Sub.cons rfl (Sub.cons rfl (Sub.cons rfl (Sub.cons rfl (Sub.cons rfl (Sub.nil _)))))))))))))) ?_
                        refine XC.region ?_
                        refine XO.v (V.move rfl) rfl ?_
                        refine XO.v (V.add rfl rfl _ (IntWalk.i64_in _ (by omega))) rfl ?_
                        refine XO.v (V.assign rfl) rfl ?_
                        refine XO.nil ?_
                        refine XE.again ((g.1, g.2 + 1)) ?_ ?_ (Sub.cons rfl (Sub.cons rfl (Sub.cons rfl (Sub.cons rfl (Sub.cons rfl (Sub.cons rfl (Sub.cons rfl (Sub.cons rfl (Sub.cons rfl (Sub.cons rfl (Sub.cons rfl (Sub.cons rfl (Sub.cons rfl (Sub.nil _)))))))))))))) (fun _ hw => XM.pick (.cons .here (.cons .here (.cons .here (.cons .here (.cons .here (.cons .here .nil)))))) hw)
                        · skip
                          (simp; omega)
                        · skip
                          refine ⟨by simp; omega, ?_⟩
                          rw [gm]
                          constructor
                          · rintro ⟨j, j0, j1, j2, j3⟩; exact ⟨j, j0, by have j1b : j < g.2 := j1; show j < g.2 + 1; omega, j2, j3⟩
                          · rintro ⟨j, j0, j1, j2, j3⟩
                            have j1b : j < g.2 + 1 := j1
                            refine ⟨j, j0, ?_, j2, j3⟩
                            by_cases c9 : j = g.2
                            · subst c9; simp_all
                            · omega
                  · skip
                    have hmay : g.1 = decide ((c.1.toSF.tick dQ).1 ≥ 0) := by
                      rw [Bool.eq_iff_iff, decide_eq_true_eq, gm]
                      constructor
                      · rintro ⟨j, j0, j1, j2, j3⟩; exact q2 j j0 (by omega) j2 j3
                      · intro z; exact ⟨_, z, by omega, q3 z⟩
                    refine XC.exit ?_
                    refine XE.thenExit ?_
                    refine XE.thenExit ?_
                    refine XE.blockExit ?_
                    refine XE.next ?_
                    refine XC.keep [(0, _), (1, _), (2, _), (7, _), (9, _), (10, _), (11, _), (12, _), (13, _), (14, _), (15, _), (16, _)] (Sub.cons rfl (Sub.cons rfl (Sub.cons rfl (Sub.cons rfl (Sub.cons rfl (Sub.cons rfl (Sub.cons rfl (Sub.cons rfl (Sub.cons rfl (Sub.cons rfl (Sub.cons rfl (Sub.cons rfl (Sub.nil _))))))))))))) ?_
                    refine XC.seq ?_
                    refine XC.seq ?_
                    refine XC.region ?_
                    refine XO.v (V.move rfl) rfl ?_
                    refine XO.v (V.move rfl) rfl ?_
                    refine XO.v (V.cmp rfl rfl rfl) rfl ?_
                    refine XO.v (V.boolEq rfl rfl Try.underlying4 rfl) rfl ?_
                    refine XO.nil ?_
                    refine XE.next ?_
                    refine XC.keep [(0, _), (1, _), (2, _), (7, _), (9, _), (10, _), (11, _), (12, _), (13, _), (14, _), (15, _), (179, _)] (Sub.cons rfl (Sub.cons rfl (Sub.cons rfl (Sub.cons rfl (Sub.cons rfl (Sub.cons rfl (Sub.cons rfl (Sub.cons rfl (Sub.cons rfl (Sub.cons rfl (Sub.cons rfl (Sub.cons rfl (Sub.nil _))))))))))))) ?_
                    refine XC.cond rfl (fun h34 => ?_) (fun h34 => ?_)
                    · try simp only [sb] at h34
                      rw [hmay] at h34
                      simp at h34
                    · try simp only [sb] at h34
                      refine XC.skip ?_
                      refine XE.next ?_
                      refine XC.keep [(0, _), (1, _), (2, _), (7, _), (9, _), (10, _), (11, _), (12, _), (13, _), (14, _), (15, _)] (Sub.cons rfl (Sub.cons rfl (Sub.cons rfl (Sub.cons rfl (Sub.cons rfl (Sub.cons rfl (Sub.cons rfl (Sub.cons rfl (Sub.cons rfl (Sub.cons rfl (Sub.cons rfl (Sub.nil _)))))))))))) ?_
                      refine XC.seq ?_
                      refine XC.region ?_
                      refine XO.v (V.move rfl) rfl ?_
                      refine XO.v (V.cmp rfl rfl rfl) rfl ?_
                      refine XO.v (V.move rfl) rfl ?_
                      refine XO.splitP (d := 182) rfl (fun h35 => ?_) (fun h35 => ?_)
                      · skip
                        refine XO.guardRun rfl rfl rfl ?_
                        refine XO.v (V.move rfl) rfl ?_
                        refine XO.guardRun rfl rfl rfl ?_
                        refine XO.v (V.rem rfl rfl (by first | decide | omega) _ (Int.tmod_eq_emod_of_nonneg (by omega))) rfl ?_
                        refine XO.guardRun rfl rfl rfl ?_
                        refine XO.v (V.cmp rfl rfl rfl) rfl ?_
                        refine XO.v (V.pick rfl rfl rfl rfl) rfl ?_
                        refine XO.nil ?_
                        refine XE.next ?_
                        refine XC.keep [(0, _), (1, _), (2, _), (7, _), (9, _), (10, _), (11, _), (12, _), (13, _), (14, _), (186, _)] (Sub.cons rfl (Sub.cons rfl (Sub.cons rfl (Sub.cons rfl (Sub.cons rfl (Sub.cons rfl (Sub.cons rfl (Sub.cons rfl (Sub.cons rfl (Sub.cons rfl (Sub.cons rfl (Sub.nil _)))))))))))) ?_
                        refine XC.condP rfl (fun h36 => ?_) (fun h36 => ?_)
                        · skip
                          refine XC.region ?_
                          refine XO.v (V.move rfl) rfl ?_
                          refine XO.v (V.add rfl rfl _ (IntWalk.i64_in _ (by omega))) rfl ?_
                          refine XO.v (V.assign rfl) rfl ?_
                          refine XO.nil ?_
                          refine XE.blockNormal ?_
                          refine XE.next ?_
                          refine XC.keep [(0, _), (1, _), (2, _), (7, _), (9, _), (10, _), (11, _), (12, _), (13, _), (14, _)] (Sub.cons rfl (Sub.cons rfl (Sub.cons rfl (Sub.cons rfl (Sub.cons rfl (Sub.cons rfl (Sub.cons rfl (Sub.cons rfl (Sub.cons rfl (Sub.cons rfl (Sub.nil _))))))))))) ?_
                          refine XC.region ?_
                          refine XO.v (V.move rfl) rfl ?_
                          refine XO.v (V.add rfl rfl _ (IntWalk.i64_in _ (by omega))) rfl ?_
                          refine XO.v (V.assign rfl) rfl ?_
                          refine XO.nil ?_
                          refine XE.again ((t, (if 0 ≤ (c.1.toSF.tick dQ).1 ∧ 0 < (c.1.toSF.tick dQ).1 % 3 then u + 1 else u), c.2.2 + 1)) ?_ ?_ (Sub.cons (eqi (by rw [if_pos ⟨by omega, by omega⟩])) (Sub.cons rfl (Sub.cons rfl (Sub.cons rfl (Sub.cons rfl (Sub.cons rfl (Sub.cons rfl (Sub.cons rfl (Sub.cons rfl (Sub.cons rfl (Sub.nil _))))))))))) (fun _ hw => XM.pick (.cons .here (.cons .here (.cons .here (.cons .here (.cons .here (.cons .here .nil)))))) hw)
                          · skip
                            (simp; omega)
                          · skip
                            refine ⟨tR, ?_, by simp; omega, by simp; omega⟩
                            show t.toSF.TQ 6 q p _ _ (if 0 ≤ (c.1.toSF.tick dQ).1 ∧ 0 < (c.1.toSF.tick dQ).1 % 3 then u + 1 else u) (30 * z.2.2.2.2 + (c.2.2 + 1))
                            rw [tl, show 30 * z.2.2.2.2 + (c.2.2 + 1) = 30 * z.2.2.2.2 + c.2.2 + 1 by omega]
                            exact qT
                        · skip
                          refine XC.skip ?_
                          refine XE.blockNormal ?_
                          refine XE.next ?_
                          refine XC.keep [(0, _), (1, _), (2, _), (7, _), (9, _), (10, _), (11, _), (12, _), (13, _), (14, _)] (Sub.cons rfl (Sub.cons rfl (Sub.cons rfl (Sub.cons rfl (Sub.cons rfl (Sub.cons rfl (Sub.cons rfl (Sub.cons rfl (Sub.cons rfl (Sub.cons rfl (Sub.nil _))))))))))) ?_
                          refine XC.region ?_
                          refine XO.v (V.move rfl) rfl ?_
                          refine XO.v (V.add rfl rfl _ (IntWalk.i64_in _ (by omega))) rfl ?_
                          refine XO.v (V.assign rfl) rfl ?_
                          refine XO.nil ?_
                          refine XE.again ((t, (if 0 ≤ (c.1.toSF.tick dQ).1 ∧ 0 < (c.1.toSF.tick dQ).1 % 3 then u + 1 else u), c.2.2 + 1)) ?_ ?_ (Sub.cons (eqi (by rw [if_neg (by omega)])) (Sub.cons rfl (Sub.cons rfl (Sub.cons rfl (Sub.cons rfl (Sub.cons rfl (Sub.cons rfl (Sub.cons rfl (Sub.cons rfl (Sub.cons rfl (Sub.nil _))))))))))) (fun _ hw => XM.pick (.cons .here (.cons .here (.cons .here (.cons .here (.cons .here (.cons .here .nil)))))) hw)
                          · skip
                            (simp; omega)
                          · skip
                            refine ⟨tR, ?_, by simp; omega, by simp; omega⟩
                            show t.toSF.TQ 6 q p _ _ (if 0 ≤ (c.1.toSF.tick dQ).1 ∧ 0 < (c.1.toSF.tick dQ).1 % 3 then u + 1 else u) (30 * z.2.2.2.2 + (c.2.2 + 1))
                            rw [tl, show 30 * z.2.2.2.2 + (c.2.2 + 1) = 30 * z.2.2.2.2 + c.2.2 + 1 by omega]
                            exact qT
                      · skip
                        refine XO.guardSkip rfl rfl rfl rfl rfl ?_
                        refine XO.guardSkip rfl rfl rfl rfl rfl ?_
                        refine XO.guardSkip rfl rfl rfl rfl rfl ?_
                        refine XO.v (V.pick rfl rfl rfl rfl) rfl ?_
                        refine XO.nil ?_
                        refine XE.next ?_
                        refine XC.keep [(0, _), (1, _), (2, _), (7, _), (9, _), (10, _), (11, _), (12, _), (13, _), (14, _), (186, _)] (Sub.cons rfl (Sub.cons rfl (Sub.cons rfl (Sub.cons rfl (Sub.cons rfl (Sub.cons rfl (Sub.cons rfl (Sub.cons rfl (Sub.cons rfl (Sub.cons rfl (Sub.cons rfl (Sub.nil _)))))))))))) ?_
                        refine XC.condF rfl rfl ?_
                        refine XC.skip ?_
                        refine XE.blockNormal ?_
                        refine XE.next ?_
                        refine XC.keep [(0, _), (1, _), (2, _), (7, _), (9, _), (10, _), (11, _), (12, _), (13, _), (14, _)] (Sub.cons rfl (Sub.cons rfl (Sub.cons rfl (Sub.cons rfl (Sub.cons rfl (Sub.cons rfl (Sub.cons rfl (Sub.cons rfl (Sub.cons rfl (Sub.cons rfl (Sub.nil _))))))))))) ?_
                        refine XC.region ?_
                        refine XO.v (V.move rfl) rfl ?_
                        refine XO.v (V.add rfl rfl _ (IntWalk.i64_in _ (by omega))) rfl ?_
                        refine XO.v (V.assign rfl) rfl ?_
                        refine XO.nil ?_
                        refine XE.again ((t, (if 0 ≤ (c.1.toSF.tick dQ).1 ∧ 0 < (c.1.toSF.tick dQ).1 % 3 then u + 1 else u), c.2.2 + 1)) ?_ ?_ (Sub.cons (eqi (by rw [if_neg (by omega)])) (Sub.cons rfl (Sub.cons rfl (Sub.cons rfl (Sub.cons rfl (Sub.cons rfl (Sub.cons rfl (Sub.cons rfl (Sub.cons rfl (Sub.cons rfl (Sub.nil _))))))))))) (fun _ hw => XM.pick (.cons .here (.cons .here (.cons .here (.cons .here (.cons .here (.cons .here .nil)))))) hw)
                        · skip
                          (simp; omega)
                        · skip
                          refine ⟨tR, ?_, by simp; omega, by simp; omega⟩
                          show t.toSF.TQ 6 q p _ _ (if 0 ≤ (c.1.toSF.tick dQ).1 ∧ 0 < (c.1.toSF.tick dQ).1 % 3 then u + 1 else u) (30 * z.2.2.2.2 + (c.2.2 + 1))
                          rw [tl, show 30 * z.2.2.2.2 + (c.2.2 + 1) = 30 * z.2.2.2.2 + c.2.2 + 1 by omega]
                          exact qT
                · skip
                  refine XC.exit ?_
                  refine XE.thenExit ?_
                  refine XE.thenExit ?_
                  refine XE.blockExit ?_
                  refine XE.blockNormal ?_
                  refine XE.next ?_
                  refine XC.keep [(0, _), (1, _), (2, _), (7, _), (9, _), (10, _), (11, _), (12, _)] (Sub.cons rfl (Sub.cons rfl (Sub.cons rfl (Sub.cons rfl (Sub.cons rfl (Sub.cons rfl (Sub.cons rfl (Sub.cons rfl (Sub.nil _))))))))) ?_
                  refine XC.region ?_
                  refine XO.v (V.move rfl) rfl ?_
                  refine XO.v (V.add rfl rfl _ (IntWalk.i64_in _ (by omega))) rfl ?_
                  refine XO.v (V.assign rfl) rfl ?_
                  refine XO.nil ?_
                  refine XE.again ((c.1, z.2.1, z.2.2.1, c.2.1, z.2.2.2.2 + 1)) ?_ ?_ (Sub.cons rfl (Sub.cons rfl (Sub.cons rfl (Sub.cons rfl (Sub.cons rfl (Sub.cons rfl (Sub.cons rfl (Sub.cons rfl (Sub.nil _))))))))) (fun _ hw => XM.pick (.cons .here (.cons .here (.cons .here (.cons .here (.cons (.there .here) .nil))))) hw)
                  · skip
                    (simp; omega)
                  · skip
                    exact ⟨cR, cT.more (show 30 * z.2.2.2.2 + c.2.2 ≤ 30 * (z.2.2.2.2 + 1) by omega), by simp; omega, by simp; omega⟩
          · skip
            refine XC.exit ?_
            refine XE.thenExit ?_
            refine XE.thenExit ?_
            refine XE.blockExit ?_
            refine XE.next ?_
            refine XC.keep [] (Sub.nil _) ?_
            refine XC.seq ?_
            refine XC.region ?_
            refine XO.v (V.assign rfl) rfl ?_
            refine XO.nil ?_
            refine XE.next ?_
            refine XC.keep [(6, _)] (Sub.cons rfl (Sub.nil _)) ?_
            refine XC.ret ?_
            refine XE.ret1 rfl rfl (post_of .nil rfl ?_)
            exact ⟨rfl, rfl⟩
end Go.X
