import Derived.Test.YtmklfkjfgjagaaaOT1
namespace Go.X
open Go Go.Proofs

set_option maxRecDepth 10000 in
set_option maxHeartbeats 16000000 in
theorem fl_sn (b1 o1 n1 c1 : Nat) (hl1 : n1 ≤ c1) (w1 : Int → ByteArray) (hw1 : ∀ z : Int, 0 ≤ z → z < n1 → (w1 z).size ≤ 9223372036854775807) (p2 : Option Addr) (c2 : Nat) : Spec Try.prog 6 [.slice (some ⟨b1, o1, none⟩) n1 c1, .slice p2 0 c2]
    [.ro b1 o1 n1 (encSt w1 n1)]
    (fun v H1 => v = .bool true ∧ H1 = []) := by
  obtain ⟨da, db_, dc, kF⟩ := TF.okF
  refine Spec.intro Try.func6 rfl rfl ?_
  intro W
  refine XC.seq ?_
  refine XC.region ?_
  refine XO.v (V.assign rfl) rfl ?_
  refine XO.nil ?_
  refine XE.next ?_
  refine XC.keep [(0, _), (1, _)] (Sub.cons rfl (Sub.cons rfl (Sub.nil _))) ?_
  refine XC.seq ?_
  refine XC.region ?_
  refine XO.call rfl (t_New) .nil cl_10 rfl ?_
  rintro _ _ ⟨bf, rfl, rfl⟩
  refine XO.v (V.assign rfl) rfl ?_
  refine XO.nil ?_
  refine XE.next ?_
  refine XC.keep [(0, _), (1, _), (5, _)] (Sub.cons rfl (Sub.cons rfl (Sub.cons rfl (Sub.nil _)))) ?_
  refine XC.seq ?_
  refine XC.seq ?_
  refine XC.region ?_
  refine XO.v (V.move rfl) rfl ?_
  refine XO.v (V.ptrNilP rfl Try.underlying25 rfl) rfl ?_
  refine XO.nil ?_
  refine XE.next ?_
  refine XC.keep [(0, _), (1, _), (5, _), (30, _)] (Sub.cons rfl (Sub.cons rfl (Sub.cons rfl (Sub.cons rfl (Sub.nil _))))) ?_
  refine XC.condF rfl rfl ?_
  refine XC.skip ?_
  refine XE.next ?_
  refine XC.keep [(0, _), (1, _), (5, _)] (Sub.cons rfl (Sub.cons rfl (Sub.cons rfl (Sub.nil _)))) ?_
  refine XC.seq ?_
  refine XC.region ?_
  refine XO.v (V.move rfl) rfl ?_
  refine XO.call rfl (t_Plant _ _ _ (FF.inv_void.sh (by omega))) (.cons .here (.cons .here (.cons .here (.cons .here .nil)))) cl_15 rfl ?_
  rintro _ _ ⟨t0, rfl, ht0, rfl⟩
  have e0 : t0.toFF = TF.F0 := ht0
  have hS0 : t0.toFF.Sh := by rw [e0]; exact kF.1.sh (by omega)
  rw [show FF.plantE FC.void.toFF = 0 from TF.p0]
  refine XO.v (V.move rfl) rfl ?_
  refine XO.v (V.extract rfl rfl) rfl ?_
  refine XO.v (V.extract rfl rfl) rfl ?_
  refine XO.v (V.assign rfl) rfl ?_
  refine XO.v (V.assign rfl) rfl ?_
  refine XO.nil ?_
  refine XE.next ?_
  refine XC.keep [(0, _), (1, _), (5, _), (7, _)] (Sub.cons rfl (Sub.cons rfl (Sub.cons rfl (Sub.cons rfl (Sub.nil _))))) ?_
  refine XC.seq ?_
  refine XC.region ?_
  refine XO.v (V.move rfl) rfl ?_
  refine XO.call rfl (t_Make _ _ _ hS0 _ _ _ (by decide)) (.cons .here (.cons .here (.cons .here .nil))) cl_17 rfl ?_
  rintro _ _ ⟨rfl, t1, ht1, pt1, ct1, rfl⟩
  rw [e0] at ht1
  have e1 : t1.toFF = TF.F1 := ht1
  have hS1 : t1.toFF.Sh := by rw [e1]; exact kF.2.1.sh (by omega)
  rw [e0, show FF.makeV TF.F0 0 { data := #[97] } 1 = 1 from TF.m1.2, show FF.makeE TF.F0 0 { data := #[97] } 1 = 0 from TF.m1.1]
  refine XO.v (V.move rfl) rfl ?_
  refine XO.v (V.extract rfl rfl) rfl ?_
  refine XO.v (V.extract rfl rfl) rfl ?_
  refine XO.v (V.assign rfl) rfl ?_
  refine XO.v (V.assign rfl) rfl ?_
  refine XO.nil ?_
  refine XE.next ?_
  refine XC.keep [(0, _), (1, _), (5, _), (7, _), (8, _), (9, _)] (Sub.cons rfl (Sub.cons rfl (Sub.cons rfl (Sub.cons rfl (Sub.cons rfl (Sub.cons rfl (Sub.nil _))))))) ?_
  refine XC.seq ?_
  refine XC.region ?_
  refine XO.v (V.move rfl) rfl ?_
  refine XO.call rfl (t_Make _ _ _ hS1 _ _ _ (by decide)) (.cons .here (.cons .here (.cons .here .nil))) cl_17 rfl ?_
  rintro _ _ ⟨rfl, t2, ht2, pt2, ct2, rfl⟩
  rw [e1] at ht2
  have e2 : t2.toFF = TF.F2 := ht2
  have hS2 : t2.toFF.Sh := by rw [e2]; exact kF.2.2.1.sh (by omega)
  rw [e1, show FF.makeV TF.F1 0 { data := #[98] } 1 = 2 from TF.m2.2, show FF.makeE TF.F1 0 { data := #[98] } 1 = 0 from TF.m2.1]
  refine XO.v (V.move rfl) rfl ?_
  refine XO.v (V.extract rfl rfl) rfl ?_
  refine XO.v (V.extract rfl rfl) rfl ?_
  refine XO.v (V.assign rfl) rfl ?_
  refine XO.v (V.assign rfl) rfl ?_
  refine XO.nil ?_
  refine XE.next ?_
  refine XC.keep [(0, _), (1, _), (5, _), (7, _), (8, _), (9, _), (10, _), (11, _)] (Sub.cons rfl (Sub.cons rfl (Sub.cons rfl (Sub.cons rfl (Sub.cons rfl (Sub.cons rfl (Sub.cons rfl (Sub.cons rfl (Sub.nil _))))))))) ?_
  refine XC.seq ?_
  refine XC.region ?_
  refine XO.v (V.move rfl) rfl ?_
  refine XO.v (V.build (vs := #[]) rfl (v := .agg #[.string ⟨#[]⟩, .int .i64 0, .int .i64 0, .string ⟨#[]⟩, .int .i64 0, .int .i64 0, .string ⟨#[]⟩, .int .i64 0, .int .i64 0, .string ⟨#[]⟩, .int .i64 0, .int .i64 0, .string ⟨#[]⟩, .int .i64 0, .int .i64 0, .string ⟨#[]⟩, .int .i64 0, .int .i64 0, .string ⟨#[]⟩, .int .i64 0, .int .i64 0, .string ⟨#[]⟩, .int .i64 0, .int .i64 0]) (fun _ => by kernel_rfl)) rfl ?_
  refine XO.box (m := 24) (C := encP PS.init) rfl rfl boxP_init rfl ?_
  intro bp
  refine XO.call rfl (f_New bf bp) .nil cl_31 rfl ?_
  rintro _ _ ⟨bo, rfl, rfl⟩
  refine XO.v (V.assign rfl) rfl ?_
  refine XO.nil ?_
  refine XE.next ?_
  refine XC.keep [(0, _), (1, _), (5, _), (7, _), (8, _), (9, _), (10, _), (11, _), (12, _)] (Sub.cons rfl (Sub.cons rfl (Sub.cons rfl (Sub.cons rfl (Sub.cons rfl (Sub.cons rfl (Sub.cons rfl (Sub.cons rfl (Sub.cons rfl (Sub.nil _)))))))))) ?_
  refine XC.seq ?_
  refine XC.seq ?_
  refine XC.region ?_
  refine XO.v (V.move rfl) rfl ?_
  refine XO.v (V.errNil rfl Try.underlying43 rfl) rfl ?_
  refine XO.v (V.move rfl) rfl ?_
  refine XO.splitF (d := 52) rfl (fun q => q rfl) ?_
  refine XO.guardRun rfl rfl rfl ?_
  refine XO.v (V.move rfl) rfl ?_
  refine XO.guardRun rfl rfl rfl ?_
  refine XO.v (V.errNil rfl Try.underlying43 rfl) rfl ?_
  refine XO.v (V.pick rfl rfl rfl rfl) rfl ?_
  refine XO.v (V.move rfl) rfl ?_
  refine XO.splitF (d := 56) rfl (fun q => q rfl) ?_
  refine XO.guardRun rfl rfl rfl ?_
  refine XO.v (V.move rfl) rfl ?_
  refine XO.guardRun rfl rfl rfl ?_
  refine XO.v (V.errNil rfl Try.underlying43 rfl) rfl ?_
  refine XO.v (V.pick rfl rfl rfl rfl) rfl ?_
  refine XO.v (V.move rfl) rfl ?_
  refine XO.splitF (d := 60) rfl (fun q => q rfl) ?_
  refine XO.guardRun rfl rfl rfl ?_
  refine XO.v (V.move rfl) rfl ?_
  refine XO.guardRun rfl rfl rfl ?_
  refine XO.v (V.ptrNilP rfl Try.underlying65 rfl) rfl ?_
  refine XO.v (V.pick rfl rfl rfl rfl) rfl ?_
  refine XO.nil ?_
  refine XE.next ?_
  refine XC.keep [(0, _), (1, _), (5, _), (8, _), (10, _), (12, _), (63, _)] (Sub.cons rfl (Sub.cons rfl (Sub.cons rfl (Sub.cons rfl (Sub.cons rfl (Sub.cons rfl (Sub.cons rfl (Sub.nil _)))))))) ?_
  refine XC.condF rfl rfl ?_
  refine XC.skip ?_
  refine XE.next ?_
  refine XC.keep [(0, _), (1, _), (5, _), (8, _), (10, _), (12, _)] (Sub.cons rfl (Sub.cons rfl (Sub.cons rfl (Sub.cons rfl (Sub.cons rfl (Sub.cons rfl (Sub.nil _))))))) ?_
  refine XC.seq ?_
  refine XC.region ?_
  refine XO.v (V.move rfl) rfl ?_
  refine XO.v (V.move rfl) rfl ?_
  refine XO.call rfl (f_Node _ _ _ _ OS.void t2 hS2 1 true) (.cons .here (.cons (.there .here) (.cons (.there .here) (.cons (.there .here) .nil)))) cl_32 rfl ?_
  rintro _ _ ⟨rfl, t3, ht3, pt3, ct3, rfl⟩
  rw [e2, TF.o1.2] at ht3
  have hS3 : t3.toFF.Sh := by rw [ht3]; exact kF.2.2.2.1.sh (by omega)
  rw [e2, TF.n1.1, TF.n1.2, TF.o1.1]
  refine XO.v (V.move rfl) rfl ?_
  refine XO.v (V.extract rfl rfl) rfl ?_
  refine XO.v (V.extract rfl rfl) rfl ?_
  refine XO.v (V.assign rfl) rfl ?_
  refine XO.v (V.assign rfl) rfl ?_
  refine XO.nil ?_
  refine XE.next ?_
  refine XC.keep [(0, _), (1, _), (5, _), (8, _), (9, _), (10, _), (12, _), (13, _)] (Sub.cons rfl (Sub.cons rfl (Sub.cons rfl (Sub.cons rfl (Sub.cons rfl (Sub.cons rfl (Sub.cons rfl (Sub.cons rfl (Sub.nil _))))))))) ?_
  refine XC.seq ?_
  refine XC.region ?_
  refine XO.v (V.move rfl) rfl ?_
  refine XO.v (V.move rfl) rfl ?_
  refine XO.call rfl (f_Node _ _ _ _ TF.O1 t3 hS3 1 false) (.cons .here (.cons .here (.cons .here (.cons .here .nil)))) cl_32 rfl ?_
  rintro _ _ ⟨rfl, t4, ht4, pt4, ct4, rfl⟩
  rw [ht3, TF.o2.2] at ht4
  have hS4 : t4.toFF.Sh := by rw [ht4]; exact kF.2.2.2.2.1.sh (by omega)
  rw [ht3, TF.n2.1, TF.n2.2, TF.o2.1]
  refine XO.v (V.move rfl) rfl ?_
  refine XO.v (V.extract rfl rfl) rfl ?_
  refine XO.v (V.extract rfl rfl) rfl ?_
  refine XO.v (V.assign rfl) rfl ?_
  refine XO.v (V.assign rfl) rfl ?_
  refine XO.nil ?_
  refine XE.next ?_
  refine XC.keep [(0, _), (1, _), (5, _), (9, _), (10, _), (11, _), (12, _), (13, _), (14, _)] (Sub.cons rfl (Sub.cons rfl (Sub.cons rfl (Sub.cons rfl (Sub.cons rfl (Sub.cons rfl (Sub.cons rfl (Sub.cons rfl (Sub.cons rfl (Sub.nil _)))))))))) ?_
  refine XC.seq ?_
  refine XC.region ?_
  refine XO.v (V.move rfl) rfl ?_
  refine XO.v (V.move rfl) rfl ?_
  refine XO.call rfl (f_Node _ _ _ _ TF.O2 t4 hS4 2 true) (.cons .here (.cons .here (.cons .here (.cons .here .nil)))) cl_32 rfl ?_
  rintro _ _ ⟨rfl, t5, ht5, pt5, ct5, rfl⟩
  rw [ht4, TF.o3.2] at ht5
  have hS5 : t5.toFF.Sh := by rw [ht5]; exact kF.2.2.2.2.2.1.sh (by omega)
  rw [ht4, TF.n3.1, TF.n3.2, TF.o3.1]
  refine XO.v (V.move rfl) rfl ?_
  refine XO.v (V.extract rfl rfl) rfl ?_
  refine XO.v (V.extract rfl rfl) rfl ?_
  refine XO.v (V.assign rfl) rfl ?_
  refine XO.v (V.assign rfl) rfl ?_
  refine XO.nil ?_
  refine XE.next ?_
  refine XC.keep [(0, _), (1, _), (5, _), (9, _), (11, _), (12, _), (13, _), (14, _), (15, _), (16, _)] (Sub.cons rfl (Sub.cons rfl (Sub.cons rfl (Sub.cons rfl (Sub.cons rfl (Sub.cons rfl (Sub.cons rfl (Sub.cons rfl (Sub.cons rfl (Sub.cons rfl (Sub.nil _))))))))))) ?_
  refine XC.seq ?_
  refine XC.seq ?_
  refine XC.region ?_
  refine XO.v (V.move rfl) rfl ?_
  refine XO.v (V.errNil rfl Try.underlying43 rfl) rfl ?_
  refine XO.v (V.move rfl) rfl ?_
  refine XO.splitF (d := 84) rfl (fun q => q rfl) ?_
  refine XO.guardRun rfl rfl rfl ?_
  refine XO.v (V.move rfl) rfl ?_
  refine XO.guardRun rfl rfl rfl ?_
  refine XO.v (V.errNil rfl Try.underlying43 rfl) rfl ?_
  refine XO.v (V.pick rfl rfl rfl rfl) rfl ?_
  refine XO.v (V.move rfl) rfl ?_
  refine XO.splitF (d := 88) rfl (fun q => q rfl) ?_
  refine XO.guardRun rfl rfl rfl ?_
  refine XO.v (V.move rfl) rfl ?_
  refine XO.guardRun rfl rfl rfl ?_
  refine XO.v (V.errNil rfl Try.underlying43 rfl) rfl ?_
  refine XO.v (V.pick rfl rfl rfl rfl) rfl ?_
  refine XO.v (V.move rfl) rfl ?_
  refine XO.splitF (d := 92) rfl (fun q => q rfl) ?_
  refine XO.guardRun rfl rfl rfl ?_
  refine XO.v (V.move rfl) rfl ?_
  refine XO.guardRun rfl rfl rfl ?_
  refine XO.v (V.move rfl) rfl ?_
  refine XO.guardRun rfl rfl rfl ?_
  refine XO.call rfl (f_Share _ _ _ _ TF.O3 5 (by decide) TF.O3_inv 0) (.cons .here .nil) cl_33 rfl ?_
  rintro _ _ ⟨rfl, rfl⟩
  rw [TF.sh.1, TF.share4]
  refine XO.guardRun rfl rfl rfl ?_
  refine XO.v (V.errNil rfl Try.underlying43 rfl) rfl ?_
  refine XO.v (V.pick rfl rfl rfl rfl) rfl ?_
  refine XO.v (V.move rfl) rfl ?_
  refine XO.splitF (d := 98) rfl (fun q => q rfl) ?_
  refine XO.guardRun rfl rfl rfl ?_
  refine XO.v (V.move rfl) rfl ?_
  refine XO.guardRun rfl rfl rfl ?_
  refine XO.call rfl (f_Open _ _ _ _ (TF.oO 2 0 0 0)) (.cons .here .nil) cl_34 rfl ?_
  rintro _ _ ⟨rfl, rfl⟩
  refine XO.guardRun rfl rfl rfl ?_
  refine XO.v (V.cmp rfl rfl rfl) rfl ?_
  refine XO.v (V.pick rfl rfl rfl rfl) rfl ?_
  refine XO.nil ?_
  refine XE.next ?_
  refine XC.keep [(0, _), (1, _), (5, _), (12, _), (13, _), (14, _), (15, _), (102, _)] (Sub.cons rfl (Sub.cons rfl (Sub.cons rfl (Sub.cons rfl (Sub.cons rfl (Sub.cons rfl (Sub.cons rfl (Sub.cons rfl (Sub.nil _))))))))) ?_
  refine XC.condFP rfl (by rw [TF.opens4]; exact fun q => q rfl) ?_
  refine XC.skip ?_
  refine XE.next ?_
  refine XC.keep [(0, _), (1, _), (5, _), (12, _), (13, _), (14, _), (15, _)] (Sub.cons rfl (Sub.cons rfl (Sub.cons rfl (Sub.cons rfl (Sub.cons rfl (Sub.cons rfl (Sub.cons rfl (Sub.nil _)))))))) ?_
  refine XC.seq ?_
  refine XC.seq ?_
  refine XC.region ?_
  refine XO.v (V.move rfl) rfl ?_
  refine XO.v (V.lenSl rfl Try.underlying28) rfl ?_
  refine XO.v (V.cmp rfl rfl rfl) rfl ?_
  refine XO.v (V.move rfl) rfl ?_
  refine XO.splitP (d := 106) rfl (fun h8 => ?_) (fun h8 => ?_)
  · skip
    refine XO.guardSkip rfl rfl rfl rfl rfl ?_
    refine XO.guardSkip rfl rfl rfl rfl rfl ?_
    refine XO.guardSkip rfl rfl rfl rfl rfl ?_
    refine XO.v (V.pick rfl rfl rfl rfl) rfl ?_
    refine XO.nil ?_
    refine XE.next ?_
    refine XC.keep [(0, _), (1, _), (5, _), (12, _), (13, _), (14, _), (15, _), (110, _)] (Sub.cons rfl (Sub.cons rfl (Sub.cons rfl (Sub.cons rfl (Sub.cons rfl (Sub.cons rfl (Sub.cons rfl (Sub.cons rfl (Sub.nil _))))))))) ?_
    refine XC.condT rfl rfl ?_
    refine XC.seq ?_
    refine XC.region ?_
    refine XO.v (V.assign rfl) rfl ?_
    refine XO.nil ?_
    refine XE.next ?_
    refine XC.keep [(4, _)] (Sub.cons rfl (Sub.nil _)) ?_
    refine XC.ret ?_
    refine XE.thenRet ?_
    refine XE.ret1 rfl rfl (post_of .nil rfl ?_)
    exact ⟨rfl, rfl⟩
  · skip
    refine XO.guardRun rfl rfl rfl ?_
    refine XO.v (V.move rfl) rfl ?_
    refine XO.guardRun rfl rfl rfl ?_
    refine XO.v (V.lenSl rfl Try.underlying29) rfl ?_
    refine XO.guardRun rfl rfl rfl ?_
    refine XO.v (V.cmp rfl rfl rfl) rfl ?_
    refine XO.v (V.pick rfl rfl rfl rfl) rfl ?_
    refine XO.nil ?_
    refine XE.next ?_
    refine XC.keep [(0, _), (1, _), (5, _), (12, _), (13, _), (14, _), (15, _), (110, _)] (Sub.cons rfl (Sub.cons rfl (Sub.cons rfl (Sub.cons rfl (Sub.cons rfl (Sub.cons rfl (Sub.cons rfl (Sub.cons rfl (Sub.nil _))))))))) ?_
    refine XC.condP rfl (fun h9 => ?_) (fun h9 => ?_)
    · skip
      refine XC.seq ?_
      refine XC.region ?_
      refine XO.v (V.assign rfl) rfl ?_
      refine XO.nil ?_
      refine XE.next ?_
      refine XC.keep [(4, _)] (Sub.cons rfl (Sub.nil _)) ?_
      refine XC.ret ?_
      refine XE.thenRet ?_
      refine XE.ret1 rfl rfl (post_of .nil rfl ?_)
      exact ⟨rfl, rfl⟩
    · skip
      refine XC.skip ?_
      refine XE.next ?_
      refine XC.keep [(0, _), (1, _), (5, _), (12, _), (13, _), (14, _), (15, _)] (Sub.cons rfl (Sub.cons rfl (Sub.cons rfl (Sub.cons rfl (Sub.cons rfl (Sub.cons rfl (Sub.cons rfl (Sub.nil _)))))))) ?_
      refine XC.seq ?_
      refine XC.region ?_
      refine XO.v (V.assign rfl) rfl ?_
      refine XO.nil ?_
      refine XE.next ?_
      refine XC.keep [(0, _), (1, _), (5, _), (12, _), (13, _), (14, _), (15, _), (17, _)] (Sub.cons rfl (Sub.cons rfl (Sub.cons rfl (Sub.cons rfl (Sub.cons rfl (Sub.cons rfl (Sub.cons rfl (Sub.cons rfl (Sub.nil _))))))))) ?_
      refine XC.seq ?_
      refine XC.seq ?_
      refine XC.region ?_
      refine XO.v (V.assign rfl) rfl ?_
      refine XO.nil ?_
      refine XE.next ?_
      refine XC.keep [(0, _), (1, _), (5, _), (12, _), (13, _), (14, _), (15, _), (17, _), (18, _)] (Sub.cons rfl (Sub.cons rfl (Sub.cons rfl (Sub.cons rfl (Sub.cons rfl (Sub.cons rfl (Sub.cons rfl (Sub.cons rfl (Sub.cons rfl (Sub.nil _)))))))))) ?_
      refine XC.block ?_
      refine XC.loop (σ := FC × OS × ByteArray × Int) (fun q => (n1 - q.2.2.2).toNat) (fun q => (∃ db a2 r, q.1.toFF = TF.fF q.2.2.1 db ∧ q.2.1 = TF.oO r q.2.2.1.size 0 a2 ∧ (r = if 2 ≤ q.2.2.2 then 1 else 2) ∧ db.size ≤ 40 ∧ 0 ≤ a2 ∧ a2 ≤ 40) ∧ q.2.2.1.size ≤ 40 ∧ 0 ≤ q.2.2.2 ∧ q.2.2.2 ≤ n1) (fun q => [(17, .string q.2.2.1), (18, .int .i64 q.2.2.2), (0, .slice (some ⟨b1, o1, none⟩) n1 c1), (1, .slice p2 0 c2), (5, ptr bf 0 0), (12, ptr bo 0 0), (13, .int .i64 0), (14, .int .i64 1), (15, .int .i64 2)]) (fun q => XM W (foot [.ro b1 o1 n1 (encSt w1 n1)]) [.cells bo 0 122 (encO bf bp q.2.1), .cells bf 0 321 (encF q.1), .fam fam40 (FC.rowsN 9 q.1), .fam fam40 (FC.rowsK 3 q.1), .cells bp 0 24 (encP PS.init), .ro b1 o1 n1 (encSt w1 n1)]) ((t5, TF.oO 2 0 0 0, ⟨#[]⟩, 0)) ?_ (Sub.cons rfl (Sub.cons rfl (Sub.cons rfl (Sub.cons rfl (Sub.cons rfl (Sub.cons rfl (Sub.cons rfl (Sub.cons rfl (Sub.cons rfl (Sub.nil _)))))))))) (fun _ hw => XM.pick (.cons .here (.cons .here (.cons .here (.cons .here (.cons .here (.cons (.there .here) .nil)))))) hw) ?_
      · skip
        exact ⟨⟨ByteArray.empty, 0, 2, by rw [show t5.toFF = TF.F5 from ht5, TF.F5_data]; rfl, rfl, rfl, by decide, by decide, by decide⟩, (by decide : (ByteArray.mk #[]).size ≤ 40), (by decide : (0 : Int) ≤ 0), by simp⟩
      intro q hx
      obtain ⟨⟨db, a2, r, hF, hO, hr, hd, hb0, hb1⟩, hal, hi0, hi1⟩ := hx
      rw [hO]
      have hr12 : r = 1 ∨ r = 2 := by rw [hr]; split <;> simp
      have hrr : 0 ≤ r ∧ r ≤ 2 := by omega
      have hS : q.1.toFF.Sh := by rw [hF]; exact TF.fF_sh hal hd
      refine XC.seq ?_
      refine XC.seq ?_
      refine XC.region ?_
      refine XO.v (V.move rfl) rfl ?_
      refine XO.v (V.move rfl) rfl ?_
      refine XO.v (V.lenSl rfl Try.underlying28) rfl ?_
      refine XO.v (V.cmp rfl rfl rfl) rfl ?_
      refine XO.nil ?_
      refine XE.next ?_
      refine XC.keep [(0, _), (1, _), (5, _), (12, _), (13, _), (14, _), (15, _), (17, _), (18, _), (114, _)] (Sub.cons rfl (Sub.cons rfl (Sub.cons rfl (Sub.cons rfl (Sub.cons rfl (Sub.cons rfl (Sub.cons rfl (Sub.cons rfl (Sub.cons rfl (Sub.cons rfl (Sub.nil _))))))))))) ?_
      refine XC.condP rfl (fun h10 => ?_) (fun h10 => ?_)
      · skip
        refine XC.skip ?_
        refine XE.next ?_
        refine XC.keep [(0, _), (1, _), (5, _), (12, _), (13, _), (14, _), (15, _), (17, _), (18, _)] (Sub.cons rfl (Sub.cons rfl (Sub.cons rfl (Sub.cons rfl (Sub.cons rfl (Sub.cons rfl (Sub.cons rfl (Sub.cons rfl (Sub.cons rfl (Sub.nil _)))))))))) ?_
        refine XC.seq ?_
        refine XC.block ?_
        refine XC.seq ?_
        refine XC.seq ?_
        refine XC.region ?_
        refine XO.v (V.move rfl) rfl ?_
        refine XO.v (V.move rfl) rfl ?_
        refine XO.v (V.indexSl rfl rfl sl_28 (by omega)) rfl ?_
        refine XO.v (V.loadRo rfl (inXM (.there (.there (.there (.there (.there .here)))))) (encSt.ld w1 n1 _ (by omega)) sc_9) rfl ?_
        refine XO.v (V.lenStr rfl Try.underlying9) rfl ?_
        refine XO.v (V.cmp rfl rfl rfl) rfl ?_
        refine XO.nil ?_
        refine XE.next ?_
        refine XC.keep [(0, _), (1, _), (5, _), (12, _), (13, _), (14, _), (15, _), (17, _), (18, _), (122, _)] (Sub.cons rfl (Sub.cons rfl (Sub.cons rfl (Sub.cons rfl (Sub.cons rfl (Sub.cons rfl (Sub.cons rfl (Sub.cons rfl (Sub.cons rfl (Sub.cons rfl (Sub.nil _))))))))))) ?_
        refine XC.condP rfl (fun h11 => ?_) (fun h11 => ?_)
        · skip
          refine XC.seq ?_
          refine XC.region ?_
          refine XO.v (V.assign rfl) rfl ?_
          refine XO.nil ?_
          refine XE.next ?_
          refine XC.keep [(4, _)] (Sub.cons rfl (Sub.nil _)) ?_
          refine XC.ret ?_
          refine XE.thenRet ?_
          refine XE.blockRet ?_
          refine XE.thenRet ?_
          refine XE.thenRet ?_
          refine XE.blockRet ?_
          refine XE.thenRet ?_
          refine XE.ret1 rfl rfl (post_of .nil rfl ?_)
          exact ⟨rfl, rfl⟩
        · skip
          have hx : (w1 q.2.2.2).size ≤ 60 := by omega
          refine XC.skip ?_
          refine XE.next ?_
          refine XC.keep [(0, _), (1, _), (5, _), (12, _), (13, _), (14, _), (15, _), (17, _), (18, _)] (Sub.cons rfl (Sub.cons rfl (Sub.cons rfl (Sub.cons rfl (Sub.cons rfl (Sub.cons rfl (Sub.cons rfl (Sub.cons rfl (Sub.cons rfl (Sub.nil _)))))))))) ?_
          refine XC.seq ?_
          refine XC.region ?_
          refine XO.v (V.move rfl) rfl ?_
          refine XO.v (V.move rfl) rfl ?_
          refine XO.v (V.move rfl) rfl ?_
          refine XO.v (V.move rfl) rfl ?_
          refine XO.v (V.indexSl rfl rfl sl_28 (by omega)) rfl ?_
          refine XO.v (V.loadRo rfl (inXM (.there (.there (.there (.there (.there .here)))))) (encSt.ld w1 n1 _ (by omega)) sc_9) rfl ?_
          refine XO.call rfl (f_Write _ _ _ _ (TF.oO r q.2.2.1.size 0 a2) 5 (by decide) (TF.oO_inv hrr ⟨by omega, by omega⟩ ⟨by omega, by omega⟩ ⟨hb0, hb1⟩) q.1 hS 0 (by decide) PS.init PS.Inv.init 0 _ (by omega)) (.cons .here (.cons .here (.cons .here (.cons .here (.cons .here .nil))))) cl_35 rfl ?_
          rintro _ _ ⟨rfl, t1, ht1, pt1, ct1, rfl⟩
          obtain ⟨hpp, hw⟩ := TF.w1 q.2.2.1 db (w1 q.2.2.2) r 0 a2 (by omega) hal PS.init
          rw [hF] at ht1
          rw [hF, hpp]
          refine XO.v (V.move rfl) rfl ?_
          refine XO.v (V.extract rfl rfl) rfl ?_
          refine XO.v (V.extract rfl rfl) rfl ?_
          refine XO.v (V.assign rfl) rfl ?_
          refine XO.v (V.assign rfl) rfl ?_
          refine XO.nil ?_
          refine XE.next ?_
          refine XC.keep [(0, _), (1, _), (5, _), (12, _), (13, _), (14, _), (15, _), (17, _), (18, _), (19, _), (20, _)] (Sub.cons rfl (Sub.cons rfl (Sub.cons rfl (Sub.cons rfl (Sub.cons rfl (Sub.cons rfl (Sub.cons rfl (Sub.cons rfl (Sub.cons rfl (Sub.cons rfl (Sub.cons rfl (Sub.nil _)))))))))))) ?_
          refine XC.seq ?_
          refine XC.seq ?_
          refine XC.region ?_
          refine XO.v (V.move rfl) rfl ?_
          refine XO.v (V.errNil rfl Try.underlying43 rfl) rfl ?_
          refine XO.nil ?_
          refine XE.next ?_
          refine XC.keep [(0, _), (1, _), (5, _), (12, _), (13, _), (14, _), (15, _), (17, _), (18, _), (19, _), (134, _)] (Sub.cons rfl (Sub.cons rfl (Sub.cons rfl (Sub.cons rfl (Sub.cons rfl (Sub.cons rfl (Sub.cons rfl (Sub.cons rfl (Sub.cons rfl (Sub.cons rfl (Sub.cons rfl (Sub.nil _)))))))))))) ?_
          refine XC.condP rfl (fun h12 => ?_) (fun h12 => ?_)
          · skip
            have hw2 : q.2.2.1.size + (w1 q.2.2.2).size ≤ 40 ∧ owriteV (TF.fF q.2.2.1 db) PS.init (TF.oO r q.2.2.1.size 0 a2) 0 (w1 q.2.2.2) = (w1 q.2.2.2).size ∧ owriteF (TF.fF q.2.2.1 db) (TF.oO r q.2.2.1.size 0 a2) 0 (w1 q.2.2.2) = TF.fF (q.2.2.1 ++ w1 q.2.2.2) db ∧ owriteO (TF.fF q.2.2.1 db) (TF.oO r q.2.2.1.size 0 a2) 0 (w1 q.2.2.2) = TF.oO r (q.2.2.1 ++ w1 q.2.2.2).size 0 a2 := by
              rcases hw with ⟨g1, _, g3, g4, g5⟩ | ⟨g2, _⟩
              · exact ⟨g1, g3, g4, g5⟩
              · rw [g2] at h12; exact absurd h12 (by decide)
            obtain ⟨g1, g3, g4, g5⟩ := hw2
            rw [g3, g5]
            have hsz := ByteArray.size_append (a := q.2.2.1) (b := w1 q.2.2.2)
            have hF1 : t1.toFF = TF.fF (q.2.2.1 ++ w1 q.2.2.2) db := ht1.trans g4
            have hS1 : t1.toFF.Sh := by rw [hF1]; exact TF.fF_sh (by omega) hd
            refine XC.seq ?_
            refine XC.seq ?_
            refine XC.region ?_
            refine XO.v (V.move rfl) rfl ?_
            refine XO.v (V.move rfl) rfl ?_
            refine XO.v (V.move rfl) rfl ?_
            refine XO.v (V.indexSl rfl rfl sl_28 (by omega)) rfl ?_
            refine XO.v (V.loadRo rfl (inXM (.there (.there (.there (.there (.there .here)))))) (encSt.ld w1 n1 _ (by omega)) sc_9) rfl ?_
            refine XO.v (V.lenStr rfl Try.underlying9) rfl ?_
            refine XO.v (V.cmp rfl rfl rfl) rfl ?_
            refine XO.nil ?_
            refine XE.next ?_
            refine XC.keep [(0, _), (1, _), (5, _), (12, _), (13, _), (14, _), (15, _), (17, _), (18, _), (141, _)] (Sub.cons rfl (Sub.cons rfl (Sub.cons rfl (Sub.cons rfl (Sub.cons rfl (Sub.cons rfl (Sub.cons rfl (Sub.cons rfl (Sub.cons rfl (Sub.cons rfl (Sub.nil _))))))))))) ?_
            refine XC.condFP rfl (fun q => q rfl) ?_
            refine XC.skip ?_
            refine XE.next ?_
            refine XC.keep [(0, _), (1, _), (5, _), (12, _), (13, _), (14, _), (15, _), (17, _), (18, _)] (Sub.cons rfl (Sub.cons rfl (Sub.cons rfl (Sub.cons rfl (Sub.cons rfl (Sub.cons rfl (Sub.cons rfl (Sub.cons rfl (Sub.cons rfl (Sub.nil _)))))))))) ?_
            refine XC.region ?_
            refine XO.v (V.move rfl) rfl ?_
            refine XO.v (V.move rfl) rfl ?_
            refine XO.v (V.move rfl) rfl ?_
            refine XO.v (V.indexSl rfl rfl sl_28 (by omega)) rfl ?_
            refine XO.v (V.loadRo rfl (inXM (.there (.there (.there (.there (.there .here)))))) (encSt.ld w1 n1 _ (by omega)) sc_9) rfl ?_
            refine XO.v (V.concat rfl rfl (by omega)) rfl ?_
            refine XO.v (V.assign rfl) rfl ?_
            refine XO.nil ?_
            refine XE.next ?_
            refine XC.keep [(0, _), (1, _), (5, _), (12, _), (13, _), (14, _), (15, _), (17, _), (18, _)] (Sub.cons rfl (Sub.cons rfl (Sub.cons rfl (Sub.cons rfl (Sub.cons rfl (Sub.cons rfl (Sub.cons rfl (Sub.cons rfl (Sub.cons rfl (Sub.nil _)))))))))) ?_
            refine XC.seq ?_
            refine XC.seq ?_
            refine XC.region ?_
            refine XO.v (V.move rfl) rfl ?_
            refine XO.v (V.cmp rfl rfl rfl) rfl ?_
            refine XO.v (V.move rfl) rfl ?_
            refine XO.splitP (d := 150) rfl (fun h13 => ?_) (fun h13 => ?_)
            · skip
              have hr2 : r = 2 := by rw [hr, if_neg (by omega)]
              rw [hr2]
              refine XO.guardRun rfl rfl rfl ?_
              refine XO.v (V.move rfl) rfl ?_
              refine XO.guardRun rfl rfl rfl ?_
              refine XO.v (V.move rfl) rfl ?_
              refine XO.guardRun rfl rfl rfl ?_
              refine XO.call rfl (f_Close _ _ _ _ (TF.oO 2 ((q.2.2.1 ++ w1 q.2.2.2)).size 0 a2) 5 (by decide) (TF.oO_inv (by decide) ⟨by omega, by omega⟩ ⟨by omega, by omega⟩ ⟨hb0, hb1⟩) t1 hS1 0 (by decide) PS.init PS.Inv.init 0) (.cons .here (.cons .here (.cons .here (.cons .here (.cons .here .nil))))) cl_36 rfl ?_
              rintro _ _ ⟨rfl, t2, ht2, pt2, ct2, rfl⟩
              obtain ⟨q1, q2, q3, q4⟩ := TF.c1 t1.toFF PS.init ((q.2.2.1 ++ w1 q.2.2.2)).size 0 a2
              rw [q1, q3, q4]
              have hF2 : t2.toFF = TF.fF (q.2.2.1 ++ w1 q.2.2.2) db := by rw [ht2, q2]; exact hF1
              have hS2 : t2.toFF.Sh := by rw [hF2]; exact TF.fF_sh (by omega) hd
              refine XO.guardRun rfl rfl rfl ?_
              refine XO.v (V.errNil rfl Try.underlying43 rfl) rfl ?_
              refine XO.v (V.pick rfl rfl rfl rfl) rfl ?_
              refine XO.nil ?_
              refine XE.next ?_
              refine XC.keep [(0, _), (1, _), (5, _), (12, _), (13, _), (14, _), (15, _), (17, _), (18, _), (155, _)] (Sub.cons rfl (Sub.cons rfl (Sub.cons rfl (Sub.cons rfl (Sub.cons rfl (Sub.cons rfl (Sub.cons rfl (Sub.cons rfl (Sub.cons rfl (Sub.cons rfl (Sub.nil _))))))))))) ?_
              refine XC.condFP rfl (fun q => q rfl) ?_
              refine XC.skip ?_
              refine XE.next ?_
              refine XC.keep [(0, _), (1, _), (5, _), (12, _), (13, _), (14, _), (15, _), (17, _), (18, _)] (Sub.cons rfl (Sub.cons rfl (Sub.cons rfl (Sub.cons rfl (Sub.cons rfl (Sub.cons rfl (Sub.cons rfl (Sub.cons rfl (Sub.cons rfl (Sub.nil _)))))))))) ?_
              refine XC.region ?_
              refine XO.v (V.move rfl) rfl ?_
              refine XO.v (V.move rfl) rfl ?_
              refine XO.call rfl (f_Write _ _ _ _ (TF.oO 1 ((q.2.2.1 ++ w1 q.2.2.2)).size 0 a2) 5 (by decide) (TF.oO_inv (by decide) ⟨by omega, by omega⟩ ⟨by omega, by omega⟩ ⟨hb0, hb1⟩) t2 hS2 0 (by decide) PS.init PS.Inv.init 2 _ (by decide)) (.cons .here (.cons .here (.cons .here (.cons .here (.cons .here .nil))))) cl_35 rfl ?_
              rintro _ _ ⟨rfl, t3, ht3, pt3, ct3, rfl⟩
              obtain ⟨hpp2, db2, b2, hd2, hb2, hb3, hX2, hO2⟩ := TF.w2 (q.2.2.1 ++ w1 q.2.2.2) db 1 ((q.2.2.1 ++ w1 q.2.2.2)).size 0 a2 (by decide) ⟨hb0, hb1⟩ hd PS.init
              rw [hF2] at ht3
              rw [hF2, hpp2, hO2]
              rw [hX2] at ht3
              refine XO.v (V.move rfl) rfl ?_
              refine XO.v (V.extract rfl rfl) rfl ?_
              refine XO.v (V.extract rfl rfl) rfl ?_
              refine XO.nil ?_
              refine XE.blockNormal ?_
              refine XE.next ?_
              refine XC.keep [(0, _), (1, _), (5, _), (12, _), (13, _), (14, _), (15, _), (17, _), (18, _)] (Sub.cons rfl (Sub.cons rfl (Sub.cons rfl (Sub.cons rfl (Sub.cons rfl (Sub.cons rfl (Sub.cons rfl (Sub.cons rfl (Sub.cons rfl (Sub.nil _)))))))))) ?_
              refine XC.region ?_
              refine XO.v (V.move rfl) rfl ?_
              refine XO.v (V.add rfl rfl _ (IntWalk.i64_in _ (by omega))) rfl ?_
              refine XO.v (V.assign rfl) rfl ?_
              refine XO.nil ?_
              refine XE.again ((t3, TF.oO 1 (q.2.2.1 ++ w1 q.2.2.2).size 0 b2, q.2.2.1 ++ w1 q.2.2.2, q.2.2.2 + 1)) ?_ ?_ (Sub.cons rfl (Sub.cons rfl (Sub.cons rfl (Sub.cons rfl (Sub.cons rfl (Sub.cons rfl (Sub.cons rfl (Sub.cons rfl (Sub.cons rfl (Sub.nil _)))))))))) (fun _ hw => XM.pick (.cons .here (.cons .here (.cons .here (.cons .here (.cons .here (.cons .here .nil)))))) hw)
              · skip
                (simp; omega)
              · skip
                exact ⟨⟨db2, b2, 1, ht3, rfl, by simp; omega, hd2, hb2, hb3⟩, by simp; omega, by simp; omega, by simp; omega⟩
            · skip
              refine XO.guardSkip rfl rfl rfl rfl rfl ?_
              refine XO.guardSkip rfl rfl rfl rfl rfl ?_
              refine XO.guardSkip rfl rfl rfl rfl rfl ?_
              refine XO.guardSkip rfl rfl rfl rfl rfl ?_
              refine XO.v (V.pick rfl rfl rfl rfl) rfl ?_
              refine XO.nil ?_
              refine XE.next ?_
              refine XC.keep [(0, _), (1, _), (5, _), (12, _), (13, _), (14, _), (15, _), (17, _), (18, _), (155, _)] (Sub.cons rfl (Sub.cons rfl (Sub.cons rfl (Sub.cons rfl (Sub.cons rfl (Sub.cons rfl (Sub.cons rfl (Sub.cons rfl (Sub.cons rfl (Sub.cons rfl (Sub.nil _))))))))))) ?_
              refine XC.condF rfl rfl ?_
              refine XC.skip ?_
              refine XE.next ?_
              refine XC.keep [(0, _), (1, _), (5, _), (12, _), (13, _), (14, _), (15, _), (17, _), (18, _)] (Sub.cons rfl (Sub.cons rfl (Sub.cons rfl (Sub.cons rfl (Sub.cons rfl (Sub.cons rfl (Sub.cons rfl (Sub.cons rfl (Sub.cons rfl (Sub.nil _)))))))))) ?_
              refine XC.region ?_
              refine XO.v (V.move rfl) rfl ?_
              refine XO.v (V.move rfl) rfl ?_
              refine XO.call rfl (f_Write _ _ _ _ (TF.oO r ((q.2.2.1 ++ w1 q.2.2.2)).size 0 a2) 5 (by decide) (TF.oO_inv hrr ⟨by omega, by omega⟩ ⟨by omega, by omega⟩ ⟨hb0, hb1⟩) t1 hS1 0 (by decide) PS.init PS.Inv.init 2 _ (by decide)) (.cons .here (.cons .here (.cons .here (.cons .here (.cons .here .nil))))) cl_35 rfl ?_
              rintro _ _ ⟨rfl, t3, ht3, pt3, ct3, rfl⟩
              obtain ⟨hpp2, db2, b2, hd2, hb2, hb3, hX2, hO2⟩ := TF.w2 (q.2.2.1 ++ w1 q.2.2.2) db r ((q.2.2.1 ++ w1 q.2.2.2)).size 0 a2 (by omega) ⟨hb0, hb1⟩ hd PS.init
              rw [hF1] at ht3
              rw [hF1, hpp2, hO2]
              rw [hX2] at ht3
              refine XO.v (V.move rfl) rfl ?_
              refine XO.v (V.extract rfl rfl) rfl ?_
              refine XO.v (V.extract rfl rfl) rfl ?_
              refine XO.nil ?_
              refine XE.blockNormal ?_
              refine XE.next ?_
              refine XC.keep [(0, _), (1, _), (5, _), (12, _), (13, _), (14, _), (15, _), (17, _), (18, _)] (Sub.cons rfl (Sub.cons rfl (Sub.cons rfl (Sub.cons rfl (Sub.cons rfl (Sub.cons rfl (Sub.cons rfl (Sub.cons rfl (Sub.cons rfl (Sub.nil _)))))))))) ?_
              refine XC.region ?_
              refine XO.v (V.move rfl) rfl ?_
              refine XO.v (V.add rfl rfl _ (IntWalk.i64_in _ (by omega))) rfl ?_
              refine XO.v (V.assign rfl) rfl ?_
              refine XO.nil ?_
              refine XE.again ((t3, TF.oO r (q.2.2.1 ++ w1 q.2.2.2).size 0 b2, q.2.2.1 ++ w1 q.2.2.2, q.2.2.2 + 1)) ?_ ?_ (Sub.cons rfl (Sub.cons rfl (Sub.cons rfl (Sub.cons rfl (Sub.cons rfl (Sub.cons rfl (Sub.cons rfl (Sub.cons rfl (Sub.cons rfl (Sub.nil _)))))))))) (fun _ hw => XM.pick (.cons .here (.cons .here (.cons .here (.cons .here (.cons .here (.cons .here .nil)))))) hw)
              · skip
                (simp; omega)
              · skip
                refine ⟨⟨db2, b2, r, ht3, rfl, ?_, hd2, hb2, hb3⟩, by simp; omega, by simp; omega, by simp; omega⟩
                show r = if 2 ≤ q.2.2.2 + 1 then 1 else 2
                rw [hr]
                by_cases c : 2 ≤ q.2.2.2
                · rw [if_pos c, if_pos (by omega)]
                · rw [if_neg c, if_neg (by omega)]
          · skip
            have hw2 : owriteF (TF.fF q.2.2.1 db) (TF.oO r q.2.2.1.size 0 a2) 0 (w1 q.2.2.2) = TF.fF q.2.2.1 db ∧ owriteO (TF.fF q.2.2.1 db) (TF.oO r q.2.2.1.size 0 a2) 0 (w1 q.2.2.2) = TF.oO r q.2.2.1.size 0 a2 := by
              rcases hw with ⟨_, g2, _⟩ | ⟨_, g4, g5⟩
              · exact absurd g2 (by assumption)
              · exact ⟨g4, g5⟩
            obtain ⟨g4, g5⟩ := hw2
            rw [g5]
            have hF1 : t1.toFF = TF.fF q.2.2.1 db := ht1.trans g4
            have hS1 : t1.toFF.Sh := by rw [hF1]; exact TF.fF_sh hal hd
            refine XC.skip ?_
            refine XE.next ?_
            refine XC.keep [(0, _), (1, _), (5, _), (12, _), (13, _), (14, _), (15, _), (17, _), (18, _)] (Sub.cons rfl (Sub.cons rfl (Sub.cons rfl (Sub.cons rfl (Sub.cons rfl (Sub.cons rfl (Sub.cons rfl (Sub.cons rfl (Sub.cons rfl (Sub.nil _)))))))))) ?_
            refine XC.seq ?_
            refine XC.seq ?_
            refine XC.region ?_
            refine XO.v (V.move rfl) rfl ?_
            refine XO.v (V.cmp rfl rfl rfl) rfl ?_
            refine XO.v (V.move rfl) rfl ?_
            refine XO.splitP (d := 150) rfl (fun h14 => ?_) (fun h14 => ?_)
            · skip
              have hr2 : r = 2 := by rw [hr, if_neg (by omega)]
              rw [hr2]
              refine XO.guardRun rfl rfl rfl ?_
              refine XO.v (V.move rfl) rfl ?_
              refine XO.guardRun rfl rfl rfl ?_
              refine XO.v (V.move rfl) rfl ?_
              refine XO.guardRun rfl rfl rfl ?_
              refine XO.call rfl (f_Close _ _ _ _ (TF.oO 2 (q.2.2.1).size 0 a2) 5 (by decide) (TF.oO_inv (by decide) ⟨by omega, by omega⟩ ⟨by omega, by omega⟩ ⟨hb0, hb1⟩) t1 hS1 0 (by decide) PS.init PS.Inv.init 0) (.cons .here (.cons .here (.cons .here (.cons .here (.cons .here .nil))))) cl_36 rfl ?_
              rintro _ _ ⟨rfl, t2, ht2, pt2, ct2, rfl⟩
              obtain ⟨q1, q2, q3, q4⟩ := TF.c1 t1.toFF PS.init (q.2.2.1).size 0 a2
              rw [q1, q3, q4]
              have hF2 : t2.toFF = TF.fF q.2.2.1 db := by rw [ht2, q2]; exact hF1
              have hS2 : t2.toFF.Sh := by rw [hF2]; exact TF.fF_sh (by omega) hd
              refine XO.guardRun rfl rfl rfl ?_
              refine XO.v (V.errNil rfl Try.underlying43 rfl) rfl ?_
              refine XO.v (V.pick rfl rfl rfl rfl) rfl ?_
              refine XO.nil ?_
              refine XE.next ?_
              refine XC.keep [(0, _), (1, _), (5, _), (12, _), (13, _), (14, _), (15, _), (17, _), (18, _), (155, _)] (Sub.cons rfl (Sub.cons rfl (Sub.cons rfl (Sub.cons rfl (Sub.cons rfl (Sub.cons rfl (Sub.cons rfl (Sub.cons rfl (Sub.cons rfl (Sub.cons rfl (Sub.nil _))))))))))) ?_
              refine XC.condFP rfl (fun q => q rfl) ?_
              refine XC.skip ?_
              refine XE.next ?_
              refine XC.keep [(0, _), (1, _), (5, _), (12, _), (13, _), (14, _), (15, _), (17, _), (18, _)] (Sub.cons rfl (Sub.cons rfl (Sub.cons rfl (Sub.cons rfl (Sub.cons rfl (Sub.cons rfl (Sub.cons rfl (Sub.cons rfl (Sub.cons rfl (Sub.nil _)))))))))) ?_
              refine XC.region ?_
              refine XO.v (V.move rfl) rfl ?_
              refine XO.v (V.move rfl) rfl ?_
              refine XO.call rfl (f_Write _ _ _ _ (TF.oO 1 (q.2.2.1).size 0 a2) 5 (by decide) (TF.oO_inv (by decide) ⟨by omega, by omega⟩ ⟨by omega, by omega⟩ ⟨hb0, hb1⟩) t2 hS2 0 (by decide) PS.init PS.Inv.init 2 _ (by decide)) (.cons .here (.cons .here (.cons .here (.cons .here (.cons .here .nil))))) cl_35 rfl ?_
              rintro _ _ ⟨rfl, t3, ht3, pt3, ct3, rfl⟩
              obtain ⟨hpp2, db2, b2, hd2, hb2, hb3, hX2, hO2⟩ := TF.w2 q.2.2.1 db 1 (q.2.2.1).size 0 a2 (by decide) ⟨hb0, hb1⟩ hd PS.init
              rw [hF2] at ht3
              rw [hF2, hpp2, hO2]
              rw [hX2] at ht3
              refine XO.v (V.move rfl) rfl ?_
              refine XO.v (V.extract rfl rfl) rfl ?_
              refine XO.v (V.extract rfl rfl) rfl ?_
              refine XO.nil ?_
              refine XE.blockNormal ?_
              refine XE.next ?_
              refine XC.keep [(0, _), (1, _), (5, _), (12, _), (13, _), (14, _), (15, _), (17, _), (18, _)] (Sub.cons rfl (Sub.cons rfl (Sub.cons rfl (Sub.cons rfl (Sub.cons rfl (Sub.cons rfl (Sub.cons rfl (Sub.cons rfl (Sub.cons rfl (Sub.nil _)))))))))) ?_
              refine XC.region ?_
              refine XO.v (V.move rfl) rfl ?_
              refine XO.v (V.add rfl rfl _ (IntWalk.i64_in _ (by omega))) rfl ?_
              refine XO.v (V.assign rfl) rfl ?_
              refine XO.nil ?_
              refine XE.again ((t3, TF.oO 1 q.2.2.1.size 0 b2, q.2.2.1, q.2.2.2 + 1)) ?_ ?_ (Sub.cons rfl (Sub.cons rfl (Sub.cons rfl (Sub.cons rfl (Sub.cons rfl (Sub.cons rfl (Sub.cons rfl (Sub.cons rfl (Sub.cons rfl (Sub.nil _)))))))))) (fun _ hw => XM.pick (.cons .here (.cons .here (.cons .here (.cons .here (.cons .here (.cons .here .nil)))))) hw)
              · skip
                (simp; omega)
              · skip
                exact ⟨⟨db2, b2, 1, ht3, rfl, by simp; omega, hd2, hb2, hb3⟩, by simp; omega, by simp; omega, by simp; omega⟩
            · skip
              refine XO.guardSkip rfl rfl rfl rfl rfl ?_
              refine XO.guardSkip rfl rfl rfl rfl rfl ?_
              refine XO.guardSkip rfl rfl rfl rfl rfl ?_
              refine XO.guardSkip rfl rfl rfl rfl rfl ?_
              refine XO.v (V.pick rfl rfl rfl rfl) rfl ?_
              refine XO.nil ?_
              refine XE.next ?_
              refine XC.keep [(0, _), (1, _), (5, _), (12, _), (13, _), (14, _), (15, _), (17, _), (18, _), (155, _)] (Sub.cons rfl (Sub.cons rfl (Sub.cons rfl (Sub.cons rfl (Sub.cons rfl (Sub.cons rfl (Sub.cons rfl (Sub.cons rfl (Sub.cons rfl (Sub.cons rfl (Sub.nil _))))))))))) ?_
              refine XC.condF rfl rfl ?_
              refine XC.skip ?_
              refine XE.next ?_
              refine XC.keep [(0, _), (1, _), (5, _), (12, _), (13, _), (14, _), (15, _), (17, _), (18, _)] (Sub.cons rfl (Sub.cons rfl (Sub.cons rfl (Sub.cons rfl (Sub.cons rfl (Sub.cons rfl (Sub.cons rfl (Sub.cons rfl (Sub.cons rfl (Sub.nil _)))))))))) ?_
              refine XC.region ?_
              refine XO.v (V.move rfl) rfl ?_
              refine XO.v (V.move rfl) rfl ?_
              refine XO.call rfl (f_Write _ _ _ _ (TF.oO r (q.2.2.1).size 0 a2) 5 (by decide) (TF.oO_inv hrr ⟨by omega, by omega⟩ ⟨by omega, by omega⟩ ⟨hb0, hb1⟩) t1 hS1 0 (by decide) PS.init PS.Inv.init 2 _ (by decide)) (.cons .here (.cons .here (.cons .here (.cons .here (.cons .here .nil))))) cl_35 rfl ?_
              rintro _ _ ⟨rfl, t3, ht3, pt3, ct3, rfl⟩
              obtain ⟨hpp2, db2, b2, hd2, hb2, hb3, hX2, hO2⟩ := TF.w2 q.2.2.1 db r (q.2.2.1).size 0 a2 (by omega) ⟨hb0, hb1⟩ hd PS.init
              rw [hF1] at ht3
              rw [hF1, hpp2, hO2]
              rw [hX2] at ht3
              refine XO.v (V.move rfl) rfl ?_
              refine XO.v (V.extract rfl rfl) rfl ?_
              refine XO.v (V.extract rfl rfl) rfl ?_
              refine XO.nil ?_
              refine XE.blockNormal ?_
              refine XE.next ?_
              refine XC.keep [(0, _), (1, _), (5, _), (12, _), (13, _), (14, _), (15, _), (17, _), (18, _)] (Sub.cons rfl (Sub.cons rfl (Sub.cons rfl (Sub.cons rfl (Sub.cons rfl (Sub.cons rfl (Sub.cons rfl (Sub.cons rfl (Sub.cons rfl (Sub.nil _)))))))))) ?_
              refine XC.region ?_
              refine XO.v (V.move rfl) rfl ?_
              refine XO.v (V.add rfl rfl _ (IntWalk.i64_in _ (by omega))) rfl ?_
              refine XO.v (V.assign rfl) rfl ?_
              refine XO.nil ?_
              refine XE.again ((t3, TF.oO r q.2.2.1.size 0 b2, q.2.2.1, q.2.2.2 + 1)) ?_ ?_ (Sub.cons rfl (Sub.cons rfl (Sub.cons rfl (Sub.cons rfl (Sub.cons rfl (Sub.cons rfl (Sub.cons rfl (Sub.cons rfl (Sub.cons rfl (Sub.nil _)))))))))) (fun _ hw => XM.pick (.cons .here (.cons .here (.cons .here (.cons .here (.cons .here (.cons .here .nil)))))) hw)
              · skip
                (simp; omega)
              · skip
                refine ⟨⟨db2, b2, r, ht3, rfl, ?_, hd2, hb2, hb3⟩, by simp; omega, by simp; omega, by simp; omega⟩
                show r = if 2 ≤ q.2.2.2 + 1 then 1 else 2
                rw [hr]
                by_cases c : 2 ≤ q.2.2.2
                · rw [if_pos c, if_pos (by omega)]
                · rw [if_neg c, if_neg (by omega)]
      · skip
        refine XC.exit ?_
        refine XE.thenExit ?_
        refine XE.thenExit ?_
        refine XE.blockExit ?_
        refine XE.next ?_
        refine XC.keep [(0, _), (1, _), (5, _), (12, _), (13, _), (14, _), (17, _)] (Sub.cons rfl (Sub.cons rfl (Sub.cons rfl (Sub.cons rfl (Sub.cons rfl (Sub.cons rfl (Sub.cons rfl (Sub.nil _)))))))) ?_
        refine XC.seq ?_
        refine XC.seq ?_
        refine XC.region ?_
        refine XO.v (V.move rfl) rfl ?_
        refine XO.call rfl (t_Remove _ _ q.1 hS 0 _) (.cons (.there .here) (.cons (.there .here) (.cons (.there .here) .nil))) cl_27 rfl ?_
        rintro _ _ ⟨rfl, t1, ht1, pt1, ct1, rfl⟩
        rw [hF] at ht1
        have hG : t1.toFF = TF.gF q.2.2.1 db := ht1.trans (TF.rem q.2.2.1 db).2
        have hS1 : t1.toFF.Sh := by rw [hG]; exact TF.gF_sh hal hd
        rw [hF, show FF.removeE (TF.fF q.2.2.1 db) 0 { data := #[97] } = 0 from (TF.rem q.2.2.1 db).1]
        refine XO.v (V.errNil rfl Try.underlying43 rfl) rfl ?_
        refine XO.nil ?_
        refine XE.next ?_
        refine XC.keep [(0, _), (1, _), (5, _), (12, _), (13, _), (14, _), (17, _), (164, _)] (Sub.cons rfl (Sub.cons rfl (Sub.cons rfl (Sub.cons rfl (Sub.cons rfl (Sub.cons rfl (Sub.cons rfl (Sub.cons rfl (Sub.nil _))))))))) ?_
        refine XC.condFP rfl (fun q => q rfl) ?_
        refine XC.skip ?_
        refine XE.next ?_
        refine XC.keep [(0, _), (1, _), (5, _), (12, _), (13, _), (14, _), (17, _)] (Sub.cons rfl (Sub.cons rfl (Sub.cons rfl (Sub.cons rfl (Sub.cons rfl (Sub.cons rfl (Sub.cons rfl (Sub.nil _)))))))) ?_
        refine XC.seq ?_
        refine XC.region ?_
        refine XO.v (V.assign rfl) rfl ?_
        refine XO.nil ?_
        refine XE.next ?_
        refine XC.keep [(0, _), (1, _), (5, _), (12, _), (13, _), (14, _), (17, _), (21, _)] (Sub.cons rfl (Sub.cons rfl (Sub.cons rfl (Sub.cons rfl (Sub.cons rfl (Sub.cons rfl (Sub.cons rfl (Sub.cons rfl (Sub.nil _))))))))) ?_
        refine XC.seq ?_
        refine XC.seq ?_
        refine XC.region ?_
        refine XO.v (V.assign rfl) rfl ?_
        refine XO.nil ?_
        refine XE.next ?_
        refine XC.keep [(0, _), (1, _), (5, _), (12, _), (13, _), (14, _), (17, _), (21, _), (22, _)] (Sub.cons rfl (Sub.cons rfl (Sub.cons rfl (Sub.cons rfl (Sub.cons rfl (Sub.cons rfl (Sub.cons rfl (Sub.cons rfl (Sub.cons rfl (Sub.nil _)))))))))) ?_
        refine XC.block ?_
        refine XC.loop (σ := Int × Int) (fun y => ((0 : Nat) - y.2).toNat) (fun y => (0 ≤ y.1 ∧ y.1 ≤ q.2.2.1.size) ∧ 0 ≤ y.2 ∧ y.2 ≤ (0 : Nat)) (fun y => [(21, .string (q.2.2.1.extract 0 y.1.toNat)), (22, .int .i64 y.2), (0, .slice (some ⟨b1, o1, none⟩) n1 c1), (1, .slice p2 0 c2), (5, ptr bf 0 0), (12, ptr bo 0 0), (13, .int .i64 0), (14, .int .i64 1), (17, .string q.2.2.1)]) (fun y => XM W (foot [.ro b1 o1 n1 (encSt w1 n1)]) [.cells bo 0 122 (encO bf bp (TF.oO r q.2.2.1.size y.1 a2)), .cells bf 0 321 (encF t1), .fam fam40 (FC.rowsN 9 t1), .fam fam40 (FC.rowsK 3 t1), .cells bp 0 24 (encP PS.init), .ro b1 o1 n1 (encSt w1 n1)]) ((0, 0)) ?_ (Sub.cons (eqs (size_nil.2 (by rw [ByteArray.size_extract]; simp)).symm) (Sub.cons rfl (Sub.cons rfl (Sub.cons rfl (Sub.cons rfl (Sub.cons rfl (Sub.cons rfl (Sub.cons rfl (Sub.cons rfl (Sub.nil _)))))))))) (fun _ hw => XM.pick (.cons (.there (.there (.there .here))) (.cons .here (.cons .here (.cons .here (.cons .here (.cons .here .nil)))))) hw) ?_
        · skip
          exact ⟨⟨by simp, by simp⟩, by simp, by simp⟩
        intro y hx
        obtain ⟨⟨hg0, hg1⟩, hj0, hj1⟩ := hx
        have hgt : q.2.2.1.extract 0 y.1.toNat = q.2.2.1.extract 0 y.1.toNat := rfl
        refine XC.seq ?_
        refine XC.seq ?_
        refine XC.region ?_
        refine XO.v (V.move rfl) rfl ?_
        refine XO.v (V.move rfl) rfl ?_
        refine XO.v (V.lenSl rfl Try.underlying29) rfl ?_
        refine XO.v (V.cmp rfl rfl rfl) rfl ?_
        refine XO.nil ?_
        refine XE.next ?_
        refine XC.keep [(0, _), (1, _), (5, _), (12, _), (13, _), (14, _), (17, _), (21, _), (22, _), (168, _)] (Sub.cons rfl (Sub.cons rfl (Sub.cons rfl (Sub.cons rfl (Sub.cons rfl (Sub.cons rfl (Sub.cons rfl (Sub.cons rfl (Sub.cons rfl (Sub.cons rfl (Sub.nil _))))))))))) ?_
        refine XC.condFP rfl (by simp; omega) ?_
        refine XC.exit ?_
        refine XE.thenExit ?_
        refine XE.thenExit ?_
        refine XE.blockExit ?_
        refine XE.next ?_
        refine XC.keep [(0, _), (5, _), (12, _), (13, _), (14, _), (17, _), (21, _)] (Sub.cons rfl (Sub.cons rfl (Sub.cons rfl (Sub.cons rfl (Sub.cons rfl (Sub.cons rfl (Sub.cons rfl (Sub.nil _)))))))) ?_
        refine XC.seq ?_
        refine XC.region ?_
        refine XO.v (V.move rfl) rfl ?_
        refine XO.v (V.move rfl) rfl ?_
        refine XO.call rfl (f_Read _ _ _ _ (TF.oO r q.2.2.1.size y.1 a2) 5 (by decide) (TF.oO_inv hrr ⟨by omega, by omega⟩ ⟨by omega, by omega⟩ ⟨hb0, hb1⟩) t1 hS1 0 (by decide) PS.init PS.Inv.init 1 99) (.cons .here (.cons .here (.cons .here (.cons .here (.cons .here .nil))))) cl_37 rfl ?_
        rintro _ _ ⟨rfl, rfl⟩
        obtain ⟨hpp, hr1⟩ := TF.r1 q.2.2.1 db r q.2.2.1.size y.1 a2 99 (by omega) ⟨hg0, hg1⟩ PS.init
        rw [hG, hpp]
        rcases hr1 with ⟨m1, _⟩ | ⟨_, m2, m3, m4⟩
        · omega
        rw [m2, m3, m4]
        obtain ⟨g2, hg2⟩ : ∃ g2, g2 = y.1 + min 99 (q.2.2.1.size - y.1) := ⟨_, rfl⟩
        rw [← hg2]
        refine XO.v (V.move rfl) rfl ?_
        refine XO.v (V.extract rfl rfl) rfl ?_
        refine XO.v (V.extract rfl rfl) rfl ?_
        refine XO.v (V.assign rfl) rfl ?_
        refine XO.v (V.assign rfl) rfl ?_
        refine XO.nil ?_
        refine XE.next ?_
        refine XC.keep [(0, _), (5, _), (12, _), (13, _), (14, _), (17, _), (21, _), (25, _), (26, _)] (Sub.cons rfl (Sub.cons rfl (Sub.cons rfl (Sub.cons rfl (Sub.cons rfl (Sub.cons rfl (Sub.cons rfl (Sub.cons rfl (Sub.cons rfl (Sub.nil _)))))))))) ?_
        refine XC.seq ?_
        refine XC.seq ?_
        refine XC.region ?_
        refine XO.v (V.move rfl) rfl ?_
        refine XO.v (V.errNil rfl Try.underlying43 rfl) rfl ?_
        refine XO.v (V.move rfl) rfl ?_
        refine XO.splitF (d := 219) rfl (fun q => q rfl) ?_
        refine XO.guardRun rfl rfl rfl ?_
        refine XO.v (V.move rfl) rfl ?_
        refine XO.guardRun rfl rfl rfl ?_
        refine XO.v (V.move rfl) rfl ?_
        refine XO.guardRun rfl rfl rfl ?_
        refine XO.v (V.concat rfl rfl (by rw [ByteArray.size_extract, ByteArray.size_extract]; omega)) rfl ?_
        refine XO.guardRun rfl rfl rfl ?_
        refine XO.v (V.move rfl) rfl ?_
        refine XO.guardRun rfl rfl rfl ?_
        refine XO.v (V.strCmp rfl rfl rfl) rfl ?_
        refine XO.v (V.pick rfl rfl rfl rfl) rfl ?_
        refine XO.v (V.move rfl) rfl ?_
        refine XO.splitF (d := 226) rfl (by rw [hgt, hg2, TF.got_next q.2.2.1 y.1 _ ⟨hg0, hg1⟩ (by omega), TF.extract_all q.2.2.1 _ (by omega)]; exact fun q => q rfl) ?_
        refine XO.guardRun rfl rfl rfl ?_
        refine XO.v (V.move rfl) rfl ?_
        refine XO.guardRun rfl rfl rfl ?_
        refine XO.v (V.lenStr rfl Try.underlying9) rfl ?_
        refine XO.guardRun rfl rfl rfl ?_
        refine XO.v (V.cmp rfl rfl rfl) rfl ?_
        refine XO.v (V.pick rfl rfl rfl rfl) rfl ?_
        refine XO.nil ?_
        refine XE.next ?_
        refine XC.keep [(0, _), (5, _), (12, _), (13, _), (14, _), (230, _)] (Sub.cons rfl (Sub.cons rfl (Sub.cons rfl (Sub.cons rfl (Sub.cons rfl (Sub.cons rfl (Sub.nil _))))))) ?_
        refine XC.condFP rfl (by omega) ?_
        refine XC.skip ?_
        refine XE.next ?_
        refine XC.keep [(0, _), (5, _), (12, _), (13, _), (14, _)] (Sub.cons rfl (Sub.cons rfl (Sub.cons rfl (Sub.cons rfl (Sub.cons rfl (Sub.nil _)))))) ?_
        refine XC.seq ?_
        refine XC.region ?_
        refine XO.v (V.move rfl) rfl ?_
        refine XO.call rfl (t_Nodes _ _ t1) (.cons (.there .here) .nil) cl_16 rfl ?_
        rintro _ _ ⟨rfl, rfl⟩
        rw [hG, TF.nodes_g]
        refine XO.v (V.assign rfl) rfl ?_
        refine XO.nil ?_
        refine XE.next ?_
        refine XC.keep [(0, _), (5, _), (12, _), (13, _), (14, _), (27, _)] (Sub.cons rfl (Sub.cons rfl (Sub.cons rfl (Sub.cons rfl (Sub.cons rfl (Sub.cons rfl (Sub.nil _))))))) ?_
        refine XC.seq ?_
        refine XC.seq ?_
        refine XC.region ?_
        refine XO.v (V.move rfl) rfl ?_
        refine XO.v (V.move rfl) rfl ?_
        refine XO.call rfl (f_Close _ _ _ _ (TF.oO r q.2.2.1.size g2 a2) 5 (by decide) (TF.oO_inv hrr ⟨by omega, by omega⟩ ⟨by omega, by omega⟩ ⟨hb0, hb1⟩) t1 hS1 0 (by decide) PS.init PS.Inv.init 1) (.cons (.there .here) (.cons .here (.cons .here (.cons .here (.cons .here .nil))))) cl_36 rfl ?_
        rintro _ _ ⟨rfl, t2, ht2, pt2, ct2, rfl⟩
        rw [hG] at ht2
        rw [hG]
        obtain ⟨q1, q2, q3, q4⟩ := TF.e1 q.2.2.1 db r q.2.2.1.size g2 a2 (by omega) PS.init
        rw [q1, q3, q4]
        have hH : t2.toFF = TF.hF q.2.2.1 db := ht2.trans q2
        have hS2 : t2.toFF.Sh := by rw [hH]; exact TF.hF_sh hal hd
        have hI1 := TF.clr_inv (TF.oO_inv (r := r) (a0 := q.2.2.1.size) (a1 := g2) (a2 := a2) hrr ⟨by omega, by omega⟩ ⟨by omega, by omega⟩ ⟨hb0, hb1⟩) (by decide) 1
        refine XO.v (V.errNil rfl Try.underlying43 rfl) rfl ?_
        refine XO.v (V.move rfl) rfl ?_
        refine XO.splitF (d := 237) rfl (fun q => q rfl) ?_
        refine XO.guardRun rfl rfl rfl ?_
        refine XO.v (V.move rfl) rfl ?_
        refine XO.guardRun rfl rfl rfl ?_
        refine XO.v (V.move rfl) rfl ?_
        refine XO.guardRun rfl rfl rfl ?_
        refine XO.call rfl (f_Close _ _ _ _ ((TF.oO r q.2.2.1.size g2 a2).clr 1) 5 (by decide) hI1 t2 hS2 0 (by decide) PS.init PS.Inv.init 0) (.cons .here (.cons .here (.cons .here (.cons .here (.cons .here .nil))))) cl_36 rfl ?_
        rintro _ _ ⟨rfl, t3, ht3, pt3, ct3, rfl⟩
        rw [hH] at ht3
        rw [hH]
        obtain ⟨q5, q6⟩ := TF.e3 q.2.2.1 db r q.2.2.1.size g2 a2 hr12 PS.init
        rw [q5, q6]
        refine XO.guardRun rfl rfl rfl ?_
        refine XO.v (V.errNil rfl Try.underlying43 rfl) rfl ?_
        refine XO.v (V.pick rfl rfl rfl rfl) rfl ?_
        refine XO.v (V.move rfl) rfl ?_
        refine XO.splitF (d := 243) rfl (fun q => q rfl) ?_
        refine XO.guardRun rfl rfl rfl ?_
        refine XO.v (V.move rfl) rfl ?_
        refine XO.guardRun rfl rfl rfl ?_
        refine XO.v (V.lenSl rfl Try.underlying28) rfl ?_
        refine XO.guardRun rfl rfl rfl ?_
        refine XO.v (V.cmp rfl rfl rfl) rfl ?_
        skip
        refine XO.guardRun rfl rfl rfl ?_
        refine XO.v (V.move rfl) rfl ?_
        refine XO.splitP (d := 247) rfl (fun h19 => ?_) (fun h19 => ?_)
        · skip
          have hr2 : r = 2 := by rw [hr, if_neg (by omega)]
          obtain ⟨_, q8, _, q10⟩ := TF.c1' (TF.hF q.2.2.1 db) PS.init q.2.2.1.size g2 a2
          rw [hr2] at ht3
          rw [hr2, q10]
          have hH3 : t3.toFF = TF.hF q.2.2.1 db := ht3.trans q8
          have hS3 : t3.toFF.Sh := by rw [hH3]; exact TF.hF_sh hal hd
          refine XO.guardRun rfl rfl rfl ?_
          refine XO.v (V.move rfl) rfl ?_
          refine XO.guardRun rfl rfl rfl ?_
          refine XO.v (V.move rfl) rfl ?_
          refine XO.guardRun rfl rfl rfl ?_
          refine XO.call rfl (f_Close _ _ _ _ ((TF.oO 1 q.2.2.1.size g2 a2).clr 1) 5 (by decide) (TF.clr_inv (TF.oO_inv (by decide) ⟨by omega, by omega⟩ ⟨by omega, by omega⟩ ⟨hb0, hb1⟩) (by decide) 1) t3 hS3 0 (by decide) PS.init PS.Inv.init 0) (.cons .here (.cons .here (.cons .here (.cons .here (.cons .here .nil))))) cl_36 rfl ?_
          rintro _ _ ⟨rfl, t4, ht4, pt4, ct4, rfl⟩
          rw [hH3] at ht4
          rw [hH3]
          obtain ⟨q7, q8, q9, q10⟩ := TF.e2 q.2.2.1 db q.2.2.1.size g2 a2 PS.init
          rw [q7, q9, q10]
          have hI4 : t4.toFF = TF.iF q.2.2.1 db := ht4.trans q8
          refine XO.guardRun rfl rfl rfl ?_
          refine XO.v (V.errNil rfl Try.underlying43 rfl) rfl ?_
          refine XO.guardRun rfl rfl rfl ?_
          refine XO.v (V.pick rfl rfl rfl rfl) rfl ?_
          refine XO.v (V.pick rfl rfl rfl rfl) rfl ?_
          refine XO.nil ?_
          refine XE.next ?_
          refine XC.keep [(5, _), (12, _), (27, _), (253, _)] (Sub.cons rfl (Sub.cons rfl (Sub.cons rfl (Sub.cons rfl (Sub.nil _))))) ?_
          refine XC.condFP rfl (fun q => q rfl) ?_
          refine XC.skip ?_
          refine XE.next ?_
          refine XC.keep [(5, _), (12, _), (27, _)] (Sub.cons rfl (Sub.cons rfl (Sub.cons rfl (Sub.nil _)))) ?_
          refine XC.seq ?_
          refine XC.region ?_
          refine XO.v (V.move rfl) rfl ?_
          refine XO.call rfl (t_Nodes _ _ t4) (.cons (.there .here) .nil) cl_16 rfl ?_
          rintro _ _ ⟨rfl, rfl⟩
          rw [hI4, TF.nodes_i]
          refine XO.v (V.move rfl) rfl ?_
          refine XO.v (V.sub rfl rfl _ (IntWalk.i64_in _ (by omega))) rfl ?_
          refine XO.v (V.cmp rfl rfl rfl) rfl ?_
          refine XO.v (V.move rfl) rfl ?_
          refine XO.splitT (d := 259) rfl (by decide) ?_
          refine XO.guardRun rfl rfl rfl ?_
          refine XO.v (V.move rfl) rfl ?_
          refine XO.guardRun rfl rfl rfl ?_
          refine XO.call rfl (f_Open _ _ _ _ (((TF.oO 1 q.2.2.1.size g2 a2).clr 1).clr 0)) (.cons (.there .here) .nil) cl_34 rfl ?_
          rintro _ _ ⟨rfl, rfl⟩
          refine XO.guardRun rfl rfl rfl ?_
          refine XO.v (V.cmp rfl rfl rfl) rfl ?_
          refine XO.v (V.pick rfl rfl rfl rfl) rfl ?_
          refine XO.v (V.assign rfl) rfl ?_
          refine XO.nil ?_
          refine XE.next ?_
          refine XC.keep [(4, _)] (Sub.cons rfl (Sub.nil _)) ?_
          refine XC.ret ?_
          refine XE.ret1 rfl rfl (post_of .nil rfl ?_)
          exact ⟨congrArg Value.bool (decide_eq_true (TF.opens_end _ _ _)), rfl⟩
        · skip
          have hr2 : r = 1 := by rw [hr, if_pos (by omega)]
          obtain ⟨_, q8, _, q10⟩ := TF.e2 q.2.2.1 db q.2.2.1.size g2 a2 PS.init
          rw [hr2] at ht3
          rw [hr2, q10]
          have hI3 : t3.toFF = TF.iF q.2.2.1 db := ht3.trans q8
          refine XO.guardSkip rfl rfl rfl rfl rfl ?_
          refine XO.guardSkip rfl rfl rfl rfl rfl ?_
          refine XO.guardSkip rfl rfl rfl rfl rfl ?_
          refine XO.guardSkip rfl rfl rfl rfl rfl ?_
          refine XO.guardRun rfl rfl rfl ?_
          refine XO.v (V.pick rfl rfl rfl rfl) rfl ?_
          refine XO.v (V.pick rfl rfl rfl rfl) rfl ?_
          refine XO.nil ?_
          refine XE.next ?_
          refine XC.keep [(5, _), (12, _), (27, _), (253, _)] (Sub.cons rfl (Sub.cons rfl (Sub.cons rfl (Sub.cons rfl (Sub.nil _))))) ?_
          refine XC.condF rfl rfl ?_
          refine XC.skip ?_
          refine XE.next ?_
          refine XC.keep [(5, _), (12, _), (27, _)] (Sub.cons rfl (Sub.cons rfl (Sub.cons rfl (Sub.nil _)))) ?_
          refine XC.seq ?_
          refine XC.region ?_
          refine XO.v (V.move rfl) rfl ?_
          refine XO.call rfl (t_Nodes _ _ t3) (.cons (.there .here) .nil) cl_16 rfl ?_
          rintro _ _ ⟨rfl, rfl⟩
          rw [hI3, TF.nodes_i]
          refine XO.v (V.move rfl) rfl ?_
          refine XO.v (V.sub rfl rfl _ (IntWalk.i64_in _ (by omega))) rfl ?_
          refine XO.v (V.cmp rfl rfl rfl) rfl ?_
          refine XO.v (V.move rfl) rfl ?_
          refine XO.splitT (d := 259) rfl (by decide) ?_
          refine XO.guardRun rfl rfl rfl ?_
          refine XO.v (V.move rfl) rfl ?_
          refine XO.guardRun rfl rfl rfl ?_
          refine XO.call rfl (f_Open _ _ _ _ (((TF.oO 1 q.2.2.1.size g2 a2).clr 1).clr 0)) (.cons (.there .here) .nil) cl_34 rfl ?_
          rintro _ _ ⟨rfl, rfl⟩
          refine XO.guardRun rfl rfl rfl ?_
          refine XO.v (V.cmp rfl rfl rfl) rfl ?_
          refine XO.v (V.pick rfl rfl rfl rfl) rfl ?_
          refine XO.v (V.assign rfl) rfl ?_
          refine XO.nil ?_
          refine XE.next ?_
          refine XC.keep [(4, _)] (Sub.cons rfl (Sub.nil _)) ?_
          refine XC.ret ?_
          refine XE.ret1 rfl rfl (post_of .nil rfl ?_)
          exact ⟨congrArg Value.bool (decide_eq_true (TF.opens_end _ _ _)), rfl⟩
end Go.X
