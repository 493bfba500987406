import Derived.Test.YtmklfkjfgjagaaaNM1
namespace Go.X
open Go Go.Proofs

set_option maxRecDepth 10000 in
set_option maxHeartbeats 16000000 in
theorem mv_n (pl : Option Addr) (cap : Nat) (n : Int) (hzn : -9223372036854775808 ≤ n ∧ n ≤ 9223372036854775807) (x : ByteArray) (hzx : x.size ≤ 9223372036854775807) (to : Int) (hzt : -9223372036854775808 ≤ to ∧ to ≤ 9223372036854775807) (y : ByteArray) (hzy : y.size ≤ 9223372036854775807) : Spec Try.prog 4 [.slice pl 0 cap, .int .i64 n, .string x, .int .i64 to, .string y]
    []
    (fun v H1 => v = .bool true ∧ H1 = []) := by
  refine Spec.intro Try.func4 rfl rfl ?_
  intro W
  refine XC.seq ?_
  refine XC.region ?_
  refine XO.v (V.assign rfl) rfl ?_
  refine XO.nil ?_
  refine XE.next ?_
  refine XC.keep [(0, _), (1, _), (2, _), (3, _), (4, _)] (Sub.cons rfl (Sub.cons rfl (Sub.cons rfl (Sub.cons rfl (Sub.cons rfl (Sub.nil _)))))) ?_
  refine XC.seq ?_
  refine XC.region ?_
  refine XO.call rfl (t_New) .nil cl_10 rfl ?_
  rintro _ _ ⟨bf, rfl, rfl⟩
  refine XO.v (V.assign rfl) rfl ?_
  refine XO.nil ?_
  refine XE.next ?_
  refine XC.keep [(0, _), (1, _), (2, _), (3, _), (4, _), (11, _)] (Sub.cons rfl (Sub.cons rfl (Sub.cons rfl (Sub.cons rfl (Sub.cons rfl (Sub.cons rfl (Sub.nil _))))))) ?_
  refine XC.seq ?_
  refine XC.seq ?_
  refine XC.region ?_
  refine XO.v (V.move rfl) rfl ?_
  refine XO.v (V.ptrNilP rfl Try.underlying25 rfl) rfl ?_
  refine XO.nil ?_
  refine XE.next ?_
  refine XC.keep [(0, _), (1, _), (2, _), (3, _), (4, _), (11, _), (39, _)] (Sub.cons rfl (Sub.cons rfl (Sub.cons rfl (Sub.cons rfl (Sub.cons rfl (Sub.cons rfl (Sub.cons rfl (Sub.nil _)))))))) ?_
  refine XC.condF rfl rfl ?_
  refine XC.skip ?_
  refine XE.next ?_
  refine XC.keep [(0, _), (1, _), (2, _), (3, _), (4, _), (11, _)] (Sub.cons rfl (Sub.cons rfl (Sub.cons rfl (Sub.cons rfl (Sub.cons rfl (Sub.cons rfl (Sub.nil _))))))) ?_
  refine XC.seq ?_
  refine XC.region ?_
  refine XO.v (V.move rfl) rfl ?_
  refine XO.call rfl (t_Plant _ _ _ (FF.inv_void.sh (by omega))) (.cons .here (.cons .here (.cons .here (.cons .here .nil)))) cl_15 rfl ?_
  rintro _ _ ⟨t0, rfl, ht0, rfl⟩
  obtain ⟨d1, o1⟩ := FF.inv_void.plant
  have ht0 : t0.toFF = FF.void.plant := ht0
  have o0 : t0.toFF.Ok d1 (0 + 1) := by rw [ht0]; exact o1
  refine XO.v (V.move rfl) rfl ?_
  refine XO.v (V.extract rfl rfl) rfl ?_
  refine XO.v (V.extract rfl rfl) rfl ?_
  refine XO.v (V.assign rfl) rfl ?_
  refine XO.v (V.assign rfl) rfl ?_
  refine XO.nil ?_
  refine XE.next ?_
  refine XC.keep [(0, _), (1, _), (2, _), (3, _), (4, _), (11, _), (13, _)] (Sub.cons rfl (Sub.cons rfl (Sub.cons rfl (Sub.cons rfl (Sub.cons rfl (Sub.cons rfl (Sub.cons rfl (Sub.nil _)))))))) ?_
  refine XC.seq ?_
  refine XC.region ?_
  refine XO.v (V.move rfl) rfl ?_
  refine XO.call rfl (t_Plant _ _ _ (o0.sh (by omega))) (.cons .here (.cons .here (.cons .here (.cons .here .nil)))) cl_15 rfl ?_
  rintro _ _ ⟨t1, rfl, ht1, rfl⟩
  obtain ⟨d3, o3⟩ := o0.plant
  have ht1 : t1.toFF = FF.void.plant.plant := by rw [ht1, ht0]
  have o4 : t1.toFF.Ok d3 2 := by rw [ht1]; rw [ht0] at o3; exact o3
  refine XO.v (V.move rfl) rfl ?_
  refine XO.v (V.extract rfl rfl) rfl ?_
  refine XO.v (V.extract rfl rfl) rfl ?_
  refine XO.v (V.assign rfl) rfl ?_
  refine XO.v (V.assign rfl) rfl ?_
  refine XO.nil ?_
  refine XE.next ?_
  refine XC.keep [(0, _), (1, _), (2, _), (3, _), (4, _), (11, _), (13, _), (15, _)] (Sub.cons rfl (Sub.cons rfl (Sub.cons rfl (Sub.cons rfl (Sub.cons rfl (Sub.cons rfl (Sub.cons rfl (Sub.cons rfl (Sub.nil _))))))))) ?_
  refine XC.seq ?_
  refine XC.seq ?_
  refine XC.region ?_
  refine XO.v (V.move rfl) rfl ?_
  refine XO.v (V.errNil rfl Try.underlying43 rfl) rfl ?_
  refine XO.v (V.move rfl) rfl ?_
  refine XO.splitF (d := 52) rfl (by decide +kernel) ?_
  refine XO.guardRun rfl rfl rfl ?_
  refine XO.v (V.move rfl) rfl ?_
  refine XO.guardRun rfl rfl rfl ?_
  refine XO.v (V.errNil rfl Try.underlying43 rfl) rfl ?_
  refine XO.v (V.pick rfl rfl rfl rfl) rfl ?_
  refine XO.v (V.move rfl) rfl ?_
  refine XO.splitF (d := 56) rfl (by rw [ht0]; decide +kernel) ?_
  refine XO.guardRun rfl rfl rfl ?_
  refine XO.v (V.move rfl) rfl ?_
  refine XO.guardRun rfl rfl rfl ?_
  refine XO.call rfl (t_Nodes _ _ _) (.cons .here .nil) cl_16 rfl ?_
  rintro _ _ ⟨rfl, rfl⟩
  refine XO.guardRun rfl rfl rfl ?_
  refine XO.v (V.cmp rfl rfl rfl) rfl ?_
  refine XO.v (V.pick rfl rfl rfl rfl) rfl ?_
  refine XO.nil ?_
  refine XE.next ?_
  refine XC.keep [(0, _), (1, _), (2, _), (3, _), (4, _), (11, _), (60, _)] (Sub.cons rfl (Sub.cons rfl (Sub.cons rfl (Sub.cons rfl (Sub.cons rfl (Sub.cons rfl (Sub.cons rfl (Sub.nil _)))))))) ?_
  refine XC.condFP rfl (by rw [ht1]; decide +kernel) ?_
  refine XC.skip ?_
  refine XE.next ?_
  refine XC.keep [(0, _), (1, _), (2, _), (3, _), (4, _), (11, _)] (Sub.cons rfl (Sub.cons rfl (Sub.cons rfl (Sub.cons rfl (Sub.cons rfl (Sub.cons rfl (Sub.nil _))))))) ?_
  refine XC.seq ?_
  refine XC.seq ?_
  refine XC.region ?_
  refine XO.v (V.move rfl) rfl ?_
  refine XO.call rfl (light_any _ _ _ _) .nil cl_8 rfl ?_
  rintro _ _ ⟨rfl, rfl⟩
  refine XO.v (V.notP rfl) rfl ?_
  refine XO.v (V.move rfl) rfl ?_
  refine XO.splitP (d := 64) rfl (fun h3 => ?_) (fun h3 => ?_)
  · skip
    refine XO.guardSkip rfl rfl rfl rfl rfl ?_
    refine XO.guardSkip rfl rfl rfl rfl rfl ?_
    refine XO.guardSkip rfl rfl rfl rfl rfl ?_
    refine XO.v (V.pick rfl rfl rfl rfl) rfl ?_
    refine XO.v (V.move rfl) rfl ?_
    refine XO.guardSkip rfl rfl rfl rfl rfl ?_
    refine XO.guardSkip rfl rfl rfl rfl rfl ?_
    refine XO.guardSkip rfl rfl rfl rfl rfl ?_
    refine XO.v (V.pick rfl rfl rfl rfl) rfl ?_
    refine XO.v (V.move rfl) rfl ?_
    refine XO.guardSkip rfl rfl rfl rfl rfl ?_
    refine XO.guardSkip rfl rfl rfl rfl rfl ?_
    refine XO.guardSkip rfl rfl rfl rfl rfl ?_
    refine XO.v (V.pick rfl rfl rfl rfl) rfl ?_
    refine XO.nil ?_
    refine XE.next ?_
    refine XC.keep [(0, _), (1, _), (2, _), (3, _), (4, _), (11, _), (78, _)] (Sub.cons rfl (Sub.cons rfl (Sub.cons rfl (Sub.cons rfl (Sub.cons rfl (Sub.cons rfl (Sub.cons rfl (Sub.nil _)))))))) ?_
    refine XC.condT rfl rfl ?_
    refine XC.seq ?_
    refine XC.region ?_
    refine XO.v (V.assign rfl) rfl ?_
    refine XO.nil ?_
    refine XE.next ?_
    refine XC.keep [(10, _)] (Sub.cons rfl (Sub.nil _)) ?_
    refine XC.ret ?_
    refine XE.thenRet ?_
    refine XE.ret1 rfl rfl (post_of .nil rfl ?_)
    exact ⟨rfl, rfl⟩
  · skip
    refine XO.guardRun rfl rfl rfl ?_
    refine XO.v (V.move rfl) rfl ?_
    refine XO.guardRun rfl rfl rfl ?_
    refine XO.call rfl (texts_nil _ _ _) .nil cl_9 rfl ?_
    rintro _ _ ⟨rfl, rfl⟩
    refine XO.guardRun rfl rfl rfl ?_
    refine XO.v (V.not rfl) rfl ?_
    refine XO.v (V.pick rfl rfl rfl rfl) rfl ?_
    refine XO.v (V.move rfl) rfl ?_
    refine XO.guardRun rfl rfl rfl ?_
    refine XO.v (V.move rfl) rfl ?_
    refine XO.guardRun rfl rfl rfl ?_
    refine XO.v (V.lenStr rfl Try.underlying9) rfl ?_
    refine XO.guardRun rfl rfl rfl ?_
    refine XO.v (V.cmp rfl rfl rfl) rfl ?_
    refine XO.v (V.pick rfl rfl rfl rfl) rfl ?_
    refine XO.v (V.move rfl) rfl ?_
    refine XO.splitP (d := 74) rfl (fun h4 => ?_) (fun h4 => ?_)
    · skip
      refine XO.guardSkip rfl rfl rfl rfl rfl ?_
      refine XO.guardSkip rfl rfl rfl rfl rfl ?_
      refine XO.guardSkip rfl rfl rfl rfl rfl ?_
      refine XO.v (V.pick rfl rfl rfl rfl) rfl ?_
      refine XO.nil ?_
      refine XE.next ?_
      refine XC.keep [(0, _), (1, _), (2, _), (3, _), (4, _), (11, _), (78, _)] (Sub.cons rfl (Sub.cons rfl (Sub.cons rfl (Sub.cons rfl (Sub.cons rfl (Sub.cons rfl (Sub.cons rfl (Sub.nil _)))))))) ?_
      refine XC.condT rfl rfl ?_
      refine XC.seq ?_
      refine XC.region ?_
      refine XO.v (V.assign rfl) rfl ?_
      refine XO.nil ?_
      refine XE.next ?_
      refine XC.keep [(10, _)] (Sub.cons rfl (Sub.nil _)) ?_
      refine XC.ret ?_
      refine XE.thenRet ?_
      refine XE.ret1 rfl rfl (post_of .nil rfl ?_)
      exact ⟨rfl, rfl⟩
    · skip
      refine XO.guardRun rfl rfl rfl ?_
      refine XO.v (V.move rfl) rfl ?_
      refine XO.guardRun rfl rfl rfl ?_
      refine XO.v (V.lenStr rfl Try.underlying9) rfl ?_
      refine XO.guardRun rfl rfl rfl ?_
      refine XO.v (V.cmp rfl rfl rfl) rfl ?_
      refine XO.v (V.pick rfl rfl rfl rfl) rfl ?_
      refine XO.nil ?_
      refine XE.next ?_
      refine XC.keep [(0, _), (1, _), (2, _), (3, _), (4, _), (11, _), (78, _)] (Sub.cons rfl (Sub.cons rfl (Sub.cons rfl (Sub.cons rfl (Sub.cons rfl (Sub.cons rfl (Sub.cons rfl (Sub.nil _)))))))) ?_
      refine XC.condP rfl (fun h5 => ?_) (fun h5 => ?_)
      · skip
        refine XC.seq ?_
        refine XC.region ?_
        refine XO.v (V.assign rfl) rfl ?_
        refine XO.nil ?_
        refine XE.next ?_
        refine XC.keep [(10, _)] (Sub.cons rfl (Sub.nil _)) ?_
        refine XC.ret ?_
        refine XE.thenRet ?_
        refine XE.ret1 rfl rfl (post_of .nil rfl ?_)
        exact ⟨rfl, rfl⟩
      · skip
        refine XC.skip ?_
        refine XE.next ?_
        refine XC.keep [(0, _), (1, _), (2, _), (3, _), (4, _), (11, _)] (Sub.cons rfl (Sub.cons rfl (Sub.cons rfl (Sub.cons rfl (Sub.cons rfl (Sub.cons rfl (Sub.nil _))))))) ?_
        refine XC.seq ?_
        refine XC.seq ?_
        refine XC.region ?_
        refine XO.v (V.assign rfl) rfl ?_
        refine XO.nil ?_
        refine XE.next ?_
        refine XC.keep [(0, _), (1, _), (2, _), (3, _), (4, _), (11, _), (16, _)] (Sub.cons rfl (Sub.cons rfl (Sub.cons rfl (Sub.cons rfl (Sub.cons rfl (Sub.cons rfl (Sub.cons rfl (Sub.nil _)))))))) ?_
        refine XC.block ?_
        refine XC.loop (σ := FC × Int) (fun q => ((0 : Nat) - q.2).toNat) (fun q => (∃ d, q.1.toFF.Ok d (q.2 + 2)) ∧ 0 ≤ q.2 ∧ q.2 ≤ (0 : Nat)) (fun q => [(16, .int .i64 q.2), (0, .slice pl 0 cap), (1, .int .i64 n), (2, .string x), (3, .int .i64 to), (4, .string y), (11, ptr bf 0 0)]) (fun q => XM W (foot []) [.cells bf 0 321 (encF q.1), .fam fam40 (FC.rowsN 9 q.1), .fam fam40 (FC.rowsK 3 q.1), irow (FC.rP q.1) (FC.rC q.1) 3 (FC.toFF q.1).roots]) ((t1, 0)) ?_ (Sub.cons rfl (Sub.cons rfl (Sub.cons rfl (Sub.cons rfl (Sub.cons rfl (Sub.cons rfl (Sub.cons rfl (Sub.nil _)))))))) (fun _ hw => XM.pick (.cons .here (.cons .here (.cons .here (.cons .here .nil)))) hw) ?_
        · skip
          exact ⟨⟨d3, o4⟩, by simp, by simp⟩
        rintro ⟨x0, i⟩ hx
        obtain ⟨⟨d, hO⟩, hx0, hx1⟩ := hx
        simp only at hx0 hx1 hO
        refine XC.seq ?_
        refine XC.seq ?_
        refine XC.region ?_
        refine XO.v (V.move rfl) rfl ?_
        refine XO.v (V.move rfl) rfl ?_
        refine XO.v (V.lenSl rfl Try.underlying22) rfl ?_
        refine XO.v (V.cmp rfl rfl rfl) rfl ?_
        refine XO.nil ?_
        refine XE.next ?_
        refine XC.keep [(0, _), (1, _), (2, _), (3, _), (4, _), (11, _), (16, _), (82, _)] (Sub.cons rfl (Sub.cons rfl (Sub.cons rfl (Sub.cons rfl (Sub.cons rfl (Sub.cons rfl (Sub.cons rfl (Sub.cons rfl (Sub.nil _))))))))) ?_
        refine XC.condFP rfl (by simp; omega) ?_
        refine XC.exit ?_
        refine XE.thenExit ?_
        refine XE.thenExit ?_
        refine XE.blockExit ?_
        refine XE.next ?_
        refine XC.keep [(1, _), (2, _), (3, _), (4, _), (11, _)] (Sub.cons rfl (Sub.cons rfl (Sub.cons rfl (Sub.cons rfl (Sub.cons rfl (Sub.nil _)))))) ?_
        refine XC.seq ?_
        refine XC.region ?_
        have hS := hO.sh (by omega)
        refine XO.v (V.move rfl) rfl ?_
        refine XO.call rfl (t_Nodes _ _ _) (.cons .here .nil) cl_16 rfl ?_
        rintro _ _ ⟨rfl, rfl⟩
        refine XO.v (V.assign rfl) rfl ?_
        refine XO.nil ?_
        refine XE.next ?_
        refine XC.keep [(1, _), (2, _), (3, _), (4, _), (11, _), (18, _)] (Sub.cons rfl (Sub.cons rfl (Sub.cons rfl (Sub.cons rfl (Sub.cons rfl (Sub.cons rfl (Sub.nil _))))))) ?_
        refine XC.seq ?_
        refine XC.region ?_
        refine XO.v (V.move rfl) rfl ?_
        refine XO.v (V.move rfl) rfl ?_
        refine XO.v (V.move rfl) rfl ?_
        refine XO.call rfl (t_Find _ _ _ hS _ _) (.cons .here (.cons .here (.cons .here .nil))) cl_20 rfl ?_
        rintro _ _ ⟨rfl, rfl⟩
        refine XO.v (V.move rfl) rfl ?_
        refine XO.v (V.extract rfl rfl) rfl ?_
        refine XO.v (V.extract rfl rfl) rfl ?_
        refine XO.v (V.assign rfl) rfl ?_
        refine XO.v (V.assign rfl) rfl ?_
        refine XO.nil ?_
        refine XE.next ?_
        refine XC.keep [(1, _), (2, _), (3, _), (4, _), (11, _), (13, _), (18, _), (19, _)] (Sub.cons rfl (Sub.cons rfl (Sub.cons rfl (Sub.cons rfl (Sub.cons rfl (Sub.cons rfl (Sub.cons rfl (Sub.cons rfl (Sub.nil _))))))))) ?_
        refine XC.seq ?_
        refine XC.region ?_
        refine XO.v (V.move rfl) rfl ?_
        refine XO.v (V.move rfl) rfl ?_
        refine XO.call rfl (t_List _ _ _ hS _) (.cons .here (.cons .here (.cons .here .nil))) cl_21 rfl ?_
        rintro _ _ (⟨i0, rfl, rfl⟩ | ⟨i0, p1, c1, rfl, rfl⟩)
        · skip
          refine XO.v (V.move rfl) rfl ?_
          refine XO.v (V.extract rfl rfl) rfl ?_
          refine XO.v (V.extract rfl rfl) rfl ?_
          refine XO.v (V.assign rfl) rfl ?_
          refine XO.v (V.assign rfl) rfl ?_
          refine XO.nil ?_
          refine XE.next ?_
          refine XC.keep [(1, _), (2, _), (3, _), (4, _), (11, _), (13, _), (18, _), (19, _), (20, _)] (Sub.cons rfl (Sub.cons rfl (Sub.cons rfl (Sub.cons rfl (Sub.cons rfl (Sub.cons rfl (Sub.cons rfl (Sub.cons rfl (Sub.cons rfl (Sub.nil _)))))))))) ?_
          refine XC.seq ?_
          refine XC.region ?_
          refine XO.v (V.move rfl) rfl ?_
          refine XO.v (V.move rfl) rfl ?_
          refine XO.call rfl (t_Read _ _ _ hS _ _ _) (.cons .here .nil) cl_22 rfl ?_
          rintro _ _ ⟨rfl, rfl⟩
          refine XO.v (V.move rfl) rfl ?_
          refine XO.v (V.extract rfl rfl) rfl ?_
          refine XO.v (V.extract rfl rfl) rfl ?_
          refine XO.v (V.assign rfl) rfl ?_
          refine XO.v (V.assign rfl) rfl ?_
          refine XO.nil ?_
          refine XE.next ?_
          refine XC.keep [(1, _), (2, _), (3, _), (4, _), (11, _), (13, _), (18, _), (19, _), (20, _), (22, _)] (Sub.cons rfl (Sub.cons rfl (Sub.cons rfl (Sub.cons rfl (Sub.cons rfl (Sub.cons rfl (Sub.cons rfl (Sub.cons rfl (Sub.cons rfl (Sub.cons rfl (Sub.nil _))))))))))) ?_
          refine XC.seq ?_
          refine XC.region ?_
          refine XO.v (V.move rfl) rfl ?_
          refine XO.v (V.move rfl) rfl ?_
          refine XO.call rfl (t_Of _ _ _ hS _) (.cons .here .nil) cl_23 rfl ?_
          rintro _ _ ⟨rfl, rfl⟩
          refine XO.v (V.move rfl) rfl ?_
          refine XO.v (V.extract rfl rfl) rfl ?_
          refine XO.v (V.extract rfl rfl) rfl ?_
          refine XO.allocZ (z := .agg NV.zero.arr) (m := 4) (C := encNV NV.zero) (by kernel_rfl) rfl (encNV_box _) rfl ?_
          intro bx
          refine XO.storeAgg rfl rfl .here (encNV_st _ _) ⟨rfl, rfl⟩ sz_55_4 ?_
          refine XO.v (V.assign rfl) rfl ?_
          refine XO.nil ?_
          refine XE.next ?_
          refine XC.keep [(1, _), (2, _), (3, _), (4, _), (11, _), (13, _), (18, _), (19, _), (20, _), (22, _), (24, _)] (Sub.cons rfl (Sub.cons rfl (Sub.cons rfl (Sub.cons rfl (Sub.cons rfl (Sub.cons rfl (Sub.cons rfl (Sub.cons rfl (Sub.cons rfl (Sub.cons rfl (Sub.cons rfl (Sub.nil _)))))))))))) ?_
          refine XC.seq ?_
          refine XC.region ?_
          refine XO.v (V.move rfl) rfl ?_
          refine XO.v (V.move rfl) rfl ?_
          refine XO.v (V.move rfl) rfl ?_
          refine XO.v (V.move rfl) rfl ?_
          refine XO.v (V.move rfl) rfl ?_
          refine XO.call rfl (t_Move _ _ _ hS d (fun k => hO.inv.chI k) _ _ _ _ (by omega)) (.cons (.there .here) (.cons (.there .here) (.cons (.there .here) .nil))) cl_24 rfl ?_
          rintro _ _ ⟨rfl, t, ht, tp, tc, rfl⟩
          obtain ⟨d2, o2⟩ := hO.move n x to y
          rw [← ht] at o2
          have hS2 := o2.sh (by omega)
          have hkind : t.toFF.kind = x0.toFF.kind := by rw [ht]; exact FF.move_kind
          refine XO.v (V.assign rfl) rfl ?_
          refine XO.nil ?_
          refine XE.next ?_
          refine XC.keep [(1, _), (2, _), (3, _), (4, _), (11, _), (13, _), (18, _), (19, _), (20, _), (22, _), (24, _), (26, _)] (Sub.cons rfl (Sub.cons rfl (Sub.cons rfl (Sub.cons rfl (Sub.cons rfl (Sub.cons rfl (Sub.cons rfl (Sub.cons rfl (Sub.cons rfl (Sub.cons rfl (Sub.cons rfl (Sub.cons rfl (Sub.nil _))))))))))))) ?_
          refine XC.seq ?_
          refine XC.seq ?_
          refine XC.region ?_
          refine XO.v (V.move rfl) rfl ?_
          refine XO.v (V.errNil rfl Try.underlying43 rfl) rfl ?_
          refine XO.nil ?_
          refine XE.next ?_
          refine XC.keep [(1, _), (2, _), (3, _), (4, _), (11, _), (18, _), (19, _), (20, _), (22, _), (24, _), (26, _), (158, _)] (Sub.cons rfl (Sub.cons rfl (Sub.cons rfl (Sub.cons rfl (Sub.cons rfl (Sub.cons rfl (Sub.cons rfl (Sub.cons rfl (Sub.cons rfl (Sub.cons rfl (Sub.cons rfl (Sub.cons rfl (Sub.nil _))))))))))))) ?_
          refine XC.condP rfl (fun h6 => ?_) (fun h6 => ?_)
          · skip
            have hf0 : x0.toFF.findE n x ≠ 0 := by assumption
            refine XC.seq ?_
            refine XC.region ?_
            refine XO.v (V.move rfl) rfl ?_
            refine XO.v (V.errNil rfl Try.underlying43 rfl) rfl ?_
            refine XO.v (V.move rfl) rfl ?_
            refine XO.splitT (d := 161) rfl (FF.moveE_find hf0) ?_
            refine XO.guardRun rfl rfl rfl ?_
            refine XO.v (V.move rfl) rfl ?_
            refine XO.guardRun rfl rfl rfl ?_
            refine XO.call rfl (t_Nodes _ _ _) (.cons .here .nil) cl_16 rfl ?_
            rintro _ _ ⟨rfl, rfl⟩
            refine XO.guardRun rfl rfl rfl ?_
            refine XO.v (V.move rfl) rfl ?_
            refine XO.guardRun rfl rfl rfl ?_
            refine XO.v (V.cmp rfl rfl rfl) rfl ?_
            refine XO.v (V.pick rfl rfl rfl rfl) rfl ?_
            refine XO.v (V.assign rfl) rfl ?_
            refine XO.nil ?_
            refine XE.next ?_
            refine XC.keep [(10, _)] (Sub.cons rfl (Sub.nil _)) ?_
            refine XC.ret ?_
            refine XE.thenRet ?_
            refine XE.ret1 rfl rfl (post_of .nil rfl ?_)
            exact ⟨congrArg Value.bool (decide_eq_true (FF.nodes_congr hkind)), rfl⟩
          · skip
            have hf0 : x0.toFF.findE n x = 0 := by simpa using h6
            refine XC.skip ?_
            refine XE.next ?_
            refine XC.keep [(1, _), (2, _), (3, _), (4, _), (11, _), (18, _), (19, _), (20, _), (22, _), (24, _), (26, _)] (Sub.cons rfl (Sub.cons rfl (Sub.cons rfl (Sub.cons rfl (Sub.cons rfl (Sub.cons rfl (Sub.cons rfl (Sub.cons rfl (Sub.cons rfl (Sub.cons rfl (Sub.cons rfl (Sub.nil _)))))))))))) ?_
            refine XC.seq ?_
            refine XC.region ?_
            obtain ⟨hm1, hm2, hm3⟩ := FF.move_same (to := to) (y := y) hO.inv hf0
            rw [← ht] at hm1 hm2 hm3
            refine XO.v (V.move rfl) rfl ?_
            refine XO.v (V.move rfl) rfl ?_
            refine XO.call rfl (t_List _ _ _ hS2 _) (.cons .here (.cons .here (.cons .here .nil))) cl_21 rfl ?_
            rintro _ _ (⟨j0, rfl, rfl⟩ | ⟨j0, p2, c2, rfl, rfl⟩)
            · skip
              refine XO.v (V.move rfl) rfl ?_
              refine XO.v (V.extract rfl rfl) rfl ?_
              refine XO.v (V.extract rfl rfl) rfl ?_
              refine XO.v (V.assign rfl) rfl ?_
              refine XO.v (V.assign rfl) rfl ?_
              refine XO.nil ?_
              refine XE.next ?_
              refine XC.keep [(1, _), (2, _), (3, _), (4, _), (11, _), (18, _), (19, _), (20, _), (22, _), (24, _), (26, _), (27, _)] (Sub.cons rfl (Sub.cons rfl (Sub.cons rfl (Sub.cons rfl (Sub.cons rfl (Sub.cons rfl (Sub.cons rfl (Sub.cons rfl (Sub.cons rfl (Sub.cons rfl (Sub.cons rfl (Sub.cons rfl (Sub.nil _))))))))))))) ?_
              refine XC.seq ?_
              refine XC.region ?_
              refine XO.v (V.move rfl) rfl ?_
              refine XO.v (V.move rfl) rfl ?_
              refine XO.call rfl (t_Read _ _ _ hS2 _ _ _) (.cons .here .nil) cl_22 rfl ?_
              rintro _ _ ⟨rfl, rfl⟩
              refine XO.v (V.move rfl) rfl ?_
              refine XO.v (V.extract rfl rfl) rfl ?_
              refine XO.v (V.extract rfl rfl) rfl ?_
              refine XO.v (V.assign rfl) rfl ?_
              refine XO.v (V.assign rfl) rfl ?_
              refine XO.nil ?_
              refine XE.next ?_
              refine XC.keep [(1, _), (2, _), (3, _), (4, _), (11, _), (18, _), (19, _), (20, _), (22, _), (24, _), (26, _), (27, _), (29, _)] (Sub.cons rfl (Sub.cons rfl (Sub.cons rfl (Sub.cons rfl (Sub.cons rfl (Sub.cons rfl (Sub.cons rfl (Sub.cons rfl (Sub.cons rfl (Sub.cons rfl (Sub.cons rfl (Sub.cons rfl (Sub.cons rfl (Sub.nil _)))))))))))))) ?_
              refine XC.seq ?_
              refine XC.region ?_
              refine XO.v (V.move rfl) rfl ?_
              refine XO.v (V.move rfl) rfl ?_
              refine XO.call rfl (t_Of _ _ _ hS2 _) (.cons .here .nil) cl_23 rfl ?_
              rintro _ _ ⟨rfl, rfl⟩
              refine XO.v (V.move rfl) rfl ?_
              refine XO.v (V.extract rfl rfl) rfl ?_
              refine XO.v (V.extract rfl rfl) rfl ?_
              refine XO.allocZ (z := .agg NV.zero.arr) (m := 4) (C := encNV NV.zero) (by kernel_rfl) rfl (encNV_box _) rfl ?_
              intro by_
              refine XO.storeAgg rfl rfl .here (encNV_st _ _) ⟨rfl, rfl⟩ sz_55_4 ?_
              refine XO.v (V.assign rfl) rfl ?_
              refine XO.nil ?_
              refine XE.next ?_
              refine XC.keep [(1, _), (2, _), (3, _), (4, _), (11, _), (18, _), (19, _), (20, _), (22, _), (24, _), (26, _), (27, _), (29, _), (31, _)] (Sub.cons rfl (Sub.cons rfl (Sub.cons rfl (Sub.cons rfl (Sub.cons rfl (Sub.cons rfl (Sub.cons rfl (Sub.cons rfl (Sub.cons rfl (Sub.cons rfl (Sub.cons rfl (Sub.cons rfl (Sub.cons rfl (Sub.cons rfl (Sub.nil _))))))))))))))) ?_
              refine XC.seq ?_
              refine XC.seq ?_
              refine XC.region ?_
              refine XO.v (V.move rfl) rfl ?_
              refine XO.v (V.move rfl) rfl ?_
              refine XO.call rfl (same_texts_nil) .nil cl_25 rfl ?_
              rintro _ _ ⟨rfl, rfl⟩
              refine XO.v (V.not rfl) rfl ?_
              refine XO.v (V.move rfl) rfl ?_
              refine XO.guardRun rfl rfl rfl ?_
              refine XO.v (V.move rfl) rfl ?_
              refine XO.guardRun rfl rfl rfl ?_
              refine XO.v (V.move rfl) rfl ?_
              refine XO.guardRun rfl rfl rfl ?_
              refine XO.v (V.strCmp rfl rfl rfl) rfl ?_
              refine XO.v (V.pick rfl rfl rfl rfl) rfl ?_
              refine XO.v (V.move rfl) rfl ?_
              refine XO.splitF (d := 194) rfl (by rw [hm3]; exact fun q => q rfl) ?_
              refine XO.guardRun rfl rfl rfl ?_
              refine XO.v (V.loadAgg rfl (inXM (.there (.there (.there (.there .here))))) (encNV_agg _) ag_55 sz_55_4) rfl ?_
              refine XO.guardRun rfl rfl rfl ?_
              refine XO.v (V.loadAgg rfl (inXM .here) (encNV_is hm2) ag_55 sz_55_4) rfl ?_
              refine XO.guardRun rfl rfl rfl ?_
              refine XO.v (V.aggNe rfl rfl aggEq (NV.ints _)) rfl ?_
              refine XO.v (V.pick rfl rfl rfl rfl) rfl ?_
              refine XO.v (V.move rfl) rfl ?_
              refine XO.guardRun rfl rfl rfl ?_
              refine XO.v (V.move rfl) rfl ?_
              refine XO.guardRun rfl rfl rfl ?_
              refine XO.call rfl (t_Nodes _ _ _) (.cons (.there .here) .nil) cl_16 rfl ?_
              rintro _ _ ⟨rfl, rfl⟩
              refine XO.guardRun rfl rfl rfl ?_
              refine XO.v (V.move rfl) rfl ?_
              refine XO.guardRun rfl rfl rfl ?_
              refine XO.v (V.cmp rfl rfl rfl) rfl ?_
              refine XO.v (V.pick rfl rfl rfl rfl) rfl ?_
              refine XO.nil ?_
              refine XE.next ?_
              refine XC.keep [(1, _), (2, _), (3, _), (4, _), (11, _), (19, _), (26, _), (204, _)] (Sub.cons rfl (Sub.cons rfl (Sub.cons rfl (Sub.cons rfl (Sub.cons rfl (Sub.cons rfl (Sub.cons rfl (Sub.cons rfl (Sub.nil _))))))))) ?_
              refine XC.condFP rfl (by rw [FF.nodes_congr hkind]; exact fun q => q rfl) ?_
              refine XC.skip ?_
              refine XE.next ?_
              refine XC.keep [(1, _), (2, _), (3, _), (4, _), (11, _), (19, _), (26, _)] (Sub.cons rfl (Sub.cons rfl (Sub.cons rfl (Sub.cons rfl (Sub.cons rfl (Sub.cons rfl (Sub.cons rfl (Sub.nil _)))))))) ?_
              refine XC.seq ?_
              refine XC.seq ?_
              refine XC.region ?_
              refine XO.v (V.move rfl) rfl ?_
              refine XO.v (V.errNil rfl Try.underlying43 rfl) rfl ?_
              refine XO.nil ?_
              refine XE.next ?_
              refine XC.keep [(1, _), (2, _), (3, _), (4, _), (11, _), (19, _), (206, _)] (Sub.cons rfl (Sub.cons rfl (Sub.cons rfl (Sub.cons rfl (Sub.cons rfl (Sub.cons rfl (Sub.cons rfl (Sub.nil _)))))))) ?_
              refine XC.condP rfl (fun h9 => ?_) (fun h9 => ?_)
              · skip
                have hme : x0.toFF.moveE d n x to y ≠ 0 := by assumption
                have hts : t.toFF = x0.toFF := by rw [ht]; exact FF.move_err hO.inv hme
                refine XC.seq ?_
                refine XC.region ?_
                refine XO.v (V.move rfl) rfl ?_
                refine XO.v (V.move rfl) rfl ?_
                refine XO.v (V.move rfl) rfl ?_
                refine XO.call rfl (t_Find _ _ _ hS2 _ _) (.cons .here (.cons (.there .here) (.cons (.there .here) .nil))) cl_20 rfl ?_
                rintro _ _ ⟨rfl, rfl⟩
                refine XO.v (V.move rfl) rfl ?_
                refine XO.v (V.extract rfl rfl) rfl ?_
                refine XO.v (V.extract rfl rfl) rfl ?_
                refine XO.v (V.assign rfl) rfl ?_
                refine XO.v (V.assign rfl) rfl ?_
                refine XO.nil ?_
                refine XE.next ?_
                refine XC.keep [(19, _), (33, _), (34, _)] (Sub.cons rfl (Sub.cons rfl (Sub.cons rfl (Sub.nil _)))) ?_
                refine XC.seq ?_
                refine XC.region ?_
                refine XO.v (V.move rfl) rfl ?_
                refine XO.v (V.errNil rfl Try.underlying43 rfl) rfl ?_
                refine XO.v (V.move rfl) rfl ?_
                refine XO.splitT (d := 216) rfl (by rw [hts]; exact hf0) ?_
                refine XO.guardRun rfl rfl rfl ?_
                refine XO.v (V.move rfl) rfl ?_
                refine XO.guardRun rfl rfl rfl ?_
                refine XO.v (V.move rfl) rfl ?_
                refine XO.guardRun rfl rfl rfl ?_
                refine XO.v (V.cmp rfl rfl rfl) rfl ?_
                refine XO.v (V.pick rfl rfl rfl rfl) rfl ?_
                refine XO.v (V.assign rfl) rfl ?_
                refine XO.nil ?_
                refine XE.next ?_
                refine XC.keep [(10, _)] (Sub.cons rfl (Sub.nil _)) ?_
                refine XC.ret ?_
                refine XE.thenRet ?_
                refine XE.ret1 rfl rfl (post_of .nil rfl ?_)
                exact ⟨congrArg Value.bool (decide_eq_true (by rw [hts])), rfl⟩
              · skip
                refine XC.skip ?_
                refine XE.next ?_
                refine XC.keep [(1, _), (2, _), (3, _), (4, _), (11, _), (19, _)] (Sub.cons rfl (Sub.cons rfl (Sub.cons rfl (Sub.cons rfl (Sub.cons rfl (Sub.cons rfl (Sub.nil _))))))) ?_
                refine XC.seq ?_
                refine XC.region ?_
                have hmz : x0.toFF.moveE d n x to y = 0 := Decidable.byContradiction (by assumption)
                obtain ⟨_, _, _, _, _, hv1, hv2, hv3⟩ := FF.move_ok hO.inv hmz
                rw [← ht] at hv1 hv2 hv3
                refine XO.v (V.move rfl) rfl ?_
                refine XO.v (V.move rfl) rfl ?_
                refine XO.v (V.move rfl) rfl ?_
                refine XO.call rfl (t_Find _ _ _ hS2 _ _) (.cons .here (.cons (.there .here) (.cons (.there .here) .nil))) cl_20 rfl ?_
                rintro _ _ ⟨rfl, rfl⟩
                refine XO.v (V.move rfl) rfl ?_
                refine XO.v (V.extract rfl rfl) rfl ?_
                refine XO.v (V.extract rfl rfl) rfl ?_
                refine XO.v (V.assign rfl) rfl ?_
                refine XO.v (V.assign rfl) rfl ?_
                refine XO.nil ?_
                refine XE.next ?_
                refine XC.keep [(1, _), (2, _), (3, _), (4, _), (11, _), (13, _), (19, _), (35, _)] (Sub.cons rfl (Sub.cons rfl (Sub.cons rfl (Sub.cons rfl (Sub.cons rfl (Sub.cons rfl (Sub.cons rfl (Sub.cons rfl (Sub.nil _))))))))) ?_
                refine XC.seq ?_
                refine XC.region ?_
                refine XO.v (V.move rfl) rfl ?_
                refine XO.v (V.move rfl) rfl ?_
                refine XO.v (V.move rfl) rfl ?_
                refine XO.call rfl (t_Find _ _ _ hS2 _ _) (.cons .here (.cons .here (.cons .here .nil))) cl_20 rfl ?_
                rintro _ _ ⟨rfl, rfl⟩
                refine XO.v (V.move rfl) rfl ?_
                refine XO.v (V.extract rfl rfl) rfl ?_
                refine XO.v (V.extract rfl rfl) rfl ?_
                refine XO.v (V.assign rfl) rfl ?_
                refine XO.v (V.assign rfl) rfl ?_
                refine XO.nil ?_
                refine XE.next ?_
                refine XC.keep [(1, _), (2, _), (3, _), (4, _), (13, _), (15, _), (19, _), (35, _), (36, _)] (Sub.cons rfl (Sub.cons rfl (Sub.cons rfl (Sub.cons rfl (Sub.cons rfl (Sub.cons rfl (Sub.cons rfl (Sub.cons rfl (Sub.cons rfl (Sub.nil _)))))))))) ?_
                refine XC.seq ?_
                refine XC.region ?_
                refine XO.v (V.move rfl) rfl ?_
                refine XO.v (V.errNil rfl Try.underlying43 rfl) rfl ?_
                refine XO.v (V.move rfl) rfl ?_
                refine XO.splitT (d := 237) rfl (hv1) ?_
                refine XO.guardRun rfl rfl rfl ?_
                refine XO.v (V.move rfl) rfl ?_
                refine XO.guardRun rfl rfl rfl ?_
                refine XO.v (V.move rfl) rfl ?_
                refine XO.guardRun rfl rfl rfl ?_
                refine XO.v (V.cmp rfl rfl rfl) rfl ?_
                refine XO.v (V.pick rfl rfl rfl rfl) rfl ?_
                refine XO.v (V.move rfl) rfl ?_
                refine XO.splitT (d := 242) rfl (hv2) ?_
                refine XO.guardRun rfl rfl rfl ?_
                refine XO.v (V.move rfl) rfl ?_
                refine XO.guardRun rfl rfl rfl ?_
                refine XO.v (V.errNil rfl Try.underlying43 rfl) rfl ?_
                refine XO.guardRun rfl rfl rfl ?_
                refine XO.v (V.move rfl) rfl ?_
                skip
                refine XO.splitP (d := 245) rfl (fun h13 => ?_) (fun h13 => ?_)
                · skip
                  have hv4 : t.toFF.findE n x = 2 := by
                    rcases hv3 with h9 | ⟨_, _, h9, _⟩
                    · exact h9
                    · exact absurd h9 (by assumption)
                  skip
                  refine XO.guardRun rfl rfl rfl ?_
                  refine XO.v (V.move rfl) rfl ?_
                  refine XO.guardRun rfl rfl rfl ?_
                  refine XO.call rfl (number_any _) .nil cl_26 rfl ?_
                  rintro _ _ ⟨rfl, rfl⟩
                  refine XO.guardRun rfl rfl rfl ?_
                  refine XO.v (V.cmp rfl rfl rfl) rfl ?_
                  refine XO.guardRun rfl rfl rfl ?_
                  refine XO.v (V.pick rfl rfl rfl rfl) rfl ?_
                  refine XO.guardRun rfl rfl rfl ?_
                  refine XO.v (V.move rfl) rfl ?_
                  refine XO.splitT (d := 250) rfl (hv4) ?_
                  refine XO.guardSkip rfl rfl rfl rfl rfl ?_
                  refine XO.guardSkip rfl rfl rfl rfl rfl ?_
                  refine XO.guardSkip rfl rfl rfl rfl rfl ?_
                  refine XO.guardSkip rfl rfl rfl rfl rfl ?_
                  refine XO.guardSkipU rfl rfl rfl rfl rfl ?_
                  refine XO.guardSkipU rfl rfl rfl rfl rfl ?_
                  refine XO.guardSkipU rfl rfl rfl rfl rfl ?_
                  refine XO.guardSkip rfl rfl rfl rfl rfl ?_
                  refine XO.guardSkip rfl rfl rfl rfl rfl ?_
                  refine XO.guardSkipU rfl rfl rfl rfl rfl ?_
                  refine XO.guardSkipU rfl rfl rfl rfl rfl ?_
                  refine XO.guardSkipU rfl rfl rfl rfl rfl ?_
                  refine XO.guardSkip rfl rfl rfl rfl rfl ?_
                  refine XO.guardRun rfl rfl rfl ?_
                  refine XO.v (V.pick rfl rfl rfl rfl) rfl ?_
                  refine XO.v (V.pick rfl rfl rfl rfl) rfl ?_
                  refine XO.v (V.assign rfl) rfl ?_
                  refine XO.nil ?_
                  refine XE.next ?_
                  refine XC.keep [(10, _)] (Sub.cons rfl (Sub.nil _)) ?_
                  refine XC.ret ?_
                  refine XE.ret1 rfl rfl (post_of .nil rfl ?_)
                  exact ⟨rfl, rfl⟩
                · skip
                  have hv4 : n = to ∧ x = y ∧ t.toFF.findV n x = x0.toFF.findV n x := by
                    rcases hv3 with h9 | ⟨h9, h10, _, h11⟩
                    · exact absurd (show t.toFF.findE n x ≠ 0 by rw [h9]; decide) (by assumption)
                    · exact ⟨h9, h10, h11⟩
                  skip
                  refine XO.guardSkip rfl rfl rfl rfl rfl ?_
                  refine XO.guardSkip rfl rfl rfl rfl rfl ?_
                  refine XO.guardSkip rfl rfl rfl rfl rfl ?_
                  refine XO.guardRun rfl rfl rfl ?_
                  refine XO.v (V.pick rfl rfl rfl rfl) rfl ?_
                  refine XO.guardRun rfl rfl rfl ?_
                  refine XO.v (V.move rfl) rfl ?_
                  refine XO.guardRun rfl rfl rfl ?_
                  refine XO.v (V.move rfl) rfl ?_
                  refine XO.guardRun rfl rfl rfl ?_
                  refine XO.v (V.move rfl) rfl ?_
                  refine XO.guardRun rfl rfl rfl ?_
                  refine XO.v (V.cmp rfl rfl rfl) rfl ?_
                  refine XO.guardRun rfl rfl rfl ?_
                  refine XO.v (V.move rfl) rfl ?_
                  refine XO.splitT (d := 254) rfl (hv4.1) ?_
                  refine XO.guardRun rfl rfl rfl ?_
                  refine XO.v (V.move rfl) rfl ?_
                  refine XO.guardRun rfl rfl rfl ?_
                  refine XO.v (V.move rfl) rfl ?_
                  refine XO.guardRun rfl rfl rfl ?_
                  refine XO.v (V.strCmp rfl rfl rfl) rfl ?_
                  refine XO.guardRun rfl rfl rfl ?_
                  refine XO.v (V.pick rfl rfl rfl rfl) rfl ?_
                  refine XO.guardRun rfl rfl rfl ?_
                  refine XO.v (V.move rfl) rfl ?_
                  refine XO.splitT (d := 259) rfl (hv4.2.1) ?_
                  refine XO.guardRun rfl rfl rfl ?_
                  refine XO.v (V.move rfl) rfl ?_
                  refine XO.guardRun rfl rfl rfl ?_
                  refine XO.v (V.move rfl) rfl ?_
                  refine XO.guardRun rfl rfl rfl ?_
                  refine XO.v (V.cmp rfl rfl rfl) rfl ?_
                  refine XO.guardRun rfl rfl rfl ?_
                  refine XO.v (V.pick rfl rfl rfl rfl) rfl ?_
                  refine XO.guardRun rfl rfl rfl ?_
                  refine XO.v (V.pick rfl rfl rfl rfl) rfl ?_
                  refine XO.v (V.pick rfl rfl rfl rfl) rfl ?_
                  refine XO.v (V.assign rfl) rfl ?_
                  refine XO.nil ?_
                  refine XE.next ?_
                  refine XC.keep [(10, _)] (Sub.cons rfl (Sub.nil _)) ?_
                  refine XC.ret ?_
                  refine XE.ret1 rfl rfl (post_of .nil rfl ?_)
                  exact ⟨congrArg Value.bool (decide_eq_true hv4.2.2), rfl⟩
            · skip
              exact absurd (show x0.toFF.isE (x0.toFF.findV n x) 2 = 0 by rw [← FF.isE_congr hkind]; exact j0) i0
        · skip
          refine XO.v (V.move rfl) rfl ?_
          refine XO.v (V.extract rfl rfl) rfl ?_
          refine XO.v (V.extract rfl rfl) rfl ?_
          refine XO.v (V.assign rfl) rfl ?_
          refine XO.v (V.assign rfl) rfl ?_
          refine XO.nil ?_
          refine XE.next ?_
          refine XC.keep [(1, _), (2, _), (3, _), (4, _), (11, _), (13, _), (18, _), (19, _), (20, _)] (Sub.cons rfl (Sub.cons rfl (Sub.cons rfl (Sub.cons rfl (Sub.cons rfl (Sub.cons rfl (Sub.cons rfl (Sub.cons rfl (Sub.cons rfl (Sub.nil _)))))))))) ?_
          refine XC.seq ?_
          refine XC.region ?_
          refine XO.v (V.move rfl) rfl ?_
          refine XO.v (V.move rfl) rfl ?_
          refine XO.call rfl (t_Read _ _ _ hS _ _ _) (.cons (.there .here) .nil) cl_22 rfl ?_
          rintro _ _ ⟨rfl, rfl⟩
          refine XO.v (V.move rfl) rfl ?_
          refine XO.v (V.extract rfl rfl) rfl ?_
          refine XO.v (V.extract rfl rfl) rfl ?_
          refine XO.v (V.assign rfl) rfl ?_
          refine XO.v (V.assign rfl) rfl ?_
          refine XO.nil ?_
          refine XE.next ?_
          refine XC.keep [(1, _), (2, _), (3, _), (4, _), (11, _), (13, _), (18, _), (19, _), (20, _), (22, _)] (Sub.cons rfl (Sub.cons rfl (Sub.cons rfl (Sub.cons rfl (Sub.cons rfl (Sub.cons rfl (Sub.cons rfl (Sub.cons rfl (Sub.cons rfl (Sub.cons rfl (Sub.nil _))))))))))) ?_
          refine XC.seq ?_
          refine XC.region ?_
          refine XO.v (V.move rfl) rfl ?_
          refine XO.v (V.move rfl) rfl ?_
          refine XO.call rfl (t_Of _ _ _ hS _) (.cons .here .nil) cl_23 rfl ?_
          rintro _ _ ⟨rfl, rfl⟩
          refine XO.v (V.move rfl) rfl ?_
          refine XO.v (V.extract rfl rfl) rfl ?_
          refine XO.v (V.extract rfl rfl) rfl ?_
          refine XO.allocZ (z := .agg NV.zero.arr) (m := 4) (C := encNV NV.zero) (by kernel_rfl) rfl (encNV_box _) rfl ?_
          intro bx
          refine XO.storeAgg rfl rfl .here (encNV_st _ _) ⟨rfl, rfl⟩ sz_55_4 ?_
          refine XO.v (V.assign rfl) rfl ?_
          refine XO.nil ?_
          refine XE.next ?_
          refine XC.keep [(1, _), (2, _), (3, _), (4, _), (11, _), (13, _), (18, _), (19, _), (20, _), (22, _), (24, _)] (Sub.cons rfl (Sub.cons rfl (Sub.cons rfl (Sub.cons rfl (Sub.cons rfl (Sub.cons rfl (Sub.cons rfl (Sub.cons rfl (Sub.cons rfl (Sub.cons rfl (Sub.cons rfl (Sub.nil _)))))))))))) ?_
          refine XC.seq ?_
          refine XC.region ?_
          refine XO.v (V.move rfl) rfl ?_
          refine XO.v (V.move rfl) rfl ?_
          refine XO.v (V.move rfl) rfl ?_
          refine XO.v (V.move rfl) rfl ?_
          refine XO.v (V.move rfl) rfl ?_
          refine XO.call rfl (t_Move _ _ _ hS d (fun k => hO.inv.chI k) _ _ _ _ (by omega)) (.cons (.there .here) (.cons (.there (.there .here)) (.cons (.there (.there .here)) .nil))) cl_24 rfl ?_
          rintro _ _ ⟨rfl, t, ht, tp, tc, rfl⟩
          obtain ⟨d2, o2⟩ := hO.move n x to y
          rw [← ht] at o2
          have hS2 := o2.sh (by omega)
          have hkind : t.toFF.kind = x0.toFF.kind := by rw [ht]; exact FF.move_kind
          refine XO.v (V.assign rfl) rfl ?_
          refine XO.nil ?_
          refine XE.next ?_
          refine XC.keep [(1, _), (2, _), (3, _), (4, _), (11, _), (13, _), (18, _), (19, _), (20, _), (22, _), (24, _), (26, _)] (Sub.cons rfl (Sub.cons rfl (Sub.cons rfl (Sub.cons rfl (Sub.cons rfl (Sub.cons rfl (Sub.cons rfl (Sub.cons rfl (Sub.cons rfl (Sub.cons rfl (Sub.cons rfl (Sub.cons rfl (Sub.nil _))))))))))))) ?_
          refine XC.seq ?_
          refine XC.seq ?_
          refine XC.region ?_
          refine XO.v (V.move rfl) rfl ?_
          refine XO.v (V.errNil rfl Try.underlying43 rfl) rfl ?_
          refine XO.nil ?_
          refine XE.next ?_
          refine XC.keep [(1, _), (2, _), (3, _), (4, _), (11, _), (18, _), (19, _), (20, _), (22, _), (24, _), (26, _), (158, _)] (Sub.cons rfl (Sub.cons rfl (Sub.cons rfl (Sub.cons rfl (Sub.cons rfl (Sub.cons rfl (Sub.cons rfl (Sub.cons rfl (Sub.cons rfl (Sub.cons rfl (Sub.cons rfl (Sub.cons rfl (Sub.nil _))))))))))))) ?_
          refine XC.condP rfl (fun h17 => ?_) (fun h17 => ?_)
          · skip
            have hf0 : x0.toFF.findE n x ≠ 0 := by assumption
            refine XC.seq ?_
            refine XC.region ?_
            refine XO.v (V.move rfl) rfl ?_
            refine XO.v (V.errNil rfl Try.underlying43 rfl) rfl ?_
            refine XO.v (V.move rfl) rfl ?_
            refine XO.splitT (d := 161) rfl (FF.moveE_find hf0) ?_
            refine XO.guardRun rfl rfl rfl ?_
            refine XO.v (V.move rfl) rfl ?_
            refine XO.guardRun rfl rfl rfl ?_
            refine XO.call rfl (t_Nodes _ _ _) (.cons .here .nil) cl_16 rfl ?_
            rintro _ _ ⟨rfl, rfl⟩
            refine XO.guardRun rfl rfl rfl ?_
            refine XO.v (V.move rfl) rfl ?_
            refine XO.guardRun rfl rfl rfl ?_
            refine XO.v (V.cmp rfl rfl rfl) rfl ?_
            refine XO.v (V.pick rfl rfl rfl rfl) rfl ?_
            refine XO.v (V.assign rfl) rfl ?_
            refine XO.nil ?_
            refine XE.next ?_
            refine XC.keep [(10, _)] (Sub.cons rfl (Sub.nil _)) ?_
            refine XC.ret ?_
            refine XE.thenRet ?_
            refine XE.ret1 rfl rfl (post_of .nil rfl ?_)
            exact ⟨congrArg Value.bool (decide_eq_true (FF.nodes_congr hkind)), rfl⟩
          · skip
            have hf0 : x0.toFF.findE n x = 0 := by simpa using h17
            refine XC.skip ?_
            refine XE.next ?_
            refine XC.keep [(1, _), (2, _), (3, _), (4, _), (11, _), (18, _), (19, _), (20, _), (22, _), (24, _), (26, _)] (Sub.cons rfl (Sub.cons rfl (Sub.cons rfl (Sub.cons rfl (Sub.cons rfl (Sub.cons rfl (Sub.cons rfl (Sub.cons rfl (Sub.cons rfl (Sub.cons rfl (Sub.cons rfl (Sub.nil _)))))))))))) ?_
            refine XC.seq ?_
            refine XC.region ?_
            obtain ⟨hm1, hm2, hm3⟩ := FF.move_same (to := to) (y := y) hO.inv hf0
            rw [← ht] at hm1 hm2 hm3
            refine XO.v (V.move rfl) rfl ?_
            refine XO.v (V.move rfl) rfl ?_
            refine XO.call rfl (t_List _ _ _ hS2 _) (.cons .here (.cons .here (.cons .here .nil))) cl_21 rfl ?_
            rintro _ _ (⟨j0, rfl, rfl⟩ | ⟨j0, p2, c2, rfl, rfl⟩)
            · skip
              exact absurd (show t.toFF.isE (x0.toFF.findV n x) 2 = 0 by rw [FF.isE_congr hkind]; exact i0) j0
            · skip
              refine XO.v (V.move rfl) rfl ?_
              refine XO.v (V.extract rfl rfl) rfl ?_
              refine XO.v (V.extract rfl rfl) rfl ?_
              refine XO.v (V.assign rfl) rfl ?_
              refine XO.v (V.assign rfl) rfl ?_
              refine XO.nil ?_
              refine XE.next ?_
              refine XC.keep [(1, _), (2, _), (3, _), (4, _), (11, _), (18, _), (19, _), (20, _), (22, _), (24, _), (26, _), (27, _)] (Sub.cons rfl (Sub.cons rfl (Sub.cons rfl (Sub.cons rfl (Sub.cons rfl (Sub.cons rfl (Sub.cons rfl (Sub.cons rfl (Sub.cons rfl (Sub.cons rfl (Sub.cons rfl (Sub.cons rfl (Sub.nil _))))))))))))) ?_
              refine XC.seq ?_
              refine XC.region ?_
              refine XO.v (V.move rfl) rfl ?_
              refine XO.v (V.move rfl) rfl ?_
              refine XO.call rfl (t_Read _ _ _ hS2 _ _ _) (.cons (.there .here) .nil) cl_22 rfl ?_
              rintro _ _ ⟨rfl, rfl⟩
              refine XO.v (V.move rfl) rfl ?_
              refine XO.v (V.extract rfl rfl) rfl ?_
              refine XO.v (V.extract rfl rfl) rfl ?_
              refine XO.v (V.assign rfl) rfl ?_
              refine XO.v (V.assign rfl) rfl ?_
              refine XO.nil ?_
              refine XE.next ?_
              refine XC.keep [(1, _), (2, _), (3, _), (4, _), (11, _), (18, _), (19, _), (20, _), (22, _), (24, _), (26, _), (27, _), (29, _)] (Sub.cons rfl (Sub.cons rfl (Sub.cons rfl (Sub.cons rfl (Sub.cons rfl (Sub.cons rfl (Sub.cons rfl (Sub.cons rfl (Sub.cons rfl (Sub.cons rfl (Sub.cons rfl (Sub.cons rfl (Sub.cons rfl (Sub.nil _)))))))))))))) ?_
              refine XC.seq ?_
              refine XC.region ?_
              refine XO.v (V.move rfl) rfl ?_
              refine XO.v (V.move rfl) rfl ?_
              refine XO.call rfl (t_Of _ _ _ hS2 _) (.cons .here .nil) cl_23 rfl ?_
              rintro _ _ ⟨rfl, rfl⟩
              refine XO.v (V.move rfl) rfl ?_
              refine XO.v (V.extract rfl rfl) rfl ?_
              refine XO.v (V.extract rfl rfl) rfl ?_
              refine XO.allocZ (z := .agg NV.zero.arr) (m := 4) (C := encNV NV.zero) (by kernel_rfl) rfl (encNV_box _) rfl ?_
              intro by_
              refine XO.storeAgg rfl rfl .here (encNV_st _ _) ⟨rfl, rfl⟩ sz_55_4 ?_
              refine XO.v (V.assign rfl) rfl ?_
              refine XO.nil ?_
              refine XE.next ?_
              refine XC.keep [(1, _), (2, _), (3, _), (4, _), (11, _), (18, _), (19, _), (20, _), (22, _), (24, _), (26, _), (27, _), (29, _), (31, _)] (Sub.cons rfl (Sub.cons rfl (Sub.cons rfl (Sub.cons rfl (Sub.cons rfl (Sub.cons rfl (Sub.cons rfl (Sub.cons rfl (Sub.cons rfl (Sub.cons rfl (Sub.cons rfl (Sub.cons rfl (Sub.cons rfl (Sub.cons rfl (Sub.nil _))))))))))))))) ?_
              refine XC.seq ?_
              refine XC.seq ?_
              refine XC.region ?_
              refine XO.v (V.move rfl) rfl ?_
              refine XO.v (V.move rfl) rfl ?_
              refine XO.call rfl (same_texts2 _ _ _ _ _ _ hm1 (by have := FF.isE_k0 i0; have := (hS.rise _ this.1 this.2.1).2.2.1; omega)) (.cons (.there (.there (.there (.there (.there (.there .here)))))) (.cons (.there (.there .here)) .nil)) cl_25 rfl ?_
              rintro _ _ ⟨rfl, rfl⟩
              refine XO.v (V.not rfl) rfl ?_
              refine XO.v (V.move rfl) rfl ?_
              refine XO.guardRun rfl rfl rfl ?_
              refine XO.v (V.move rfl) rfl ?_
              refine XO.guardRun rfl rfl rfl ?_
              refine XO.v (V.move rfl) rfl ?_
              refine XO.guardRun rfl rfl rfl ?_
              refine XO.v (V.strCmp rfl rfl rfl) rfl ?_
              refine XO.v (V.pick rfl rfl rfl rfl) rfl ?_
              refine XO.v (V.move rfl) rfl ?_
              refine XO.splitF (d := 194) rfl (by rw [hm3]; exact fun q => q rfl) ?_
              refine XO.guardRun rfl rfl rfl ?_
              refine XO.v (V.loadAgg rfl (inXM (.there (.there (.there (.there (.there (.there .here))))))) (encNV_agg _) ag_55 sz_55_4) rfl ?_
              refine XO.guardRun rfl rfl rfl ?_
              refine XO.v (V.loadAgg rfl (inXM (.there (.there .here))) (encNV_is hm2) ag_55 sz_55_4) rfl ?_
              refine XO.guardRun rfl rfl rfl ?_
              refine XO.v (V.aggNe rfl rfl aggEq (NV.ints _)) rfl ?_
              refine XO.v (V.pick rfl rfl rfl rfl) rfl ?_
              refine XO.v (V.move rfl) rfl ?_
              refine XO.guardRun rfl rfl rfl ?_
              refine XO.v (V.move rfl) rfl ?_
              refine XO.guardRun rfl rfl rfl ?_
              refine XO.call rfl (t_Nodes _ _ _) (.cons (.there (.there (.there .here))) .nil) cl_16 rfl ?_
              rintro _ _ ⟨rfl, rfl⟩
              refine XO.guardRun rfl rfl rfl ?_
              refine XO.v (V.move rfl) rfl ?_
              refine XO.guardRun rfl rfl rfl ?_
              refine XO.v (V.cmp rfl rfl rfl) rfl ?_
              refine XO.v (V.pick rfl rfl rfl rfl) rfl ?_
              refine XO.nil ?_
              refine XE.next ?_
              refine XC.keep [(1, _), (2, _), (3, _), (4, _), (11, _), (19, _), (26, _), (204, _)] (Sub.cons rfl (Sub.cons rfl (Sub.cons rfl (Sub.cons rfl (Sub.cons rfl (Sub.cons rfl (Sub.cons rfl (Sub.cons rfl (Sub.nil _))))))))) ?_
              refine XC.condFP rfl (by rw [FF.nodes_congr hkind]; exact fun q => q rfl) ?_
              refine XC.skip ?_
              refine XE.next ?_
              refine XC.keep [(1, _), (2, _), (3, _), (4, _), (11, _), (19, _), (26, _)] (Sub.cons rfl (Sub.cons rfl (Sub.cons rfl (Sub.cons rfl (Sub.cons rfl (Sub.cons rfl (Sub.cons rfl (Sub.nil _)))))))) ?_
              refine XC.seq ?_
              refine XC.seq ?_
              refine XC.region ?_
              refine XO.v (V.move rfl) rfl ?_
              refine XO.v (V.errNil rfl Try.underlying43 rfl) rfl ?_
              refine XO.nil ?_
              refine XE.next ?_
              refine XC.keep [(1, _), (2, _), (3, _), (4, _), (11, _), (19, _), (206, _)] (Sub.cons rfl (Sub.cons rfl (Sub.cons rfl (Sub.cons rfl (Sub.cons rfl (Sub.cons rfl (Sub.cons rfl (Sub.nil _)))))))) ?_
              refine XC.condP rfl (fun h20 => ?_) (fun h20 => ?_)
              · skip
                have hme : x0.toFF.moveE d n x to y ≠ 0 := by assumption
                have hts : t.toFF = x0.toFF := by rw [ht]; exact FF.move_err hO.inv hme
                refine XC.seq ?_
                refine XC.region ?_
                refine XO.v (V.move rfl) rfl ?_
                refine XO.v (V.move rfl) rfl ?_
                refine XO.v (V.move rfl) rfl ?_
                refine XO.call rfl (t_Find _ _ _ hS2 _ _) (.cons .here (.cons (.there (.there (.there .here))) (.cons (.there (.there (.there .here))) .nil))) cl_20 rfl ?_
                rintro _ _ ⟨rfl, rfl⟩
                refine XO.v (V.move rfl) rfl ?_
                refine XO.v (V.extract rfl rfl) rfl ?_
                refine XO.v (V.extract rfl rfl) rfl ?_
                refine XO.v (V.assign rfl) rfl ?_
                refine XO.v (V.assign rfl) rfl ?_
                refine XO.nil ?_
                refine XE.next ?_
                refine XC.keep [(19, _), (33, _), (34, _)] (Sub.cons rfl (Sub.cons rfl (Sub.cons rfl (Sub.nil _)))) ?_
                refine XC.seq ?_
                refine XC.region ?_
                refine XO.v (V.move rfl) rfl ?_
                refine XO.v (V.errNil rfl Try.underlying43 rfl) rfl ?_
                refine XO.v (V.move rfl) rfl ?_
                refine XO.splitT (d := 216) rfl (by rw [hts]; exact hf0) ?_
                refine XO.guardRun rfl rfl rfl ?_
                refine XO.v (V.move rfl) rfl ?_
                refine XO.guardRun rfl rfl rfl ?_
                refine XO.v (V.move rfl) rfl ?_
                refine XO.guardRun rfl rfl rfl ?_
                refine XO.v (V.cmp rfl rfl rfl) rfl ?_
                refine XO.v (V.pick rfl rfl rfl rfl) rfl ?_
                refine XO.v (V.assign rfl) rfl ?_
                refine XO.nil ?_
                refine XE.next ?_
                refine XC.keep [(10, _)] (Sub.cons rfl (Sub.nil _)) ?_
                refine XC.ret ?_
                refine XE.thenRet ?_
                refine XE.ret1 rfl rfl (post_of .nil rfl ?_)
                exact ⟨congrArg Value.bool (decide_eq_true (by rw [hts])), rfl⟩
              · skip
                refine XC.skip ?_
                refine XE.next ?_
                refine XC.keep [(1, _), (2, _), (3, _), (4, _), (11, _), (19, _)] (Sub.cons rfl (Sub.cons rfl (Sub.cons rfl (Sub.cons rfl (Sub.cons rfl (Sub.cons rfl (Sub.nil _))))))) ?_
                refine XC.seq ?_
                refine XC.region ?_
                have hmz : x0.toFF.moveE d n x to y = 0 := Decidable.byContradiction (by assumption)
                obtain ⟨_, _, _, _, _, hv1, hv2, hv3⟩ := FF.move_ok hO.inv hmz
                rw [← ht] at hv1 hv2 hv3
                refine XO.v (V.move rfl) rfl ?_
                refine XO.v (V.move rfl) rfl ?_
                refine XO.v (V.move rfl) rfl ?_
                refine XO.call rfl (t_Find _ _ _ hS2 _ _) (.cons .here (.cons (.there (.there (.there .here))) (.cons (.there (.there (.there .here))) .nil))) cl_20 rfl ?_
                rintro _ _ ⟨rfl, rfl⟩
                refine XO.v (V.move rfl) rfl ?_
                refine XO.v (V.extract rfl rfl) rfl ?_
                refine XO.v (V.extract rfl rfl) rfl ?_
                refine XO.v (V.assign rfl) rfl ?_
                refine XO.v (V.assign rfl) rfl ?_
                refine XO.nil ?_
                refine XE.next ?_
                refine XC.keep [(1, _), (2, _), (3, _), (4, _), (11, _), (13, _), (19, _), (35, _)] (Sub.cons rfl (Sub.cons rfl (Sub.cons rfl (Sub.cons rfl (Sub.cons rfl (Sub.cons rfl (Sub.cons rfl (Sub.cons rfl (Sub.nil _))))))))) ?_
                refine XC.seq ?_
                refine XC.region ?_
                refine XO.v (V.move rfl) rfl ?_
                refine XO.v (V.move rfl) rfl ?_
                refine XO.v (V.move rfl) rfl ?_
                refine XO.call rfl (t_Find _ _ _ hS2 _ _) (.cons .here (.cons .here (.cons .here .nil))) cl_20 rfl ?_
                rintro _ _ ⟨rfl, rfl⟩
                refine XO.v (V.move rfl) rfl ?_
                refine XO.v (V.extract rfl rfl) rfl ?_
                refine XO.v (V.extract rfl rfl) rfl ?_
                refine XO.v (V.assign rfl) rfl ?_
                refine XO.v (V.assign rfl) rfl ?_
                refine XO.nil ?_
                refine XE.next ?_
                refine XC.keep [(1, _), (2, _), (3, _), (4, _), (13, _), (15, _), (19, _), (35, _), (36, _)] (Sub.cons rfl (Sub.cons rfl (Sub.cons rfl (Sub.cons rfl (Sub.cons rfl (Sub.cons rfl (Sub.cons rfl (Sub.cons rfl (Sub.cons rfl (Sub.nil _)))))))))) ?_
                refine XC.seq ?_
                refine XC.region ?_
                refine XO.v (V.move rfl) rfl ?_
                refine XO.v (V.errNil rfl Try.underlying43 rfl) rfl ?_
                refine XO.v (V.move rfl) rfl ?_
                refine XO.splitT (d := 237) rfl (hv1) ?_
                refine XO.guardRun rfl rfl rfl ?_
                refine XO.v (V.move rfl) rfl ?_
                refine XO.guardRun rfl rfl rfl ?_
                refine XO.v (V.move rfl) rfl ?_
                refine XO.guardRun rfl rfl rfl ?_
                refine XO.v (V.cmp rfl rfl rfl) rfl ?_
                refine XO.v (V.pick rfl rfl rfl rfl) rfl ?_
                refine XO.v (V.move rfl) rfl ?_
                refine XO.splitT (d := 242) rfl (hv2) ?_
                refine XO.guardRun rfl rfl rfl ?_
                refine XO.v (V.move rfl) rfl ?_
                refine XO.guardRun rfl rfl rfl ?_
                refine XO.v (V.errNil rfl Try.underlying43 rfl) rfl ?_
                refine XO.guardRun rfl rfl rfl ?_
                refine XO.v (V.move rfl) rfl ?_
                skip
                refine XO.splitP (d := 245) rfl (fun h24 => ?_) (fun h24 => ?_)
                · skip
                  have hv4 : t.toFF.findE n x = 2 := by
                    rcases hv3 with h9 | ⟨_, _, h9, _⟩
                    · exact h9
                    · exact absurd h9 (by assumption)
                  skip
                  refine XO.guardRun rfl rfl rfl ?_
                  refine XO.v (V.move rfl) rfl ?_
                  refine XO.guardRun rfl rfl rfl ?_
                  refine XO.call rfl (number_any _) .nil cl_26 rfl ?_
                  rintro _ _ ⟨rfl, rfl⟩
                  refine XO.guardRun rfl rfl rfl ?_
                  refine XO.v (V.cmp rfl rfl rfl) rfl ?_
                  refine XO.guardRun rfl rfl rfl ?_
                  refine XO.v (V.pick rfl rfl rfl rfl) rfl ?_
                  refine XO.guardRun rfl rfl rfl ?_
                  refine XO.v (V.move rfl) rfl ?_
                  refine XO.splitT (d := 250) rfl (hv4) ?_
                  refine XO.guardSkip rfl rfl rfl rfl rfl ?_
                  refine XO.guardSkip rfl rfl rfl rfl rfl ?_
                  refine XO.guardSkip rfl rfl rfl rfl rfl ?_
                  refine XO.guardSkip rfl rfl rfl rfl rfl ?_
                  refine XO.guardSkipU rfl rfl rfl rfl rfl ?_
                  refine XO.guardSkipU rfl rfl rfl rfl rfl ?_
                  refine XO.guardSkipU rfl rfl rfl rfl rfl ?_
                  refine XO.guardSkip rfl rfl rfl rfl rfl ?_
                  refine XO.guardSkip rfl rfl rfl rfl rfl ?_
                  refine XO.guardSkipU rfl rfl rfl rfl rfl ?_
                  refine XO.guardSkipU rfl rfl rfl rfl rfl ?_
                  refine XO.guardSkipU rfl rfl rfl rfl rfl ?_
                  refine XO.guardSkip rfl rfl rfl rfl rfl ?_
                  refine XO.guardRun rfl rfl rfl ?_
                  refine XO.v (V.pick rfl rfl rfl rfl) rfl ?_
                  refine XO.v (V.pick rfl rfl rfl rfl) rfl ?_
                  refine XO.v (V.assign rfl) rfl ?_
                  refine XO.nil ?_
                  refine XE.next ?_
                  refine XC.keep [(10, _)] (Sub.cons rfl (Sub.nil _)) ?_
                  refine XC.ret ?_
                  refine XE.ret1 rfl rfl (post_of .nil rfl ?_)
                  exact ⟨rfl, rfl⟩
                · skip
                  have hv4 : n = to ∧ x = y ∧ t.toFF.findV n x = x0.toFF.findV n x := by
                    rcases hv3 with h9 | ⟨h9, h10, _, h11⟩
                    · exact absurd (show t.toFF.findE n x ≠ 0 by rw [h9]; decide) (by assumption)
                    · exact ⟨h9, h10, h11⟩
                  skip
                  refine XO.guardSkip rfl rfl rfl rfl rfl ?_
                  refine XO.guardSkip rfl rfl rfl rfl rfl ?_
                  refine XO.guardSkip rfl rfl rfl rfl rfl ?_
                  refine XO.guardRun rfl rfl rfl ?_
                  refine XO.v (V.pick rfl rfl rfl rfl) rfl ?_
                  refine XO.guardRun rfl rfl rfl ?_
                  refine XO.v (V.move rfl) rfl ?_
                  refine XO.guardRun rfl rfl rfl ?_
                  refine XO.v (V.move rfl) rfl ?_
                  refine XO.guardRun rfl rfl rfl ?_
                  refine XO.v (V.move rfl) rfl ?_
                  refine XO.guardRun rfl rfl rfl ?_
                  refine XO.v (V.cmp rfl rfl rfl) rfl ?_
                  refine XO.guardRun rfl rfl rfl ?_
                  refine XO.v (V.move rfl) rfl ?_
                  refine XO.splitT (d := 254) rfl (hv4.1) ?_
                  refine XO.guardRun rfl rfl rfl ?_
                  refine XO.v (V.move rfl) rfl ?_
                  refine XO.guardRun rfl rfl rfl ?_
                  refine XO.v (V.move rfl) rfl ?_
                  refine XO.guardRun rfl rfl rfl ?_
                  refine XO.v (V.strCmp rfl rfl rfl) rfl ?_
                  refine XO.guardRun rfl rfl rfl ?_
                  refine XO.v (V.pick rfl rfl rfl rfl) rfl ?_
                  refine XO.guardRun rfl rfl rfl ?_
                  refine XO.v (V.move rfl) rfl ?_
                  refine XO.splitT (d := 259) rfl (hv4.2.1) ?_
                  refine XO.guardRun rfl rfl rfl ?_
                  refine XO.v (V.move rfl) rfl ?_
                  refine XO.guardRun rfl rfl rfl ?_
                  refine XO.v (V.move rfl) rfl ?_
                  refine XO.guardRun rfl rfl rfl ?_
                  refine XO.v (V.cmp rfl rfl rfl) rfl ?_
                  refine XO.guardRun rfl rfl rfl ?_
                  refine XO.v (V.pick rfl rfl rfl rfl) rfl ?_
                  refine XO.guardRun rfl rfl rfl ?_
                  refine XO.v (V.pick rfl rfl rfl rfl) rfl ?_
                  refine XO.v (V.pick rfl rfl rfl rfl) rfl ?_
                  refine XO.v (V.assign rfl) rfl ?_
                  refine XO.nil ?_
                  refine XE.next ?_
                  refine XC.keep [(10, _)] (Sub.cons rfl (Sub.nil _)) ?_
                  refine XC.ret ?_
                  refine XE.ret1 rfl rfl (post_of .nil rfl ?_)
                  exact ⟨congrArg Value.bool (decide_eq_true hv4.2.2), rfl⟩
end Go.X
