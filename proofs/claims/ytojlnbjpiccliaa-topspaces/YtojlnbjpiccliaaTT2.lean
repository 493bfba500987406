import Derived.Test.YtojlnbjpiccliaaTT1
namespace Go.X
open Go Go.Proofs
theorem ag_46 : aggT Try.prog 46 = true := by kernel_rfl
theorem cl_24 : callable Try.prog 24 = true := by kernel_rfl
theorem cl_25 : callable Try.prog 25 = true := by kernel_rfl
theorem sz_46_6 : szOf Try.prog 46 = some 6 := by kernel_rfl
set_option maxRecDepth 10000 in
set_option maxHeartbeats 2000000 in
theorem top_some (bl ol len cap : Nat) (hlen : len ≤ cap) (A : Int → ActV) (hA : ∀ z : Int, 0 ≤ z → z < len → (A z).ok) : Spec Try.prog 4 [.slice (some ⟨bl, ol, none⟩) len cap]
    [.ro bl ol (8 * len) (encActs A)]
    (fun v H1 => v = .bool true ∧ H1 = []) := by
  refine Spec.intro Try.func4 rfl rfl ?_
  intro W
  refine XC.seq ?_
  refine XC.region ?_
  refine XO.v (V.assign rfl) rfl ?_
  refine XO.nil ?_
  refine XE.next ?_
  refine XC.keep [(0, _)] (Sub.cons rfl (Sub.nil _)) ?_
  refine XC.seq ?_
  refine XC.region ?_
  refine XO.call rfl (t_New) .nil cl_11 rfl ?_
  rintro _ _ ⟨bs, rfl, rfl⟩
  refine XO.v (V.assign rfl) rfl ?_
  refine XO.nil ?_
  refine XE.next ?_
  refine XC.keep [(0, _), (3, _)] (Sub.cons rfl (Sub.cons rfl (Sub.nil _))) ?_
  refine XC.seq ?_
  refine XC.seq ?_
  refine XC.region ?_
  refine XO.v (V.move rfl) rfl ?_
  refine XO.v (V.ptrNilP rfl Try.underlying25 rfl) rfl ?_
  refine XO.nil ?_
  refine XE.next ?_
  refine XC.keep [(0, _), (3, _), (15, _)] (Sub.cons rfl (Sub.cons rfl (Sub.cons rfl (Sub.nil _)))) ?_
  refine XC.condF rfl rfl ?_
  refine XC.skip ?_
  refine XE.next ?_
  refine XC.keep [(0, _), (3, _)] (Sub.cons rfl (Sub.cons rfl (Sub.nil _))) ?_
  refine XC.seq ?_
  refine XC.region ?_
  refine XO.v (V.move rfl) rfl ?_
  refine XO.call rfl (t_Find _ _ _ _ _) (.cons .here .nil) cl_23 rfl ?_
  rintro _ _ ⟨rfl, rfl⟩
  refine XO.v (V.move rfl) rfl ?_
  refine XO.v (V.extract rfl rfl) rfl ?_
  refine XO.v (V.extract rfl rfl) rfl ?_
  refine XO.v (V.assign rfl) rfl ?_
  refine XO.v (V.assign rfl) rfl ?_
  refine XO.nil ?_
  refine XE.next ?_
  refine XC.keep [(0, _), (3, _), (5, _)] (Sub.cons rfl (Sub.cons rfl (Sub.cons rfl (Sub.nil _)))) ?_
  refine XC.seq ?_
  refine XC.seq ?_
  refine XC.region ?_
  refine XO.v (V.move rfl) rfl ?_
  refine XO.call rfl (number_any _) .nil cl_24 rfl ?_
  rintro _ _ ⟨rfl, rfl⟩
  refine XO.v (V.cmp rfl rfl rfl) rfl ?_
  refine XO.nil ?_
  refine XE.next ?_
  refine XC.keep [(0, _), (3, _), (23, _)] (Sub.cons rfl (Sub.cons rfl (Sub.cons rfl (Sub.nil _)))) ?_
  refine XC.condFP rfl (by decide +kernel) ?_
  refine XC.skip ?_
  refine XE.next ?_
  refine XC.keep [(0, _), (3, _)] (Sub.cons rfl (Sub.cons rfl (Sub.nil _))) ?_
  refine XC.seq ?_
  refine XC.seq ?_
  refine XC.region ?_
  refine XO.v (V.move rfl) rfl ?_
  refine XO.call rfl (light_any _ _ _ _) .nil cl_10 rfl ?_
  rintro _ _ ⟨rfl, rfl⟩
  refine XO.v (V.notP rfl) rfl ?_
  refine XO.nil ?_
  refine XE.next ?_
  refine XC.keep [(0, _), (3, _), (26, _)] (Sub.cons rfl (Sub.cons rfl (Sub.cons rfl (Sub.nil _)))) ?_
  refine XC.condP rfl (fun h1 => ?_) (fun h1 => ?_)
  · skip
    refine XC.seq ?_
    refine XC.region ?_
    refine XO.v (V.assign rfl) rfl ?_
    refine XO.nil ?_
    refine XE.next ?_
    refine XC.keep [(2, _)] (Sub.cons rfl (Sub.nil _)) ?_
    refine XC.ret ?_
    refine XE.thenRet ?_
    refine XE.ret1 rfl rfl (post_of .nil rfl ?_)
    exact ⟨rfl, rfl⟩
  · skip
    refine XC.skip ?_
    refine XE.next ?_
    refine XC.keep [(0, _), (3, _)] (Sub.cons rfl (Sub.cons rfl (Sub.nil _))) ?_
    refine XC.seq ?_
    refine XC.region ?_
    refine XO.allocZ (z := .agg (arrV (fun _ => 0) 6)) (m := 6) (C := encI (fun _ => 0) 6) (by kernel_rfl) (arrV_size (fun _ => 0) 6) (encI.box (fun _ => 0) 6) rfl ?_
    intro bp
    refine XO.nil ?_
    refine XE.next ?_
    refine XC.keep [(0, _), (3, _), (6, _)] (Sub.cons rfl (Sub.cons rfl (Sub.cons rfl (Sub.nil _)))) ?_
    refine XC.seq ?_
    refine XC.region ?_
    refine XO.v (V.indexArr rfl rfl ar_46 (by omega)) rfl ?_
    refine XO.store rfl rfl .here (encI.st _ _ _ _ (by omega)) rfl sz_3_1 ?_
    refine XO.nil ?_
    refine XE.next ?_
    refine XC.keep [(0, _), (3, _), (6, _)] (Sub.cons rfl (Sub.cons rfl (Sub.cons rfl (Sub.nil _)))) ?_
    refine XC.seq ?_
    refine XC.seq ?_
    refine XC.region ?_
    refine XO.v (V.assign rfl) rfl ?_
    refine XO.nil ?_
    refine XE.next ?_
    refine XC.keep [(0, _), (3, _), (6, _), (7, _)] (Sub.cons rfl (Sub.cons rfl (Sub.cons rfl (Sub.cons rfl (Sub.nil _))))) ?_
    refine XC.block ?_
    refine XC.loop (σ := SS × (Int → Nat) × (Int → Int) × Int) (fun x => (len - x.2.2.2).toNat) (fun x => TS x.1 x.2.1 x.2.2.1 ∧ 0 ≤ x.2.2.2 ∧ x.2.2.2 ≤ len) (fun x => [(7, .int .i64 x.2.2.2), (0, .slice (some ⟨bl, ol, none⟩) len cap), (3, ptr bs 0 0), (6, ptr bp 0 0)]) (fun x => XM W (foot [.ro bl ol (8 * len) (encActs A)]) [.cells bs 0 158 (encT x.1), .cells bp 0 6 (encI x.2.2.1 6), .ro bl ol (8 * len) (encActs A)]) ((SS.init, (fun _ => 1), fset (fun _ => 0) 0 (-1), 0)) ?_ (Sub.cons rfl (Sub.cons rfl (Sub.cons rfl (Sub.cons rfl (Sub.nil _))))) (fun _ hw => XM.pick (.cons (.there .here) (.cons .here (.cons .here .nil))) hw) ?_
    · skip
      exact ⟨TS.init, by simp, by simp⟩
    intro x hx
    obtain ⟨hx, hx0, hx1⟩ := hx
    refine XC.seq ?_
    refine XC.seq ?_
    refine XC.region ?_
    refine XO.v (V.move rfl) rfl ?_
    refine XO.v (V.move rfl) rfl ?_
    refine XO.v (V.lenSl rfl Try.underlying22) rfl ?_
    refine XO.v (V.cmp rfl rfl rfl) rfl ?_
    refine XO.nil ?_
    refine XE.next ?_
    refine XC.keep [(0, _), (3, _), (6, _), (7, _), (31, _)] (Sub.cons rfl (Sub.cons rfl (Sub.cons rfl (Sub.cons rfl (Sub.cons rfl (Sub.nil _)))))) ?_
    refine XC.condP rfl (fun h2 => ?_) (fun h2 => ?_)
    · skip
      refine XC.skip ?_
      refine XE.next ?_
      refine XC.keep [(0, _), (3, _), (6, _), (7, _)] (Sub.cons rfl (Sub.cons rfl (Sub.cons rfl (Sub.cons rfl (Sub.nil _))))) ?_
      refine XC.seq ?_
      refine XC.block ?_
      refine XC.seq ?_
      refine XC.region ?_
      refine XO.v (V.move rfl) rfl ?_
      refine XO.v (V.move rfl) rfl ?_
      refine XO.v (V.indexSl rfl rfl sl_22 (by omega)) rfl ?_
      refine XO.v (V.loadAggRo rfl (inXM (.there (.there .here))) (acts_load A len _ (by omega)) ag_31 sz_31_8) rfl ?_
      refine XO.allocZ (z := .agg actZero) (m := 8) (C := cellsOf actZero) (by kernel_rfl) rfl (fun _ _ => rfl) rfl ?_
      intro ba
      refine XO.storeAgg rfl rfl .here (acts_store _) ⟨rfl, rfl⟩ sz_31_8 ?_
      refine XO.nil ?_
      refine XE.next ?_
      refine XC.keep [(0, _), (3, _), (6, _), (7, _), (8, _)] (Sub.cons rfl (Sub.cons rfl (Sub.cons rfl (Sub.cons rfl (Sub.cons rfl (Sub.nil _)))))) ?_
      refine XC.cutG (σ := SS × (Int → Nat) × (Int → Int)) (fun y => TS y.1 y.2.1 y.2.2) (fun y => [(0, .slice (some ⟨bl, ol, none⟩) len cap), (3, ptr bs 0 0), (6, ptr bp 0 0), (7, .int .i64 x.2.2.2)]) (fun y => XM W (foot [.ro bl ol (8 * len) (encActs A)]) [.cells bs 0 158 (encT y.1), .cells bp 0 6 (encI y.2.2 6), .ro bl ol (8 * len) (encActs A)]) ?_ ?_
      · skip
        refine XC.seq ?_
        refine XC.region ?_
        refine XO.v (V.fieldAddr rfl fo_31_0) rfl ?_
        refine XO.v (V.load rfl (inXM .here) (encAct.ld_Kind _) sc_9) rfl ?_
        refine XO.nil ?_
        refine XE.next ?_
        refine XC.keep [(0, _), (3, _), (6, _), (7, _), (8, _), (39, _)] (Sub.cons rfl (Sub.cons rfl (Sub.cons rfl (Sub.cons rfl (Sub.cons rfl (Sub.cons rfl (Sub.nil _))))))) ?_
        refine XC.block ?_
        refine XC.seq ?_
        refine XC.region ?_
        refine XO.v (V.strCmp rfl rfl rfl) rfl ?_
        refine XO.v (V.assign rfl) rfl ?_
        refine XO.nil ?_
        refine XE.next ?_
        refine XC.keep [(0, _), (3, _), (6, _), (7, _), (8, _), (39, _), (44, _)] (Sub.cons rfl (Sub.cons rfl (Sub.cons rfl (Sub.cons rfl (Sub.cons rfl (Sub.cons rfl (Sub.cons rfl (Sub.nil _)))))))) ?_
        refine XC.condP rfl (fun h3 => ?_) (fun h3 => ?_)
        · skip
          refine XC.seq ?_
          refine XC.region ?_
          refine XO.v (V.move rfl) rfl ?_
          refine XO.v (V.fieldAddr rfl fo_31_1) rfl ?_
          refine XO.v (V.load rfl (inXM .here) (encAct.ld_A _) sc_3) rfl ?_
          refine XO.call rfl (t_Add _ _ _ x.2.1 hx.inv.D hx.inv.A _) (.cons (.there .here) .nil) cl_13 rfl ?_
          rintro _ _ ⟨rfl, rfl⟩
          refine XO.v (V.move rfl) rfl ?_
          refine XO.v (V.extract rfl rfl) rfl ?_
          refine XO.v (V.extract rfl rfl) rfl ?_
          refine XO.v (V.assign rfl) rfl ?_
          refine XO.v (V.assign rfl) rfl ?_
          refine XO.nil ?_
          refine XE.next ?_
          refine XC.keep [(0, _), (3, _), (6, _), (7, _), (8, _), (9, _), (10, _)] (Sub.cons rfl (Sub.cons rfl (Sub.cons rfl (Sub.cons rfl (Sub.cons rfl (Sub.cons rfl (Sub.cons rfl (Sub.nil _)))))))) ?_
          refine XC.seq ?_
          refine XC.region ?_
          refine XO.v (V.move rfl) rfl ?_
          refine XO.v (V.errNil rfl Try.underlying33 rfl) rfl ?_
          refine XO.nil ?_
          refine XE.next ?_
          refine XC.keep [(0, _), (3, _), (6, _), (7, _), (8, _), (9, _), (54, _)] (Sub.cons rfl (Sub.cons rfl (Sub.cons rfl (Sub.cons rfl (Sub.cons rfl (Sub.cons rfl (Sub.cons rfl (Sub.nil _)))))))) ?_
          refine XC.condP rfl (fun h4 => ?_) (fun h4 => ?_)
          · skip
            obtain ⟨n1, n5, hT⟩ := hx.add h4
            refine XC.seq ?_
            refine XC.seq ?_
            refine XC.region ?_
            refine XO.v (V.move rfl) rfl ?_
            refine XO.v (V.cmp rfl rfl rfl) rfl ?_
            refine XO.v (V.move rfl) rfl ?_
            refine XO.splitF (d := 57) rfl (by omega) ?_
            refine XO.guardRun rfl rfl rfl ?_
            refine XO.v (V.move rfl) rfl ?_
            refine XO.guardRun rfl rfl rfl ?_
            refine XO.v (V.cmp rfl rfl rfl) rfl ?_
            refine XO.v (V.pick rfl rfl rfl rfl) rfl ?_
            refine XO.nil ?_
            refine XE.next ?_
            refine XC.keep [(0, _), (3, _), (6, _), (7, _), (8, _), (9, _), (60, _)] (Sub.cons rfl (Sub.cons rfl (Sub.cons rfl (Sub.cons rfl (Sub.cons rfl (Sub.cons rfl (Sub.cons rfl (Sub.nil _)))))))) ?_
            refine XC.condFP rfl (by omega) ?_
            refine XC.skip ?_
            refine XE.next ?_
            refine XC.keep [(0, _), (3, _), (6, _), (7, _), (8, _), (9, _)] (Sub.cons rfl (Sub.cons rfl (Sub.cons rfl (Sub.cons rfl (Sub.cons rfl (Sub.cons rfl (Sub.nil _))))))) ?_
            refine XC.region ?_
            refine XO.v (V.move rfl) rfl ?_
            refine XO.v (V.fieldAddr rfl fo_31_1) rfl ?_
            refine XO.v (V.load rfl (inXM (.there .here)) (encAct.ld_A _) sc_3) rfl ?_
            refine XO.v (V.indexArr rfl rfl ar_46 (by omega)) rfl ?_
            refine XO.store rfl rfl (.there (.there .here)) (encI.st _ _ _ _ (by omega)) rfl sz_3_1 ?_
            refine XO.nil ?_
            refine XE.blockNormal ?_
            refine XE.meetG (((x.1.add x.2.1 (A x.2.2.2).a).2.2, x.1.depA x.2.1 (A x.2.2.2).a, fset x.2.2.1 (x.1.add x.2.1 (A x.2.2.2).a).1 (A x.2.2.2).a)) ?_ (Sub.cons rfl (Sub.cons rfl (Sub.cons rfl (Sub.cons rfl (Sub.nil _))))) (fun _ hw => XM.pick (.cons .here (.cons (.there .here) (.cons (.there .here) .nil))) hw)
            · exact hT
          · skip
            refine XC.skip ?_
            refine XE.blockNormal ?_
            refine XE.meetG (((x.1.add x.2.1 (A x.2.2.2).a).2.2, x.1.depA x.2.1 (A x.2.2.2).a, x.2.2.1)) ?_ (Sub.cons rfl (Sub.cons rfl (Sub.cons rfl (Sub.cons rfl (Sub.nil _))))) (fun _ hw => XM.pick (.cons .here (.cons (.there .here) (.cons (.there .here) .nil))) hw)
            · exact hx.add_err (by assumption)
        · skip
          refine XC.seq ?_
          refine XC.region ?_
          refine XO.v (V.strCmp rfl rfl rfl) rfl ?_
          refine XO.v (V.assign rfl) rfl ?_
          refine XO.nil ?_
          refine XE.next ?_
          refine XC.keep [(0, _), (3, _), (6, _), (7, _), (8, _), (39, _), (65, _)] (Sub.cons rfl (Sub.cons rfl (Sub.cons rfl (Sub.cons rfl (Sub.cons rfl (Sub.cons rfl (Sub.cons rfl (Sub.nil _)))))))) ?_
          refine XC.condP rfl (fun h6 => ?_) (fun h6 => ?_)
          · skip
            refine XC.region ?_
            refine XO.v (V.move rfl) rfl ?_
            refine XO.v (V.fieldAddr rfl fo_31_1) rfl ?_
            refine XO.v (V.load rfl (inXM .here) (encAct.ld_A _) sc_3) rfl ?_
            refine XO.call rfl (t_Drop _ _ _ _) (.cons (.there .here) .nil) cl_16 rfl ?_
            rintro _ _ ⟨rfl, rfl⟩
            refine XO.nil ?_
            refine XE.blockNormal ?_
            refine XE.meetG (((x.1.drop (A x.2.2.2).a).2, x.2.1, x.2.2.1)) ?_ (Sub.cons rfl (Sub.cons rfl (Sub.cons rfl (Sub.cons rfl (Sub.nil _))))) (fun _ hw => XM.pick (.cons .here (.cons (.there .here) (.cons (.there .here) .nil))) hw)
            · exact hx.drop _
          · skip
            refine XC.seq ?_
            refine XC.region ?_
            refine XO.v (V.strCmp rfl rfl rfl) rfl ?_
            refine XO.v (V.assign rfl) rfl ?_
            refine XO.nil ?_
            refine XE.next ?_
            refine XC.keep [(0, _), (3, _), (6, _), (7, _), (8, _), (71, _)] (Sub.cons rfl (Sub.cons rfl (Sub.cons rfl (Sub.cons rfl (Sub.cons rfl (Sub.cons rfl (Sub.nil _))))))) ?_
            refine XC.condP rfl (fun h7 => ?_) (fun h7 => ?_)
            · skip
              refine XC.region ?_
              refine XO.v (V.move rfl) rfl ?_
              refine XO.v (V.fieldAddr rfl fo_31_1) rfl ?_
              refine XO.v (V.load rfl (inXM .here) (encAct.ld_A _) sc_3) rfl ?_
              refine XO.v (V.fieldAddr rfl fo_31_2) rfl ?_
              refine XO.v (V.load rfl (inXM .here) (encAct.ld_B _) sc_3) rfl ?_
              refine XO.call rfl (t_Enter _ _ _ x.2.1 hx.inv.D _ _) (.cons (.there .here) .nil) cl_18 rfl ?_
              rintro _ _ ⟨rfl, rfl⟩
              refine XO.v (V.move rfl) rfl ?_
              refine XO.v (V.extract rfl rfl) rfl ?_
              refine XO.v (V.extract rfl rfl) rfl ?_
              refine XO.nil ?_
              refine XE.blockNormal ?_
              refine XE.meetG (((x.1.enter x.2.1 (A x.2.2.2).a (A x.2.2.2).b).2.2, x.2.1, x.2.2.1)) ?_ (Sub.cons rfl (Sub.cons rfl (Sub.cons rfl (Sub.cons rfl (Sub.nil _))))) (fun _ hw => XM.pick (.cons .here (.cons (.there .here) (.cons (.there .here) .nil))) hw)
              · exact hx.enter _ _
            · skip
              refine XC.region ?_
              refine XO.v (V.move rfl) rfl ?_
              refine XO.v (V.fieldAddr rfl fo_31_2) rfl ?_
              refine XO.v (V.load rfl (inXM .here) (encAct.ld_B _) sc_3) rfl ?_
              refine XO.call rfl (t_Leave _ _ _ x.2.1 hx.inv.D _ (fun _ _ c => ⟨(hx.inv.loc _).2, hx.inv.at_ _ (by assumption) (by assumption) c⟩) (fun c n q e => ⟨(hx.inv.mem n q _ c e).2.2.2.2, by have := (hx.inv.mem n q _ c e).2; omega⟩)) (.cons (.there .here) .nil) cl_20 rfl ?_
              rintro _ _ ⟨rfl, rfl⟩
              refine XO.nil ?_
              refine XE.blockNormal ?_
              refine XE.meetG (((x.1.leave (A x.2.2.2).b).2, x.2.1, x.2.2.1)) ?_ (Sub.cons rfl (Sub.cons rfl (Sub.cons rfl (Sub.cons rfl (Sub.nil _))))) (fun _ hw => XM.pick (.cons .here (.cons (.there .here) (.cons (.there .here) .nil))) hw)
              · exact hx.leave _
      intro y hy
      refine XC.seq ?_
      refine XC.region ?_
      refine XO.v (V.assign rfl) rfl ?_
      refine XO.nil ?_
      refine XE.next ?_
      refine XC.keep [(0, _), (3, _), (6, _), (7, _), (11, _)] (Sub.cons rfl (Sub.cons rfl (Sub.cons rfl (Sub.cons rfl (Sub.cons rfl (Sub.nil _)))))) ?_
      refine XC.block ?_
      refine XC.loop (σ := Int) (fun k => (20 - k).toNat) (fun k => 0 ≤ k ∧ k ≤ 20) (fun k => [(11, .int .i64 k), (0, .slice (some ⟨bl, ol, none⟩) len cap), (3, ptr bs 0 0), (6, ptr bp 0 0), (7, .int .i64 x.2.2.2)]) (fun k => XM W (foot [.ro bl ol (8 * len) (encActs A)]) [.cells bs 0 158 (encT y.1), .cells bp 0 6 (encI y.2.2 6), .ro bl ol (8 * len) (encActs A)]) (0) ?_ (Sub.cons rfl (Sub.cons rfl (Sub.cons rfl (Sub.cons rfl (Sub.cons rfl (Sub.nil _)))))) (fun _ hw => XM.pick (.cons .here (.cons .here (.cons .here .nil))) hw) ?_
      · skip
        omega
      intro k hk
      refine XC.seq ?_
      refine XC.seq ?_
      refine XC.region ?_
      refine XO.v (V.move rfl) rfl ?_
      refine XO.v (V.cmp rfl rfl rfl) rfl ?_
      refine XO.nil ?_
      refine XE.next ?_
      refine XC.keep [(0, _), (3, _), (6, _), (7, _), (11, _), (83, _)] (Sub.cons rfl (Sub.cons rfl (Sub.cons rfl (Sub.cons rfl (Sub.cons rfl (Sub.cons rfl (Sub.nil _))))))) ?_
      refine XC.condP rfl (fun h8 => ?_) (fun h8 => ?_)
      · skip
        refine XC.skip ?_
        refine XE.next ?_
        refine XC.keep [(0, _), (3, _), (6, _), (7, _), (11, _)] (Sub.cons rfl (Sub.cons rfl (Sub.cons rfl (Sub.cons rfl (Sub.cons rfl (Sub.nil _)))))) ?_
        refine XC.seq ?_
        refine XC.block ?_
        refine XC.seq ?_
        refine XC.region ?_
        refine XO.v (V.move rfl) rfl ?_
        refine XO.v (V.loadAgg rfl (inXM (.there .here)) (encI.agg _ _) ag_46 sz_46_6) rfl ?_
        refine XO.v (V.move rfl) rfl ?_
        refine XO.call rfl (placed_any _ y.1 y.2.1 hy.inv y.2.2 hy.par k (by omega)) (.cons .here .nil) cl_25 rfl ?_
        rintro _ _ ⟨rfl, rfl⟩
        refine XO.v (V.assign rfl) rfl ?_
        refine XO.nil ?_
        refine XE.next ?_
        refine XC.keep [(0, _), (3, _), (6, _), (7, _), (11, _), (12, _)] (Sub.cons rfl (Sub.cons rfl (Sub.cons rfl (Sub.cons rfl (Sub.cons rfl (Sub.cons rfl (Sub.nil _))))))) ?_
        refine XC.seq ?_
        refine XC.region ?_
        refine XO.v (V.move rfl) rfl ?_
        refine XO.v (V.not rfl) rfl ?_
        refine XO.nil ?_
        refine XE.next ?_
        refine XC.keep [(0, _), (3, _), (6, _), (7, _), (11, _), (91, _)] (Sub.cons rfl (Sub.cons rfl (Sub.cons rfl (Sub.cons rfl (Sub.cons rfl (Sub.cons rfl (Sub.nil _))))))) ?_
        refine XC.condF rfl rfl ?_
        refine XC.skip ?_
        refine XE.blockNormal ?_
        refine XE.next ?_
        refine XC.keep [(0, _), (3, _), (6, _), (7, _), (11, _)] (Sub.cons rfl (Sub.cons rfl (Sub.cons rfl (Sub.cons rfl (Sub.cons rfl (Sub.nil _)))))) ?_
        refine XC.region ?_
        refine XO.v (V.move rfl) rfl ?_
        refine XO.v (V.add rfl rfl _ (IntWalk.i64_in _ (by omega))) rfl ?_
        refine XO.v (V.assign rfl) rfl ?_
        refine XO.nil ?_
        refine XE.again (k + 1) ?_ ?_ (Sub.cons rfl (Sub.cons rfl (Sub.cons rfl (Sub.cons rfl (Sub.cons rfl (Sub.nil _)))))) (fun _ hw => XM.pick (.cons .here (.cons .here (.cons .here .nil))) hw)
        · skip
          (first | omega | (simp; done) | (simp; omega))
        · skip
          (first | omega | (simp; done) | (simp; omega))
      · skip
        refine XC.exit ?_
        refine XE.thenExit ?_
        refine XE.thenExit ?_
        refine XE.blockExit ?_
        refine XE.blockNormal ?_
        refine XE.next ?_
        refine XC.keep [(0, _), (3, _), (6, _), (7, _)] (Sub.cons rfl (Sub.cons rfl (Sub.cons rfl (Sub.cons rfl (Sub.nil _))))) ?_
        refine XC.region ?_
        refine XO.v (V.move rfl) rfl ?_
        refine XO.v (V.add rfl rfl _ (IntWalk.i64_in _ (by omega))) rfl ?_
        refine XO.v (V.assign rfl) rfl ?_
        refine XO.nil ?_
        refine XE.again ((y.1, y.2.1, y.2.2, x.2.2.2 + 1)) ?_ ?_ (Sub.cons rfl (Sub.cons rfl (Sub.cons rfl (Sub.cons rfl (Sub.nil _))))) (fun _ hw => XM.pick (.cons .here (.cons .here (.cons .here .nil))) hw)
        · skip
          (simp; omega)
        · skip
          exact ⟨hy, by simp; omega, by simp; omega⟩
    · skip
      refine XC.exit ?_
      refine XE.thenExit ?_
      refine XE.thenExit ?_
      refine XE.blockExit ?_
      refine XE.next ?_
      refine XC.keep [] (Sub.nil _) ?_
      refine XC.seq ?_
      refine XC.region ?_
      refine XO.v (V.assign rfl) rfl ?_
      refine XO.nil ?_
      refine XE.next ?_
      refine XC.keep [(2, _)] (Sub.cons rfl (Sub.nil _)) ?_
      refine XC.ret ?_
      refine XE.ret1 rfl rfl (post_of .nil rfl ?_)
      exact ⟨rfl, rfl⟩
end Go.X
