import Derived.Test.YtojlnbjpiccliaaDoorBT
import Derived.Test.YtojlnbjpiccliaaDoorBL1
namespace Go.X
open Go Go.Proofs
theorem ag_31 : aggT Tryd.prog 31 = true := by kernel_rfl
theorem cl_10 : callable Tryd.prog 10 = true := by kernel_rfl
theorem cl_12 : callable Tryd.prog 12 = true := by kernel_rfl
theorem cl_13 : callable Tryd.prog 13 = true := by kernel_rfl
theorem cl_14 : callable Tryd.prog 14 = true := by kernel_rfl
theorem cl_5 : callable Tryd.prog 5 = true := by kernel_rfl
theorem cl_6 : callable Tryd.prog 6 = true := by kernel_rfl
theorem cl_8 : callable Tryd.prog 8 = true := by kernel_rfl
theorem fo_31_0 : fieldOff Tryd.prog 31 0 = some 0 := by kernel_rfl
theorem fo_31_1 : fieldOff Tryd.prog 31 1 = some 1 := by kernel_rfl
theorem sc_9 : scal Tryd.prog 9 = true := by kernel_rfl
theorem sl_22 : sliceOf Tryd.prog 22 = some (31, 8) := by kernel_rfl
theorem sz_31_8 : szOf Tryd.prog 31 = some 8 := by kernel_rfl
set_option maxRecDepth 10000 in
set_option maxHeartbeats 4000000 in
theorem top_some (bl ol len cap : Nat) (hlen : len ≤ cap) (A : Int → ActV) (hA : ∀ z : Int, 0 ≤ z → z < len → (A z).ok) : Spec Tryd.prog 4 [.slice (some ⟨bl, ol, none⟩) len cap]
    [.ro 0 0 64 tab64, .ro bl ol (8 * len) (encActs A)]
    (fun v H1 => v = .bool true ∧ H1 = []) := by
  refine Spec.intro Tryd.func4 rfl rfl ?_
  intro W
  refine XC.seq ?_
  refine XC.region ?_
  refine XO.v (V.assign rfl) rfl ?_
  refine XO.nil ?_
  refine XE.next ?_
  refine XC.keep [(0, _)] (Sub.cons rfl (Sub.nil _)) ?_
  refine XC.seq ?_
  refine XC.region ?_
  refine XO.call rfl (p_New) .nil cl_7 rfl ?_
  rintro _ _ ⟨bs, rfl, rfl⟩
  refine XO.v (V.assign rfl) rfl ?_
  refine XO.nil ?_
  refine XE.next ?_
  refine XC.keep [(0, _), (3, _)] (Sub.cons rfl (Sub.cons rfl (Sub.nil _))) ?_
  refine XC.seq ?_
  refine XC.seq ?_
  refine XC.region ?_
  refine XO.v (V.move rfl) rfl ?_
  refine XO.v (V.ptrNilP rfl Tryd.underlying25 rfl) rfl ?_
  refine XO.v (V.move rfl) rfl ?_
  refine XO.guardRun rfl rfl rfl ?_
  refine XO.v (V.move rfl) rfl ?_
  refine XO.guardRun rfl rfl rfl ?_
  refine XO.call rfl (p_Left _ _ _ BB.Inv.init) (.cons .here .nil) cl_15 rfl ?_
  rintro _ _ ⟨rfl, rfl⟩
  refine XO.guardRun rfl rfl rfl ?_
  refine XO.v (V.cmp rfl rfl rfl) rfl ?_
  refine XO.v (V.pick rfl rfl rfl rfl) rfl ?_
  refine XO.nil ?_
  refine XE.next ?_
  refine XC.keep [(0, _), (3, _), (28, _)] (Sub.cons rfl (Sub.cons rfl (Sub.cons rfl (Sub.nil _)))) ?_
  refine XC.condFP rfl (by decide +kernel) ?_
  refine XC.skip ?_
  refine XE.next ?_
  refine XC.keep [(0, _), (3, _)] (Sub.cons rfl (Sub.cons rfl (Sub.nil _))) ?_
  refine XC.seq ?_
  refine XC.seq ?_
  refine XC.region ?_
  refine XO.v (V.move rfl) rfl ?_
  refine XO.call rfl (light_any _ _ _ _) .nil cl_6 rfl ?_
  rintro _ _ ⟨rfl, rfl⟩
  refine XO.v (V.notP rfl) rfl ?_
  refine XO.nil ?_
  refine XE.next ?_
  refine XC.keep [(0, _), (3, _), (31, _)] (Sub.cons rfl (Sub.cons rfl (Sub.cons rfl (Sub.nil _)))) ?_
  refine XC.condP rfl (fun h1 => ?_) (fun h1 => ?_)
  · skip
    refine XC.seq ?_
    refine XC.region ?_
    refine XO.v (V.assign rfl) rfl ?_
    refine XO.nil ?_
    refine XE.next ?_
    refine XC.keep [(2, _)] (Sub.cons rfl (Sub.nil _)) ?_
    refine XC.ret ?_
    refine XE.thenRet ?_
    refine XE.ret1 rfl rfl (post_of .nil rfl ?_)
    first | exact ⟨rfl, rfl⟩ | exact ⟨congrArg Value.bool (by rw [hw9]; decide +kernel), rfl⟩
  · skip
    refine XC.skip ?_
    refine XE.next ?_
    refine XC.keep [(0, _), (3, _)] (Sub.cons rfl (Sub.cons rfl (Sub.nil _))) ?_
    refine XC.seq ?_
    refine XC.region ?_
    refine XO.allocZ (z := .agg (arrV (fun _ => 0) 64)) (m := 64) (C := encI BB.init.usedOf 64) (by kernel_rfl) (arrV_size (fun _ => 0) 64) (by rw [show BB.init.usedOf = fun _ => 0 from rfl]; exact encI.box (fun _ => 0) 64) rfl ?_
    intro bt
    refine XO.nil ?_
    refine XE.next ?_
    refine XC.keep [(0, _), (3, _), (4, _)] (Sub.cons rfl (Sub.cons rfl (Sub.cons rfl (Sub.nil _)))) ?_
    refine XC.seq ?_
    refine XC.seq ?_
    refine XC.region ?_
    refine XO.v (V.assign rfl) rfl ?_
    refine XO.nil ?_
    refine XE.next ?_
    refine XC.keep [(0, _), (3, _), (4, _), (5, _)] (Sub.cons rfl (Sub.cons rfl (Sub.cons rfl (Sub.cons rfl (Sub.nil _))))) ?_
    refine XC.block ?_
    refine XC.loop (σ := BB × Int) (fun x => (len - x.2).toNat) (fun x => x.1.Full ∧ 0 ≤ x.2 ∧ x.2 ≤ len) (fun x => [(5, .int .i64 x.2), (0, .slice (some ⟨bl, ol, none⟩) len cap), (3, ptr bs 0 0), (4, ptr bt 0 0)]) (fun x => XM W (foot [.ro 0 0 64 tab64, .ro bl ol (8 * len) (encActs A)]) [.cells bs 0 71 (encP x.1.pool), .cells bt 0 64 (encI x.1.usedOf 64), .ro 0 0 64 tab64, .ro bl ol (8 * len) (encActs A)]) ((BB.init, 0)) ?_ (Sub.cons rfl (Sub.cons rfl (Sub.cons rfl (Sub.cons rfl (Sub.nil _))))) (fun _ hw => XM.pick (.cons (.there .here) (.cons .here (.cons .here (.cons .here .nil)))) hw) ?_
    · skip
      exact ⟨BB.Full.init, by simp, by simp⟩
    intro x hx
    obtain ⟨hx, hx0, hx1⟩ := hx
    refine XC.seq ?_
    refine XC.seq ?_
    refine XC.region ?_
    refine XO.v (V.move rfl) rfl ?_
    refine XO.v (V.move rfl) rfl ?_
    refine XO.v (V.lenSl rfl Tryd.underlying22) rfl ?_
    refine XO.v (V.cmp rfl rfl rfl) rfl ?_
    refine XO.nil ?_
    refine XE.next ?_
    refine XC.keep [(0, _), (3, _), (4, _), (5, _), (35, _)] (Sub.cons rfl (Sub.cons rfl (Sub.cons rfl (Sub.cons rfl (Sub.cons rfl (Sub.nil _)))))) ?_
    refine XC.condP rfl (fun h2 => ?_) (fun h2 => ?_)
    · skip
      refine XC.skip ?_
      refine XE.next ?_
      refine XC.keep [(0, _), (3, _), (4, _), (5, _)] (Sub.cons rfl (Sub.cons rfl (Sub.cons rfl (Sub.cons rfl (Sub.nil _))))) ?_
      refine XC.seq ?_
      refine XC.block ?_
      refine XC.seq ?_
      refine XC.region ?_
      refine XO.v (V.move rfl) rfl ?_
      refine XO.v (V.move rfl) rfl ?_
      refine XO.v (V.indexSl rfl rfl sl_22 (by omega)) rfl ?_
      refine XO.v (V.loadAggRo rfl (inXM (.there (.there (.there .here)))) (acts_load A len _ (by omega)) ag_31 sz_31_8) rfl ?_
      refine XO.allocZ (z := .agg actZero) (m := 8) (C := cellsOf actZero) (by kernel_rfl) rfl (fun _ _ => rfl) rfl ?_
      intro ba
      refine XO.storeAgg rfl rfl .here (acts_store _) ⟨rfl, rfl⟩ sz_31_8 ?_
      refine XO.nil ?_
      refine XE.next ?_
      refine XC.keep [(0, _), (3, _), (4, _), (5, _), (6, _)] (Sub.cons rfl (Sub.cons rfl (Sub.cons rfl (Sub.cons rfl (Sub.cons rfl (Sub.nil _)))))) ?_
      refine XC.cutG (σ := BB) (fun y => y.Full) (fun y => [(0, .slice (some ⟨bl, ol, none⟩) len cap), (3, ptr bs 0 0), (4, ptr bt 0 0), (5, .int .i64 x.2)]) (fun y => XM W (foot [.ro 0 0 64 tab64, .ro bl ol (8 * len) (encActs A)]) [.cells bs 0 71 (encP y.pool), .cells bt 0 64 (encI y.usedOf 64), .ro 0 0 64 tab64, .ro bl ol (8 * len) (encActs A)]) ?_ ?_
      · skip
        refine XC.seq ?_
        refine XC.region ?_
        refine XO.v (V.fieldAddr rfl fo_31_0) rfl ?_
        refine XO.v (V.load rfl (inXM .here) (encAct.ld_Kind _) sc_9) rfl ?_
        refine XO.v (V.strCmp rfl rfl rfl) rfl ?_
        refine XO.nil ?_
        refine XE.next ?_
        refine XC.keep [(0, _), (3, _), (4, _), (5, _), (6, _), (44, _)] (Sub.cons rfl (Sub.cons rfl (Sub.cons rfl (Sub.cons rfl (Sub.cons rfl (Sub.cons rfl (Sub.nil _))))))) ?_
        refine XC.condP rfl (fun h3 => ?_) (fun h3 => ?_)
        · skip
          refine XC.seq ?_
          refine XC.region ?_
          refine XO.v (V.move rfl) rfl ?_
          refine XO.v (V.fieldAddr rfl fo_31_1) rfl ?_
          refine XO.v (V.load rfl (inXM .here) (encAct.ld_A _) sc_3) rfl ?_
          refine XO.callR 1 rfl (p_Take _ _ _ hx.inv _) (.cons (.there .here) (.cons (.there (.there .here)) .nil)) rfl cl_9 rfl ?_
          rintro _ _ ⟨rfl, rfl⟩
          refine XO.v (V.move rfl) rfl ?_
          refine XO.v (V.extract rfl rfl) rfl ?_
          refine XO.v (V.extract rfl rfl) rfl ?_
          refine XO.v (V.assign rfl) rfl ?_
          refine XO.v (V.assign rfl) rfl ?_
          refine XO.nil ?_
          refine XE.next ?_
          refine XC.keep [(0, _), (3, _), (4, _), (5, _), (6, _), (7, _), (8, _)] (Sub.cons rfl (Sub.cons rfl (Sub.cons rfl (Sub.cons rfl (Sub.cons rfl (Sub.cons rfl (Sub.cons rfl (Sub.nil _)))))))) ?_
          refine XC.seq ?_
          refine XC.region ?_
          refine XO.v (V.move rfl) rfl ?_
          refine XO.v (V.errNil rfl Tryd.underlying33 rfl) rfl ?_
          refine XO.nil ?_
          refine XE.next ?_
          refine XC.keep [(0, _), (3, _), (4, _), (5, _), (6, _), (7, _), (53, _)] (Sub.cons rfl (Sub.cons rfl (Sub.cons rfl (Sub.cons rfl (Sub.cons rfl (Sub.cons rfl (Sub.cons rfl (Sub.nil _)))))))) ?_
          refine XC.condP rfl (fun h4 => ?_) (fun h4 => ?_)
          · skip
            obtain ⟨⟨w1, w2⟩, ⟨w3, w4⟩, w5, w6, w7⟩ := hx.inv.take_win h4
            have hpp := p2_pos (A x.2).a
            refine XC.seq ?_
            refine XC.seq ?_
            refine XC.region ?_
            refine XO.v (V.move rfl) rfl ?_
            refine XO.v (V.cmp rfl rfl rfl) rfl ?_
            refine XO.v (V.move rfl) rfl ?_
            refine XO.splitF (d := 56) rfl (by omega) ?_
            refine XO.guardRun rfl rfl rfl ?_
            refine XO.v (V.move rfl) rfl ?_
            refine XO.guardRun rfl rfl rfl ?_
            refine XO.v (V.cmp rfl rfl rfl) rfl ?_
            refine XO.v (V.pick rfl rfl rfl rfl) rfl ?_
            refine XO.v (V.move rfl) rfl ?_
            refine XO.splitF (d := 60) rfl (by omega) ?_
            refine XO.guardRun rfl rfl rfl ?_
            refine XO.v (V.move rfl) rfl ?_
            refine XO.guardRun rfl rfl rfl ?_
            refine XO.v (V.indexArr rfl rfl ar_44 (by omega)) rfl ?_
            refine XO.guardRun rfl rfl rfl ?_
            refine XO.v (V.load rfl (inXM (.there (.there (.there .here)))) (encI.ld _ _ _ (by omega)) sc_3) rfl ?_
            refine XO.guardRun rfl rfl rfl ?_
            refine XO.v (V.cmp rfl rfl rfl) rfl ?_
            refine XO.v (V.pick rfl rfl rfl rfl) rfl ?_
            refine XO.v (V.move rfl) rfl ?_
            refine XO.splitF (d := 66) rfl (by omega) ?_
            refine XO.guardRun rfl rfl rfl ?_
            refine XO.v (V.fieldAddr rfl fo_31_1) rfl ?_
            refine XO.guardRun rfl rfl rfl ?_
            refine XO.v (V.load rfl (inXM (.there (.there .here))) (encAct.ld_A _) sc_3) rfl ?_
            refine XO.guardRun rfl rfl rfl ?_
            refine XO.v (V.cmp rfl rfl rfl) rfl ?_
            refine XO.v (V.pick rfl rfl rfl rfl) rfl ?_
            refine XO.v (V.move rfl) rfl ?_
            refine XO.splitF (d := 71) rfl (by omega) ?_
            refine XO.guardRun rfl rfl rfl ?_
            refine XO.v (V.fieldAddr rfl fo_31_1) rfl ?_
            refine XO.guardRun rfl rfl rfl ?_
            refine XO.v (V.load rfl (inXM (.there (.there .here))) (encAct.ld_A _) sc_3) rfl ?_
            refine XO.guardRun rfl rfl rfl ?_
            refine XO.v (V.cmp rfl rfl rfl) rfl ?_
            refine XO.v (V.pick rfl rfl rfl rfl) rfl ?_
            refine XO.v (V.move rfl) rfl ?_
            refine XO.splitF (d := 76) rfl (by omega) ?_
            refine XO.guardRun rfl rfl rfl ?_
            refine XO.v (V.move rfl) rfl ?_
            refine XO.guardRun rfl rfl rfl ?_
            refine XO.v (V.fieldAddr rfl fo_31_1) rfl ?_
            refine XO.guardRun rfl rfl rfl ?_
            refine XO.v (V.load rfl (inXM (.there (.there .here))) (encAct.ld_A _) sc_3) rfl ?_
            refine XO.guardRun rfl rfl rfl ?_
            refine XO.v (V.shl rfl rfl (by omega) _ (shl_i64 (by omega))) rfl ?_
            refine XO.guardRun rfl rfl rfl ?_
            refine XO.v (V.rem rfl rfl (by first | decide | omega) _ (Int.tmod_eq_emod_of_nonneg (by omega))) rfl ?_
            refine XO.guardRun rfl rfl rfl ?_
            refine XO.v (V.cmp rfl rfl rfl) rfl ?_
            refine XO.v (V.pick rfl rfl rfl rfl) rfl ?_
            refine XO.nil ?_
            refine XE.next ?_
            refine XC.keep [(0, _), (3, _), (4, _), (5, _), (6, _), (7, _), (83, _)] (Sub.cons rfl (Sub.cons rfl (Sub.cons rfl (Sub.cons rfl (Sub.cons rfl (Sub.cons rfl (Sub.cons rfl (Sub.nil _)))))))) ?_
            refine XC.condFP rfl (by omega) ?_
            refine XC.skip ?_
            refine XE.next ?_
            refine XC.keep [(0, _), (3, _), (4, _), (5, _), (6, _), (7, _)] (Sub.cons rfl (Sub.cons rfl (Sub.cons rfl (Sub.cons rfl (Sub.cons rfl (Sub.cons rfl (Sub.nil _))))))) ?_
            refine XC.region ?_
            refine XO.v (V.move rfl) rfl ?_
            refine XO.v (V.fieldAddr rfl fo_31_1) rfl ?_
            refine XO.v (V.load rfl (inXM (.there (.there .here))) (encAct.ld_A _) sc_3) rfl ?_
            refine XO.v (V.add rfl rfl _ (IntWalk.i64_in _ (by omega))) rfl ?_
            refine XO.v (V.indexArr rfl rfl ar_44 (by omega)) rfl ?_
            refine XO.store rfl rfl (.there (.there (.there .here))) (encI.st _ _ _ _ (by omega)) rfl sz_3_1 ?_
            refine XO.nil ?_
            refine XE.meetG ((x.1.take (A x.2).a).2.2) ?_ (Sub.cons rfl (Sub.cons rfl (Sub.cons rfl (Sub.cons rfl (Sub.nil _))))) (fun _ hw2 => by rw [w7]; exact XM.pick (.cons .here (.cons (.there (.there .here)) (.cons .here (.cons (.there .here) .nil)))) hw2)
            · exact hx.take _
          · skip
            have w9 := BB.take_fail h4
            refine XC.skip ?_
            refine XE.meetG (x.1) ?_ (Sub.cons rfl (Sub.cons rfl (Sub.cons rfl (Sub.cons rfl (Sub.nil _))))) (fun _ hw2 => by rw [w9] at hw2; exact XM.pick (.cons .here (.cons (.there (.there .here)) (.cons .here (.cons (.there .here) .nil)))) hw2)
            · exact hx
        · skip
          refine XC.seq ?_
          refine XC.region ?_
          refine XO.v (V.move rfl) rfl ?_
          refine XO.v (V.fieldAddr rfl fo_31_1) rfl ?_
          refine XO.v (V.load rfl (inXM .here) (encAct.ld_A _) sc_3) rfl ?_
          refine XO.call rfl (p_Give _ _ _ hx.inv _) (.cons (.there .here) .nil) cl_12 rfl ?_
          rintro _ _ ⟨rfl, rfl⟩
          refine XO.v (V.errNil rfl Tryd.underlying33 rfl) rfl ?_
          refine XO.nil ?_
          refine XE.next ?_
          refine XC.keep [(0, _), (3, _), (4, _), (5, _), (6, _), (93, _)] (Sub.cons rfl (Sub.cons rfl (Sub.cons rfl (Sub.cons rfl (Sub.cons rfl (Sub.cons rfl (Sub.nil _))))))) ?_
          refine XC.condP rfl (fun h10 => ?_) (fun h10 => ?_)
          · skip
            obtain ⟨⟨g1, g2⟩, g3, g4, _⟩ := hx.inv.give_win h10
            refine XC.seq ?_
            refine XC.seq ?_
            refine XC.region ?_
            refine XO.v (V.fieldAddr rfl fo_31_1) rfl ?_
            refine XO.v (V.load rfl (inXM (.there .here)) (encAct.ld_A _) sc_3) rfl ?_
            refine XO.v (V.indexArr rfl rfl ar_44 (by omega)) rfl ?_
            refine XO.v (V.load rfl (inXM (.there (.there .here))) (encI.ld _ _ _ (by omega)) sc_3) rfl ?_
            refine XO.v (V.cmp rfl rfl rfl) rfl ?_
            refine XO.nil ?_
            refine XE.next ?_
            refine XC.keep [(0, _), (3, _), (4, _), (5, _), (6, _), (98, _)] (Sub.cons rfl (Sub.cons rfl (Sub.cons rfl (Sub.cons rfl (Sub.cons rfl (Sub.cons rfl (Sub.nil _))))))) ?_
            refine XC.condFP rfl (by omega) ?_
            refine XC.skip ?_
            refine XE.next ?_
            refine XC.keep [(0, _), (3, _), (4, _), (5, _), (6, _)] (Sub.cons rfl (Sub.cons rfl (Sub.cons rfl (Sub.cons rfl (Sub.cons rfl (Sub.nil _)))))) ?_
            refine XC.region ?_
            refine XO.v (V.fieldAddr rfl fo_31_1) rfl ?_
            refine XO.v (V.load rfl (inXM (.there .here)) (encAct.ld_A _) sc_3) rfl ?_
            refine XO.v (V.indexArr rfl rfl ar_44 (by omega)) rfl ?_
            refine XO.store rfl rfl (.there (.there .here)) (encI.st _ _ _ _ (by omega)) rfl sz_3_1 ?_
            refine XO.nil ?_
            refine XE.meetG ((x.1.give (A x.2).a).2) ?_ (Sub.cons rfl (Sub.cons rfl (Sub.cons rfl (Sub.cons rfl (Sub.nil _))))) (fun _ hw2 => by rw [g4]; exact XM.pick (.cons .here (.cons (.there .here) (.cons (.there .here) (.cons (.there .here) .nil)))) hw2)
            · exact hx.give _
          · skip
            have g9 := BB.give_fail h10
            refine XC.skip ?_
            refine XE.meetG (x.1) ?_ (Sub.cons rfl (Sub.cons rfl (Sub.cons rfl (Sub.cons rfl (Sub.nil _))))) (fun _ hw2 => by rw [g9] at hw2; exact XM.pick (.cons .here (.cons (.there .here) (.cons (.there .here) (.cons (.there .here) .nil)))) hw2)
            · exact hx
      intro y hy
      refine XC.seq ?_
      refine XC.region ?_
      have hz0 := cv_zero y
      refine XO.allocZ (z := .agg (arrV (fun _ => 0) 64)) (m := 64) (C := encI (cv y (fun i => decide (i < 0) && y.tk i)) 64) (by kernel_rfl) (arrV_size (fun _ => 0) 64) (by rw [hz0]; exact encI.box (fun _ => 0) 64) rfl ?_
      intro bu
      refine XO.nil ?_
      refine XE.next ?_
      refine XC.keep [(0, _), (3, _), (4, _), (5, _), (9, _)] (Sub.cons rfl (Sub.cons rfl (Sub.cons rfl (Sub.cons rfl (Sub.cons rfl (Sub.nil _)))))) ?_
      refine XC.seq ?_
      refine XC.seq ?_
      refine XC.region ?_
      refine XO.v (V.assign rfl) rfl ?_
      refine XO.nil ?_
      refine XE.next ?_
      refine XC.keep [(0, _), (3, _), (4, _), (5, _), (9, _), (10, _)] (Sub.cons rfl (Sub.cons rfl (Sub.cons rfl (Sub.cons rfl (Sub.cons rfl (Sub.cons rfl (Sub.nil _))))))) ?_
      refine XC.block ?_
      refine XC.loop (σ := Int) (fun k => (64 - k).toNat) (fun k => 0 ≤ k ∧ k ≤ 64) (fun k => [(10, .int .i64 k), (0, .slice (some ⟨bl, ol, none⟩) len cap), (3, ptr bs 0 0), (4, ptr bt 0 0), (5, .int .i64 x.2), (9, ptr bu 0 0)]) (fun k => XM W (foot [.ro 0 0 64 tab64, .ro bl ol (8 * len) (encActs A)]) [.cells bu 0 64 (encI (cv y (fun i => decide (i < k) && y.tk i)) 64), .cells bs 0 71 (encP y.pool), .cells bt 0 64 (encI y.usedOf 64), .ro 0 0 64 tab64, .ro bl ol (8 * len) (encActs A)]) (0) ?_ (Sub.cons rfl (Sub.cons rfl (Sub.cons rfl (Sub.cons rfl (Sub.cons rfl (Sub.cons rfl (Sub.nil _))))))) (fun _ hw => XM.pick (.cons .here (.cons .here (.cons .here (.cons .here (.cons .here .nil))))) hw) ?_
      · skip
        omega
      intro k hk
      refine XC.seq ?_
      refine XC.seq ?_
      refine XC.region ?_
      refine XO.v (V.move rfl) rfl ?_
      refine XO.v (V.cmp rfl rfl rfl) rfl ?_
      refine XO.nil ?_
      refine XE.next ?_
      refine XC.keep [(0, _), (3, _), (4, _), (5, _), (9, _), (10, _), (103, _)] (Sub.cons rfl (Sub.cons rfl (Sub.cons rfl (Sub.cons rfl (Sub.cons rfl (Sub.cons rfl (Sub.cons rfl (Sub.nil _)))))))) ?_
      refine XC.condP rfl (fun h11 => ?_) (fun h11 => ?_)
      · skip
        refine XC.skip ?_
        refine XE.next ?_
        refine XC.keep [(0, _), (3, _), (4, _), (5, _), (9, _), (10, _)] (Sub.cons rfl (Sub.cons rfl (Sub.cons rfl (Sub.cons rfl (Sub.cons rfl (Sub.cons rfl (Sub.nil _))))))) ?_
        refine XC.seq ?_
        refine XC.block ?_
        refine XC.seq ?_
        refine XC.region ?_
        refine XO.v (V.assign rfl) rfl ?_
        refine XO.nil ?_
        refine XE.next ?_
        refine XC.keep [(0, _), (3, _), (4, _), (5, _), (9, _), (10, _), (11, _)] (Sub.cons rfl (Sub.cons rfl (Sub.cons rfl (Sub.cons rfl (Sub.cons rfl (Sub.cons rfl (Sub.cons rfl (Sub.nil _)))))))) ?_
        refine XC.block ?_
        refine XC.loop (σ := Int) (fun r => (p2 (y.ord k - 1) - r).toNat) (fun r => 0 ≤ r ∧ (r = 0 ∨ (y.tk k = true ∧ r ≤ p2 (y.ord k - 1)))) (fun r => [(11, .int .i64 r), (0, .slice (some ⟨bl, ol, none⟩) len cap), (3, ptr bs 0 0), (4, ptr bt 0 0), (5, .int .i64 x.2), (9, ptr bu 0 0), (10, .int .i64 k)]) (fun r => XM W (foot [.ro 0 0 64 tab64, .ro bl ol (8 * len) (encActs A)]) [.cells bu 0 64 (encI (fun j => cv y (fun i => decide (i < k) && y.tk i) j + (if k ≤ j ∧ j < k + r then 1 else 0)) 64), .cells bs 0 71 (encP y.pool), .cells bt 0 64 (encI y.usedOf 64), .ro 0 0 64 tab64, .ro bl ol (8 * len) (encActs A)]) (0) ?_ (Sub.cons rfl (Sub.cons rfl (Sub.cons rfl (Sub.cons rfl (Sub.cons rfl (Sub.cons rfl (Sub.cons rfl (Sub.nil _)))))))) (fun _ hw2 => by rw [part_zero]; exact XM.pick (.cons .here (.cons .here (.cons .here (.cons .here (.cons .here .nil))))) hw2) ?_
        · skip
          exact ⟨by omega, .inl rfl⟩
        intro r hr
        obtain ⟨hr0, hr1⟩ := hr
        refine XC.seq ?_
        refine XC.seq ?_
        refine XC.region ?_
        refine XO.v (V.move rfl) rfl ?_
        refine XO.v (V.indexArr rfl rfl ar_44 (by omega)) rfl ?_
        refine XO.v (V.load rfl (inXM (.there (.there .here))) (encI.ld _ _ _ (by omega)) sc_3) rfl ?_
        refine XO.v (V.cmp rfl rfl rfl) rfl ?_
        refine XO.v (V.move rfl) rfl ?_
        refine XO.splitP (d := 110) rfl (fun h12 => ?_) (fun h12 => ?_)
        · skip
          obtain ⟨htk, huk⟩ := (hy.inv.used_zero k).2 (by omega)
          have hkr := hy.inv.rng k
          have hpp := p2_pos (y.ord k - 1)
          refine XO.guardRun rfl rfl rfl ?_
          refine XO.v (V.move rfl) rfl ?_
          refine XO.guardRun rfl rfl rfl ?_
          refine XO.v (V.move rfl) rfl ?_
          refine XO.guardRun rfl rfl rfl ?_
          refine XO.v (V.indexArr rfl rfl ar_44 (by omega)) rfl ?_
          refine XO.guardRun rfl rfl rfl ?_
          refine XO.v (V.load rfl (inXM (.there (.there .here))) (encI.ld _ _ _ (by omega)) sc_3) rfl ?_
          refine XO.guardRun rfl rfl rfl ?_
          refine XO.v (V.sub rfl rfl _ (IntWalk.i64_in _ (by omega))) rfl ?_
          refine XO.guardRun rfl rfl rfl ?_
          refine XO.v (V.shl rfl rfl (by omega) _ (shl_i64 (by omega))) rfl ?_
          refine XO.guardRun rfl rfl rfl ?_
          refine XO.v (V.cmp rfl rfl rfl) rfl ?_
          refine XO.v (V.pick rfl rfl rfl rfl) rfl ?_
          refine XO.nil ?_
          refine XE.next ?_
          refine XC.keep [(0, _), (3, _), (4, _), (5, _), (9, _), (10, _), (11, _), (118, _)] (Sub.cons rfl (Sub.cons rfl (Sub.cons rfl (Sub.cons rfl (Sub.cons rfl (Sub.cons rfl (Sub.cons rfl (Sub.cons rfl (Sub.nil _))))))))) ?_
          refine XC.condP rfl (fun h13 => ?_) (fun h13 => ?_)
          · skip
            rw [huk] at h13
            have hfit := hy.inv.fit (i := k) (by omega)
            refine XC.skip ?_
            refine XE.next ?_
            refine XC.keep [(0, _), (3, _), (4, _), (5, _), (9, _), (10, _), (11, _)] (Sub.cons rfl (Sub.cons rfl (Sub.cons rfl (Sub.cons rfl (Sub.cons rfl (Sub.cons rfl (Sub.cons rfl (Sub.nil _)))))))) ?_
            refine XC.seq ?_
            refine XC.block ?_
            refine XC.seq ?_
            refine XC.seq ?_
            refine XC.region ?_
            refine XO.v (V.move rfl) rfl ?_
            refine XO.v (V.move rfl) rfl ?_
            refine XO.v (V.add rfl rfl _ (IntWalk.i64_in _ (by omega))) rfl ?_
            refine XO.v (V.cmp rfl rfl rfl) rfl ?_
            refine XO.nil ?_
            refine XE.next ?_
            refine XC.keep [(0, _), (3, _), (4, _), (5, _), (9, _), (10, _), (11, _), (124, _)] (Sub.cons rfl (Sub.cons rfl (Sub.cons rfl (Sub.cons rfl (Sub.cons rfl (Sub.cons rfl (Sub.cons rfl (Sub.cons rfl (Sub.nil _))))))))) ?_
            refine XC.condFP rfl (by omega) ?_
            refine XC.skip ?_
            refine XE.next ?_
            refine XC.keep [(0, _), (3, _), (4, _), (5, _), (9, _), (10, _), (11, _)] (Sub.cons rfl (Sub.cons rfl (Sub.cons rfl (Sub.cons rfl (Sub.cons rfl (Sub.cons rfl (Sub.cons rfl (Sub.nil _)))))))) ?_
            refine XC.region ?_
            refine XO.v (V.move rfl) rfl ?_
            refine XO.v (V.move rfl) rfl ?_
            refine XO.v (V.add rfl rfl _ (IntWalk.i64_in _ (by omega))) rfl ?_
            refine XO.v (V.indexArr rfl rfl ar_44 (by omega)) rfl ?_
            refine XO.v (V.load rfl (inXM .here) (encI.ld _ _ _ (by omega)) sc_3) rfl ?_
            refine XO.v (V.add rfl rfl (cv y (fun i => decide (i < k) && y.tk i) (k + r) + (if k ≤ k + r ∧ k + r < k + r then 1 else 0) + 1) (inc_wrap (cv_le y (fun i => decide (i < k) && y.tk i) (k + r)) _)) rfl ?_
            refine XO.v (V.indexArr rfl rfl ar_44 (by omega)) rfl ?_
            refine XO.store rfl rfl .here (encI.st _ _ _ _ (by omega)) rfl sz_3_1 ?_
            refine XO.nil ?_
            refine XE.blockNormal ?_
            refine XE.next ?_
            refine XC.keep [(0, _), (3, _), (4, _), (5, _), (9, _), (10, _), (11, _)] (Sub.cons rfl (Sub.cons rfl (Sub.cons rfl (Sub.cons rfl (Sub.cons rfl (Sub.cons rfl (Sub.cons rfl (Sub.nil _)))))))) ?_
            refine XC.region ?_
            refine XO.v (V.move rfl) rfl ?_
            refine XO.v (V.add rfl rfl _ (IntWalk.i64_in _ (by omega))) rfl ?_
            refine XO.v (V.assign rfl) rfl ?_
            refine XO.nil ?_
            refine XE.again (r + 1) ?_ ?_ (Sub.cons rfl (Sub.cons rfl (Sub.cons rfl (Sub.cons rfl (Sub.cons rfl (Sub.cons rfl (Sub.cons rfl (Sub.nil _)))))))) (fun _ hw2 => by rw [part_next _ _ _ hr0]; exact XM.pick (.cons .here (.cons .here (.cons .here (.cons .here (.cons .here .nil))))) hw2)
            · skip
              (first | omega | (simp; done) | (simp; omega))
            · skip
              exact ⟨by omega, .inr ⟨htk, by omega⟩⟩
          · skip
            rw [huk] at h13
            have hr : r = p2 (y.ord k - 1) := by omega
            have hcv := cv_taken hy.inv (k := k) (by omega) htk hr
            refine XC.exit ?_
            refine XE.thenExit ?_
            refine XE.thenExit ?_
            refine XE.blockExit ?_
            refine XE.blockNormal ?_
            refine XE.next ?_
            refine XC.keep [(0, _), (3, _), (4, _), (5, _), (9, _), (10, _)] (Sub.cons rfl (Sub.cons rfl (Sub.cons rfl (Sub.cons rfl (Sub.cons rfl (Sub.cons rfl (Sub.nil _))))))) ?_
            refine XC.region ?_
            refine XO.v (V.move rfl) rfl ?_
            refine XO.v (V.add rfl rfl _ (IntWalk.i64_in _ (by omega))) rfl ?_
            refine XO.v (V.assign rfl) rfl ?_
            refine XO.nil ?_
            refine XE.again (k + 1) ?_ ?_ (Sub.cons rfl (Sub.cons rfl (Sub.cons rfl (Sub.cons rfl (Sub.cons rfl (Sub.cons rfl (Sub.nil _))))))) (fun _ hw2 => by rw [hcv]; exact XM.pick (.cons .here (.cons .here (.cons .here (.cons .here (.cons .here .nil))))) hw2)
            · skip
              (first | omega | (simp; done) | (simp; omega))
            · skip
              (first | omega | (simp; done) | (simp; omega))
        · skip
          have hun := hy.inv.used_nn k
          have hz : y.tk k = false := (hy.inv.used_zero k).1 (by omega)
          have hr : r = 0 := by
            rcases hr1 with q | ⟨q, _⟩
            · exact q
            · rw [hz] at q; cases q
          have hcv := cv_untaken (y := y) (k := k) hz hr
          refine XO.guardSkip rfl rfl rfl rfl rfl ?_
          refine XO.guardSkip rfl rfl rfl rfl rfl ?_
          refine XO.guardSkip rfl rfl rfl rfl rfl ?_
          refine XO.guardSkip rfl rfl rfl rfl rfl ?_
          refine XO.guardSkip rfl rfl rfl rfl rfl ?_
          refine XO.guardSkip rfl rfl rfl rfl rfl ?_
          refine XO.guardSkip rfl rfl rfl rfl rfl ?_
          refine XO.v (V.pick rfl rfl rfl rfl) rfl ?_
          refine XO.nil ?_
          refine XE.next ?_
          refine XC.keep [(0, _), (3, _), (4, _), (5, _), (9, _), (10, _), (11, _), (118, _)] (Sub.cons rfl (Sub.cons rfl (Sub.cons rfl (Sub.cons rfl (Sub.cons rfl (Sub.cons rfl (Sub.cons rfl (Sub.cons rfl (Sub.nil _))))))))) ?_
          refine XC.condF rfl rfl ?_
          refine XC.exit ?_
          refine XE.thenExit ?_
          refine XE.thenExit ?_
          refine XE.blockExit ?_
          refine XE.blockNormal ?_
          refine XE.next ?_
          refine XC.keep [(0, _), (3, _), (4, _), (5, _), (9, _), (10, _)] (Sub.cons rfl (Sub.cons rfl (Sub.cons rfl (Sub.cons rfl (Sub.cons rfl (Sub.cons rfl (Sub.nil _))))))) ?_
          refine XC.region ?_
          refine XO.v (V.move rfl) rfl ?_
          refine XO.v (V.add rfl rfl _ (IntWalk.i64_in _ (by omega))) rfl ?_
          refine XO.v (V.assign rfl) rfl ?_
          refine XO.nil ?_
          refine XE.again (k + 1) ?_ ?_ (Sub.cons rfl (Sub.cons rfl (Sub.cons rfl (Sub.cons rfl (Sub.cons rfl (Sub.cons rfl (Sub.nil _))))))) (fun _ hw2 => by rw [hcv]; exact XM.pick (.cons .here (.cons .here (.cons .here (.cons .here (.cons .here .nil))))) hw2)
          · skip
            (first | omega | (simp; done) | (simp; omega))
          · skip
            (first | omega | (simp; done) | (simp; omega))
      · skip
        have hc32 := cv_first (y := y) (k := k) (by omega)
        refine XC.exit ?_
        refine XE.thenExit ?_
        refine XE.thenExit ?_
        refine XE.blockExit ?_
        refine XE.next ?_
        refine XC.keep [(0, _), (3, _), (4, _), (5, _), (9, _)] (Sub.cons rfl (Sub.cons rfl (Sub.cons rfl (Sub.cons rfl (Sub.cons rfl (Sub.nil _)))))) ?_
        refine XC.seq ?_
        refine XC.seq ?_
        refine XC.region ?_
        refine XO.v (V.assign rfl) rfl ?_
        refine XO.nil ?_
        refine XE.next ?_
        refine XC.keep [(0, _), (3, _), (4, _), (5, _), (9, _), (12, _)] (Sub.cons rfl (Sub.cons rfl (Sub.cons rfl (Sub.cons rfl (Sub.cons rfl (Sub.cons rfl (Sub.nil _))))))) ?_
        refine XC.block ?_
        refine XC.loop (σ := Int) (fun o => (7 - o).toNat) (fun o => 0 ≤ o ∧ o ≤ 7) (fun o => [(12, .int .i64 o), (0, .slice (some ⟨bl, ol, none⟩) len cap), (3, ptr bs 0 0), (4, ptr bt 0 0), (5, .int .i64 x.2), (9, ptr bu 0 0)]) (fun o => XM W (foot [.ro 0 0 64 tab64, .ro bl ol (8 * len) (encActs A)]) [.cells bu 0 64 (encI (cv y (fun i => y.tk i || decide (y.ord i ≤ o))) 64), .cells bs 0 71 (encP y.pool), .cells bt 0 64 (encI y.usedOf 64), .ro 0 0 64 tab64, .ro bl ol (8 * len) (encActs A)]) (0) ?_ (Sub.cons rfl (Sub.cons rfl (Sub.cons rfl (Sub.cons rfl (Sub.cons rfl (Sub.cons rfl (Sub.nil _))))))) (fun _ hw2 => by rw [hc32]; exact XM.pick (.cons .here (.cons .here (.cons .here (.cons .here (.cons .here .nil))))) hw2) ?_
        · skip
          omega
        intro o ho
        refine XC.seq ?_
        refine XC.seq ?_
        refine XC.region ?_
        refine XO.v (V.move rfl) rfl ?_
        refine XO.v (V.cmp rfl rfl rfl) rfl ?_
        refine XO.nil ?_
        refine XE.next ?_
        refine XC.keep [(0, _), (3, _), (4, _), (5, _), (9, _), (12, _), (133, _)] (Sub.cons rfl (Sub.cons rfl (Sub.cons rfl (Sub.cons rfl (Sub.cons rfl (Sub.cons rfl (Sub.cons rfl (Sub.nil _)))))))) ?_
        refine XC.condP rfl (fun h14 => ?_) (fun h14 => ?_)
        · skip
          refine XC.skip ?_
          refine XE.next ?_
          refine XC.keep [(0, _), (3, _), (4, _), (5, _), (9, _), (12, _)] (Sub.cons rfl (Sub.cons rfl (Sub.cons rfl (Sub.cons rfl (Sub.cons rfl (Sub.cons rfl (Sub.nil _))))))) ?_
          refine XC.seq ?_
          refine XC.block ?_
          refine XC.seq ?_
          refine XC.region ?_
          refine XO.v (V.move rfl) rfl ?_
          refine XO.v (V.move rfl) rfl ?_
          refine XO.callR 1 rfl (p_Free _ _ _ hy.inv _) (.cons (.there .here) (.cons (.there (.there .here)) .nil)) rfl cl_16 rfl ?_
          rintro _ _ ⟨pl, cl, rfl, rfl⟩
          refine XO.v (V.move rfl) rfl ?_
          refine XO.v (V.extract rfl rfl) rfl ?_
          refine XO.v (V.extract rfl rfl) rfl ?_
          refine XO.v (V.assign rfl) rfl ?_
          refine XO.v (V.assign rfl) rfl ?_
          refine XO.nil ?_
          refine XE.next ?_
          refine XC.keep [(0, _), (3, _), (4, _), (5, _), (9, _), (12, _), (13, _), (14, _)] (Sub.cons rfl (Sub.cons rfl (Sub.cons rfl (Sub.cons rfl (Sub.cons rfl (Sub.cons rfl (Sub.cons rfl (Sub.cons rfl (Sub.nil _))))))))) ?_
          refine XC.seq ?_
          refine XC.seq ?_
          refine XC.region ?_
          have hfo := BB.frees_ok (b := y) (k := o) (by omega)
          have hfe : (y.frees o).2 = 0 := by rw [hfo]
          have hfl := y.frees_len o
          have hc38 := cv_none_yet y o (y.frees o).1
          refine XO.v (V.move rfl) rfl ?_
          refine XO.v (V.errNil rfl Tryd.underlying33 rfl) rfl ?_
          refine XO.nil ?_
          refine XE.next ?_
          refine XC.keep [(0, _), (3, _), (4, _), (5, _), (9, _), (12, _), (13, _), (143, _)] (Sub.cons rfl (Sub.cons rfl (Sub.cons rfl (Sub.cons rfl (Sub.cons rfl (Sub.cons rfl (Sub.cons rfl (Sub.cons rfl (Sub.nil _))))))))) ?_
          refine XC.condFP rfl (by simp [hfe]) ?_
          refine XC.skip ?_
          refine XE.next ?_
          refine XC.keep [(0, _), (3, _), (4, _), (5, _), (9, _), (12, _), (13, _)] (Sub.cons rfl (Sub.cons rfl (Sub.cons rfl (Sub.cons rfl (Sub.cons rfl (Sub.cons rfl (Sub.cons rfl (Sub.nil _)))))))) ?_
          refine XC.seq ?_
          refine XC.region ?_
          refine XO.v (V.assign rfl) rfl ?_
          refine XO.nil ?_
          refine XE.next ?_
          refine XC.keep [(0, _), (3, _), (4, _), (5, _), (9, _), (12, _), (13, _), (15, _)] (Sub.cons rfl (Sub.cons rfl (Sub.cons rfl (Sub.cons rfl (Sub.cons rfl (Sub.cons rfl (Sub.cons rfl (Sub.cons rfl (Sub.nil _))))))))) ?_
          refine XC.block ?_
          refine XC.loop (σ := Int) (fun z => ((y.frees o).1.length - z).toNat) (fun z => 0 ≤ z ∧ z ≤ (y.frees o).1.length) (fun z => [(15, .int .i64 z), (0, .slice (some ⟨bl, ol, none⟩) len cap), (3, ptr bs 0 0), (4, ptr bt 0 0), (5, .int .i64 x.2), (9, ptr bu 0 0), (12, .int .i64 o), (13, .slice pl (y.frees o).1.length cl)]) (fun z => XM W (foot [.ro 0 0 64 tab64, .ro bl ol (8 * len) (encActs A)]) [irow pl cl 3 (y.frees o).1, .cells bu 0 64 (encI (cv y (fun i => y.tk i || decide (y.ord i ≤ o) || decide (i ∈ List.take (z).toNat (y.frees o).1))) 64), .cells bs 0 71 (encP y.pool), .cells bt 0 64 (encI y.usedOf 64), .ro 0 0 64 tab64, .ro bl ol (8 * len) (encActs A)]) (0) ?_ (Sub.cons rfl (Sub.cons rfl (Sub.cons rfl (Sub.cons rfl (Sub.cons rfl (Sub.cons rfl (Sub.cons rfl (Sub.cons rfl (Sub.nil _))))))))) (fun _ hw2 => by rw [hc38]; exact XM.pick (.cons .here (.cons (.there (.there .here)) (.cons .here (.cons (.there .here) (.cons .here (.cons .here .nil)))))) hw2) ?_
          · skip
            omega
          intro z hz
          refine XC.seq ?_
          refine XC.seq ?_
          refine XC.region ?_
          refine XO.v (V.move rfl) rfl ?_
          refine XO.v (V.move rfl) rfl ?_
          refine XO.v (V.lenSl rfl Tryd.underlying45) rfl ?_
          refine XO.v (V.cmp rfl rfl rfl) rfl ?_
          refine XO.nil ?_
          refine XE.next ?_
          refine XC.keep [(0, _), (3, _), (4, _), (5, _), (9, _), (12, _), (13, _), (15, _), (147, _)] (Sub.cons rfl (Sub.cons rfl (Sub.cons rfl (Sub.cons rfl (Sub.cons rfl (Sub.cons rfl (Sub.cons rfl (Sub.cons rfl (Sub.cons rfl (Sub.nil _)))))))))) ?_
          refine XC.condP rfl (fun h15 => ?_) (fun h15 => ?_)
          · skip
            have hL : (y.frees o).1 = allL (y.at_ o) 64 := by rw [hfo]
            have hm : (at0 (y.frees o).1 z) ∈ allL (y.at_ o) 64 := by
              have := at_mem (zs := (y.frees o).1) (z := z) ⟨by omega, by omega⟩
              rwa [hL] at this ⊢
            obtain ⟨a0, a1, a2⟩ := allL_mem.1 hm
            obtain ⟨a3, a4⟩ := (BB.at_iff (by omega)).1 a2
            have hfit := hy.inv.fit (i := (at0 (y.frees o).1 z)) (by omega)
            have hpp := p2_pos o
            have hno := nodup_at (zs := (y.frees o).1) (z := z) (by rw [hL]; exact allL_nodup 64) ⟨by omega, by omega⟩
            rw [a3, show o + 1 - 1 = o from by omega] at hfit
            refine XC.skip ?_
            refine XE.next ?_
            refine XC.keep [(0, _), (3, _), (4, _), (5, _), (9, _), (12, _), (13, _), (15, _)] (Sub.cons rfl (Sub.cons rfl (Sub.cons rfl (Sub.cons rfl (Sub.cons rfl (Sub.cons rfl (Sub.cons rfl (Sub.cons rfl (Sub.nil _))))))))) ?_
            refine XC.seq ?_
            refine XC.block ?_
            refine XC.seq ?_
            refine XC.openRow .here (by omega) ?_
            intro gA h16
            subst h16
            refine XC.region ?_
            refine XO.v (V.assign rfl) rfl ?_
            refine XO.nil ?_
            refine XE.next ?_
            refine XC.keep [(0, _), (3, _), (4, _), (5, _), (9, _), (12, _), (13, _), (15, _), (16, _)] (Sub.cons rfl (Sub.cons rfl (Sub.cons rfl (Sub.cons rfl (Sub.cons rfl (Sub.cons rfl (Sub.cons rfl (Sub.cons rfl (Sub.cons rfl (Sub.nil _)))))))))) ?_
            refine XC.block ?_
            refine XC.loop (σ := Int) (fun r => (p2 o - r).toNat) (fun r => 0 ≤ r ∧ r ≤ p2 o) (fun r => [(16, .int .i64 r), (0, .slice (some ⟨bl, ol, none⟩) len cap), (3, ptr bs 0 0), (4, ptr bt 0 0), (5, .int .i64 x.2), (9, ptr bu 0 0), (12, .int .i64 o), (13, .slice (some ⟨gA, 0, none⟩) (y.frees o).1.length cl), (15, .int .i64 z)]) (fun r => XM W (foot [.ro 0 0 64 tab64, .ro bl ol (8 * len) (encActs A)]) [irow (some ⟨gA, 0, none⟩) cl 3 (y.frees o).1, .cells bu 0 64 (encI (fun j => cv y (fun i => y.tk i || decide (y.ord i ≤ o) || decide (i ∈ List.take (z).toNat (y.frees o).1)) j + (if (at0 (y.frees o).1 z) ≤ j ∧ j < (at0 (y.frees o).1 z) + r then 1 else 0)) 64), .cells bs 0 71 (encP y.pool), .cells bt 0 64 (encI y.usedOf 64), .ro 0 0 64 tab64, .ro bl ol (8 * len) (encActs A)]) (0) ?_ (Sub.cons rfl (Sub.cons rfl (Sub.cons rfl (Sub.cons rfl (Sub.cons rfl (Sub.cons rfl (Sub.cons rfl (Sub.cons rfl (Sub.cons rfl (Sub.nil _)))))))))) (fun _ hw2 => by rw [part_zero]; exact XM.pick (.cons .here (.cons .here (.cons .here (.cons .here (.cons .here (.cons .here .nil)))))) hw2) ?_
            · skip
              omega
            intro r hr1
            have hr0 := hr1.1
            refine XC.seq ?_
            refine XC.seq ?_
            refine XC.region ?_
            refine XO.v (V.move rfl) rfl ?_
            refine XO.v (V.move rfl) rfl ?_
            refine XO.v (V.shl rfl rfl (by omega) _ (shl_i64 (by omega))) rfl ?_
            refine XO.v (V.cmp rfl rfl rfl) rfl ?_
            refine XO.nil ?_
            refine XE.next ?_
            refine XC.keep [(0, _), (3, _), (4, _), (5, _), (9, _), (12, _), (13, _), (15, _), (16, _), (153, _)] (Sub.cons rfl (Sub.cons rfl (Sub.cons rfl (Sub.cons rfl (Sub.cons rfl (Sub.cons rfl (Sub.cons rfl (Sub.cons rfl (Sub.cons rfl (Sub.cons rfl (Sub.nil _))))))))))) ?_
            refine XC.condP rfl (fun h17 => ?_) (fun h17 => ?_)
            · skip
              refine XC.skip ?_
              refine XE.next ?_
              refine XC.keep [(0, _), (3, _), (4, _), (5, _), (9, _), (12, _), (13, _), (15, _), (16, _)] (Sub.cons rfl (Sub.cons rfl (Sub.cons rfl (Sub.cons rfl (Sub.cons rfl (Sub.cons rfl (Sub.cons rfl (Sub.cons rfl (Sub.cons rfl (Sub.nil _)))))))))) ?_
              refine XC.seq ?_
              refine XC.block ?_
              refine XC.seq ?_
              refine XC.seq ?_
              refine XC.region ?_
              refine XO.v (V.move rfl) rfl ?_
              refine XO.v (V.move rfl) rfl ?_
              refine XO.v (V.indexSl rfl rfl sl_45 (by omega)) rfl ?_
              refine XO.v (V.loadRow rfl (inXM .here) (ints_at (by omega)) sc_3) rfl ?_
              refine XO.v (V.cmp rfl rfl rfl) rfl ?_
              refine XO.v (V.move rfl) rfl ?_
              refine XO.splitF (d := 161) rfl (by omega) ?_
              refine XO.guardRun rfl rfl rfl ?_
              refine XO.v (V.move rfl) rfl ?_
              refine XO.guardRun rfl rfl rfl ?_
              refine XO.v (V.move rfl) rfl ?_
              refine XO.guardRun rfl rfl rfl ?_
              refine XO.v (V.indexSl rfl rfl sl_45 (by omega)) rfl ?_
              refine XO.guardRun rfl rfl rfl ?_
              refine XO.v (V.loadRow rfl (inXM .here) (ints_at (by omega)) sc_3) rfl ?_
              refine XO.guardRun rfl rfl rfl ?_
              refine XO.v (V.move rfl) rfl ?_
              refine XO.guardRun rfl rfl rfl ?_
              refine XO.v (V.add rfl rfl _ (IntWalk.i64_in _ (by omega))) rfl ?_
              refine XO.guardRun rfl rfl rfl ?_
              refine XO.v (V.cmp rfl rfl rfl) rfl ?_
              refine XO.v (V.pick rfl rfl rfl rfl) rfl ?_
              refine XO.nil ?_
              refine XE.next ?_
              refine XC.keep [(0, _), (3, _), (4, _), (5, _), (9, _), (12, _), (13, _), (15, _), (16, _), (169, _)] (Sub.cons rfl (Sub.cons rfl (Sub.cons rfl (Sub.cons rfl (Sub.cons rfl (Sub.cons rfl (Sub.cons rfl (Sub.cons rfl (Sub.cons rfl (Sub.cons rfl (Sub.nil _))))))))))) ?_
              refine XC.condFP rfl (by omega) ?_
              refine XC.skip ?_
              refine XE.next ?_
              refine XC.keep [(0, _), (3, _), (4, _), (5, _), (9, _), (12, _), (13, _), (15, _), (16, _)] (Sub.cons rfl (Sub.cons rfl (Sub.cons rfl (Sub.cons rfl (Sub.cons rfl (Sub.cons rfl (Sub.cons rfl (Sub.cons rfl (Sub.cons rfl (Sub.nil _)))))))))) ?_
              refine XC.region ?_
              refine XO.v (V.move rfl) rfl ?_
              refine XO.v (V.move rfl) rfl ?_
              refine XO.v (V.indexSl rfl rfl sl_45 (by omega)) rfl ?_
              refine XO.v (V.loadRow rfl (inXM .here) (ints_at (by omega)) sc_3) rfl ?_
              refine XO.v (V.move rfl) rfl ?_
              refine XO.v (V.add rfl rfl _ (IntWalk.i64_in _ (by omega))) rfl ?_
              refine XO.v (V.indexArr rfl rfl ar_44 (by omega)) rfl ?_
              refine XO.v (V.load rfl (inXM (.there .here)) (encI.ld _ _ _ (by omega)) sc_3) rfl ?_
              refine XO.v (V.add rfl rfl (cv y (fun i => y.tk i || decide (y.ord i ≤ o) || decide (i ∈ List.take (z).toNat (y.frees o).1)) ((at0 (y.frees o).1 z) + r) + (if (at0 (y.frees o).1 z) ≤ (at0 (y.frees o).1 z) + r ∧ (at0 (y.frees o).1 z) + r < (at0 (y.frees o).1 z) + r then 1 else 0) + 1) (inc_wrap (cv_le y (fun i => y.tk i || decide (y.ord i ≤ o) || decide (i ∈ List.take (z).toNat (y.frees o).1)) ((at0 (y.frees o).1 z) + r)) _)) rfl ?_
              refine XO.v (V.indexArr rfl rfl ar_44 (by omega)) rfl ?_
              refine XO.store rfl rfl (.there .here) (encI.st _ _ _ _ (by omega)) rfl sz_3_1 ?_
              refine XO.nil ?_
              refine XE.blockNormal ?_
              refine XE.next ?_
              refine XC.keep [(0, _), (3, _), (4, _), (5, _), (9, _), (12, _), (13, _), (15, _), (16, _)] (Sub.cons rfl (Sub.cons rfl (Sub.cons rfl (Sub.cons rfl (Sub.cons rfl (Sub.cons rfl (Sub.cons rfl (Sub.cons rfl (Sub.cons rfl (Sub.nil _)))))))))) ?_
              refine XC.region ?_
              refine XO.v (V.move rfl) rfl ?_
              refine XO.v (V.add rfl rfl _ (IntWalk.i64_in _ (by omega))) rfl ?_
              refine XO.v (V.assign rfl) rfl ?_
              refine XO.nil ?_
              refine XE.again (r + 1) ?_ ?_ (Sub.cons rfl (Sub.cons rfl (Sub.cons rfl (Sub.cons rfl (Sub.cons rfl (Sub.cons rfl (Sub.cons rfl (Sub.cons rfl (Sub.cons rfl (Sub.nil _)))))))))) (fun _ hw2 => by rw [part_next _ _ _ hr0]; exact XM.pick (.cons .here (.cons .here (.cons .here (.cons .here (.cons .here (.cons .here .nil)))))) hw2)
              · skip
                (first | omega | (simp; done) | (simp; omega))
              · skip
                (first | omega | (simp; done) | (simp; omega))
            · skip
              have hr : r = p2 o := by omega
              have hcv := cv_listed hy.inv (o := o) (z := z) (l := (y.frees o).1) ⟨by omega, by omega⟩ (by rw [hL]; exact allL_nodup 64) (by omega) a3 a4 hr
              refine XC.exit ?_
              refine XE.thenExit ?_
              refine XE.thenExit ?_
              refine XE.blockExit ?_
              refine XE.blockNormal ?_
              refine XE.next ?_
              refine XC.keep [(0, _), (3, _), (4, _), (5, _), (9, _), (12, _), (13, _), (15, _)] (Sub.cons rfl (Sub.cons rfl (Sub.cons rfl (Sub.cons rfl (Sub.cons rfl (Sub.cons rfl (Sub.cons rfl (Sub.cons rfl (Sub.nil _))))))))) ?_
              refine XC.region ?_
              refine XO.v (V.move rfl) rfl ?_
              refine XO.v (V.add rfl rfl _ (IntWalk.i64_in _ (by omega))) rfl ?_
              refine XO.v (V.assign rfl) rfl ?_
              refine XO.nil ?_
              refine XE.again (z + 1) ?_ ?_ (Sub.cons rfl (Sub.cons rfl (Sub.cons rfl (Sub.cons rfl (Sub.cons rfl (Sub.cons rfl (Sub.cons rfl (Sub.cons rfl (Sub.nil _))))))))) (fun _ hw2 => by rw [hcv]; exact XM.pick (.cons .here (.cons .here (.cons .here (.cons .here (.cons .here (.cons .here .nil)))))) hw2)
              · skip
                (first | omega | (simp; done) | (simp; omega))
              · skip
                (first | omega | (simp; done) | (simp; omega))
          · skip
            have hc33 := cv_order (y := y) (o := o) (z := z) (l := (y.frees o).1) (by omega) (by rw [hfo]) (by omega)
            refine XC.exit ?_
            refine XE.thenExit ?_
            refine XE.thenExit ?_
            refine XE.blockExit ?_
            refine XE.blockNormal ?_
            refine XE.next ?_
            refine XC.keep [(0, _), (3, _), (4, _), (5, _), (9, _), (12, _)] (Sub.cons rfl (Sub.cons rfl (Sub.cons rfl (Sub.cons rfl (Sub.cons rfl (Sub.cons rfl (Sub.nil _))))))) ?_
            refine XC.region ?_
            refine XO.v (V.move rfl) rfl ?_
            refine XO.v (V.add rfl rfl _ (IntWalk.i64_in _ (by omega))) rfl ?_
            refine XO.v (V.assign rfl) rfl ?_
            refine XO.nil ?_
            refine XE.again (o + 1) ?_ ?_ (Sub.cons rfl (Sub.cons rfl (Sub.cons rfl (Sub.cons rfl (Sub.cons rfl (Sub.cons rfl (Sub.nil _))))))) (fun _ hw2 => by rw [hc33]; exact XM.pick (.cons (.there .here) (.cons (.there .here) (.cons (.there .here) (.cons (.there .here) (.cons (.there .here) .nil))))) hw2)
            · skip
              (first | omega | (simp; done) | (simp; omega))
            · skip
              (first | omega | (simp; done) | (simp; omega))
        · skip
          refine XC.exit ?_
          refine XE.thenExit ?_
          refine XE.thenExit ?_
          refine XE.blockExit ?_
          refine XE.next ?_
          refine XC.keep [(0, _), (3, _), (4, _), (5, _), (9, _)] (Sub.cons rfl (Sub.cons rfl (Sub.cons rfl (Sub.cons rfl (Sub.cons rfl (Sub.nil _)))))) ?_
          refine XC.seq ?_
          refine XC.region ?_
          refine XO.v (V.assign rfl) rfl ?_
          refine XO.nil ?_
          refine XE.next ?_
          refine XC.keep [(0, _), (3, _), (4, _), (5, _), (9, _), (17, _)] (Sub.cons rfl (Sub.cons rfl (Sub.cons rfl (Sub.cons rfl (Sub.cons rfl (Sub.cons rfl (Sub.nil _))))))) ?_
          refine XC.block ?_
          refine XC.loop (σ := Int) (fun k2 => (64 - k2).toNat) (fun k2 => 0 ≤ k2 ∧ k2 ≤ 64) (fun k2 => [(17, .int .i64 k2), (0, .slice (some ⟨bl, ol, none⟩) len cap), (3, ptr bs 0 0), (4, ptr bt 0 0), (5, .int .i64 x.2), (9, ptr bu 0 0)]) (fun k2 => XM W (foot [.ro 0 0 64 tab64, .ro bl ol (8 * len) (encActs A)]) [.cells bu 0 64 (encI (cv y (fun i => y.tk i || decide (y.ord i ≤ o))) 64), .cells bs 0 71 (encP y.pool), .cells bt 0 64 (encI y.usedOf 64), .ro 0 0 64 tab64, .ro bl ol (8 * len) (encActs A)]) (0) ?_ (Sub.cons rfl (Sub.cons rfl (Sub.cons rfl (Sub.cons rfl (Sub.cons rfl (Sub.cons rfl (Sub.nil _))))))) (fun _ hw => XM.pick (.cons .here (.cons .here (.cons .here (.cons .here (.cons .here .nil))))) hw) ?_
          · skip
            omega
          intro k2 hk2
          refine XC.seq ?_
          refine XC.seq ?_
          refine XC.region ?_
          refine XO.v (V.move rfl) rfl ?_
          refine XO.v (V.cmp rfl rfl rfl) rfl ?_
          refine XO.nil ?_
          refine XE.next ?_
          refine XC.keep [(0, _), (3, _), (4, _), (5, _), (9, _), (17, _), (181, _)] (Sub.cons rfl (Sub.cons rfl (Sub.cons rfl (Sub.cons rfl (Sub.cons rfl (Sub.cons rfl (Sub.cons rfl (Sub.nil _)))))))) ?_
          refine XC.condP rfl (fun h19 => ?_) (fun h19 => ?_)
          · skip
            have hone := cv_all hy (o := o) (k := k2) (by omega) ⟨by omega, by omega⟩
            refine XC.skip ?_
            refine XE.next ?_
            refine XC.keep [(0, _), (3, _), (4, _), (5, _), (9, _), (17, _)] (Sub.cons rfl (Sub.cons rfl (Sub.cons rfl (Sub.cons rfl (Sub.cons rfl (Sub.cons rfl (Sub.nil _))))))) ?_
            refine XC.seq ?_
            refine XC.block ?_
            refine XC.seq ?_
            refine XC.region ?_
            refine XO.v (V.move rfl) rfl ?_
            refine XO.v (V.indexArr rfl rfl ar_44 (by omega)) rfl ?_
            refine XO.v (V.load rfl (inXM .here) (encI.ld _ _ _ (by omega)) sc_3) rfl ?_
            refine XO.v (V.cmp rfl rfl rfl) rfl ?_
            refine XO.nil ?_
            refine XE.next ?_
            refine XC.keep [(0, _), (3, _), (4, _), (5, _), (9, _), (17, _), (187, _)] (Sub.cons rfl (Sub.cons rfl (Sub.cons rfl (Sub.cons rfl (Sub.cons rfl (Sub.cons rfl (Sub.cons rfl (Sub.nil _)))))))) ?_
            refine XC.condFP rfl (by omega) ?_
            refine XC.skip ?_
            refine XE.blockNormal ?_
            refine XE.next ?_
            refine XC.keep [(0, _), (3, _), (4, _), (5, _), (9, _), (17, _)] (Sub.cons rfl (Sub.cons rfl (Sub.cons rfl (Sub.cons rfl (Sub.cons rfl (Sub.cons rfl (Sub.nil _))))))) ?_
            refine XC.region ?_
            refine XO.v (V.move rfl) rfl ?_
            refine XO.v (V.add rfl rfl _ (IntWalk.i64_in _ (by omega))) rfl ?_
            refine XO.v (V.assign rfl) rfl ?_
            refine XO.nil ?_
            refine XE.again (k2 + 1) ?_ ?_ (Sub.cons rfl (Sub.cons rfl (Sub.cons rfl (Sub.cons rfl (Sub.cons rfl (Sub.cons rfl (Sub.nil _))))))) (fun _ hw => XM.pick (.cons .here (.cons .here (.cons .here (.cons .here (.cons .here .nil))))) hw)
            · skip
              (first | omega | (simp; done) | (simp; omega))
            · skip
              (first | omega | (simp; done) | (simp; omega))
          · skip
            refine XC.exit ?_
            refine XE.thenExit ?_
            refine XE.thenExit ?_
            refine XE.blockExit ?_
            refine XE.blockNormal ?_
            refine XE.next ?_
            refine XC.keep [(0, _), (3, _), (4, _), (5, _)] (Sub.cons rfl (Sub.cons rfl (Sub.cons rfl (Sub.cons rfl (Sub.nil _))))) ?_
            refine XC.region ?_
            refine XO.v (V.move rfl) rfl ?_
            refine XO.v (V.add rfl rfl _ (IntWalk.i64_in _ (by omega))) rfl ?_
            refine XO.v (V.assign rfl) rfl ?_
            refine XO.nil ?_
            refine XE.again ((y, x.2 + 1)) ?_ ?_ (Sub.cons rfl (Sub.cons rfl (Sub.cons rfl (Sub.cons rfl (Sub.nil _))))) (fun _ hw => XM.pick (.cons (.there .here) (.cons (.there .here) (.cons (.there .here) (.cons (.there .here) .nil)))) hw)
            · skip
              (simp; omega)
            · skip
              exact ⟨hy, by simp; omega, by simp; omega⟩
    · skip
      refine XC.exit ?_
      refine XE.thenExit ?_
      refine XE.thenExit ?_
      refine XE.blockExit ?_
      refine XE.next ?_
      refine XC.keep [(3, _), (4, _)] (Sub.cons rfl (Sub.cons rfl (Sub.nil _))) ?_
      refine XC.seq ?_
      refine XC.seq ?_
      refine XC.region ?_
      refine XO.v (V.assign rfl) rfl ?_
      refine XO.nil ?_
      refine XE.next ?_
      refine XC.keep [(3, _), (4, _), (18, _)] (Sub.cons rfl (Sub.cons rfl (Sub.cons rfl (Sub.nil _)))) ?_
      refine XC.block ?_
      refine XC.loop (σ := BB × Int) (fun w => (64 - w.2).toNat) (fun w => w.1.Full ∧ (0 ≤ w.2 ∧ w.2 ≤ 64) ∧ (∀ j, w.2 ≤ j → j < 64 → w.1.tk j = x.1.tk j) ∧ (∀ j, 0 ≤ j → j < w.2 → w.1.tk j = false)) (fun w => [(18, .int .i64 w.2), (3, ptr bs 0 0), (4, ptr bt 0 0)]) (fun w => XM W (foot [.ro 0 0 64 tab64, .ro bl ol (8 * len) (encActs A)]) [.cells bs 0 71 (encP w.1.pool), .cells bt 0 64 (encI x.1.usedOf 64), .ro 0 0 64 tab64]) ((x.1, 0)) ?_ (Sub.cons rfl (Sub.cons rfl (Sub.cons rfl (Sub.nil _)))) (fun _ hw => XM.pick (.cons .here (.cons .here (.cons .here .nil))) hw) ?_
      · skip
        exact ⟨hx, by simp, fun _ _ _ => rfl, fun j h0 h1 => by simp at h1; omega⟩
      intro w hw
      obtain ⟨hw, hwr, hw2, hw3⟩ := hw
      refine XC.seq ?_
      refine XC.seq ?_
      refine XC.region ?_
      refine XO.v (V.move rfl) rfl ?_
      refine XO.v (V.cmp rfl rfl rfl) rfl ?_
      refine XO.nil ?_
      refine XE.next ?_
      refine XC.keep [(3, _), (4, _), (18, _), (189, _)] (Sub.cons rfl (Sub.cons rfl (Sub.cons rfl (Sub.cons rfl (Sub.nil _))))) ?_
      refine XC.condP rfl (fun h20 => ?_) (fun h20 => ?_)
      · skip
        refine XC.skip ?_
        refine XE.next ?_
        refine XC.keep [(3, _), (4, _), (18, _)] (Sub.cons rfl (Sub.cons rfl (Sub.cons rfl (Sub.nil _)))) ?_
        refine XC.seq ?_
        refine XC.block ?_
        refine XC.seq ?_
        refine XC.region ?_
        refine XO.v (V.move rfl) rfl ?_
        refine XO.v (V.indexArr rfl rfl ar_44 (by omega)) rfl ?_
        refine XO.v (V.load rfl (inXM (.there .here)) (encI.ld _ _ _ (by omega)) sc_3) rfl ?_
        refine XO.v (V.cmp rfl rfl rfl) rfl ?_
        refine XO.v (V.move rfl) rfl ?_
        refine XO.splitP (d := 196) rfl (fun h21 => ?_) (fun h21 => ?_)
        · skip
          have ht : x.1.tk w.2 = true := ((hx.inv.used_zero w.2).2 (by omega)).1
          have hw4 : w.1.tk w.2 = true := by rw [hw2 w.2 (by omega) (by omega)]; exact ht
          have his : w.1.is w.2 = 0 := BB.is_ok (by omega) hw4
          have hgw := (hw.inv.give_win (a := w.2) (by rw [BB.give_ok his])).2.2.2
          refine XO.guardRun rfl rfl rfl ?_
          refine XO.v (V.move rfl) rfl ?_
          refine XO.guardRun rfl rfl rfl ?_
          refine XO.v (V.move rfl) rfl ?_
          refine XO.guardRun rfl rfl rfl ?_
          refine XO.call rfl (p_Give _ _ _ hw.inv _) (.cons .here .nil) cl_12 rfl ?_
          rintro _ _ ⟨rfl, rfl⟩
          refine XO.guardRun rfl rfl rfl ?_
          refine XO.v (V.errNil rfl Tryd.underlying33 rfl) rfl ?_
          refine XO.v (V.pick rfl rfl rfl rfl) rfl ?_
          refine XO.nil ?_
          refine XE.next ?_
          refine XC.keep [(3, _), (4, _), (18, _), (201, _)] (Sub.cons rfl (Sub.cons rfl (Sub.cons rfl (Sub.cons rfl (Sub.nil _))))) ?_
          refine XC.condFP rfl (by rw [BB.give_ok his]; simp) ?_
          refine XC.skip ?_
          refine XE.blockNormal ?_
          refine XE.next ?_
          refine XC.keep [(3, _), (4, _), (18, _)] (Sub.cons rfl (Sub.cons rfl (Sub.cons rfl (Sub.nil _)))) ?_
          refine XC.region ?_
          refine XO.v (V.move rfl) rfl ?_
          refine XO.v (V.add rfl rfl _ (IntWalk.i64_in _ (by omega))) rfl ?_
          refine XO.v (V.assign rfl) rfl ?_
          refine XO.nil ?_
          refine XE.again (((w.1.give w.2).2, w.2 + 1)) ?_ ?_ (Sub.cons rfl (Sub.cons rfl (Sub.cons rfl (Sub.nil _)))) (fun _ hw => XM.pick (.cons .here (.cons .here (.cons .here .nil))) hw)
          · skip
            (simp; omega)
          · skip
            refine ⟨hw.give _, by simp; omega, fun j j0 j1 => ?_, fun j j0 j1 => ?_⟩
            · show (w.1.give w.2).2.tk j = _
              simp at j0
              rw [hgw, fset_ne _ _ (by omega)]; exact hw2 j (by omega) j1
            · show (w.1.give w.2).2.tk j = _
              simp at j1
              rw [hgw]
              by_cases c : j = w.2
              · rw [c, fset_eq]
              · rw [fset_ne _ _ c]; exact hw3 j j0 (by omega)
        · skip
          have hun := hx.inv.used_nn w.2
          have ht : x.1.tk w.2 = false := (hx.inv.used_zero w.2).1 (by omega)
          refine XO.guardSkip rfl rfl rfl rfl rfl ?_
          refine XO.guardSkip rfl rfl rfl rfl rfl ?_
          refine XO.guardSkip rfl rfl rfl rfl rfl ?_
          refine XO.guardSkip rfl rfl rfl rfl rfl ?_
          refine XO.v (V.pick rfl rfl rfl rfl) rfl ?_
          refine XO.nil ?_
          refine XE.next ?_
          refine XC.keep [(3, _), (4, _), (18, _), (201, _)] (Sub.cons rfl (Sub.cons rfl (Sub.cons rfl (Sub.cons rfl (Sub.nil _))))) ?_
          refine XC.condF rfl rfl ?_
          refine XC.skip ?_
          refine XE.blockNormal ?_
          refine XE.next ?_
          refine XC.keep [(3, _), (4, _), (18, _)] (Sub.cons rfl (Sub.cons rfl (Sub.cons rfl (Sub.nil _)))) ?_
          refine XC.region ?_
          refine XO.v (V.move rfl) rfl ?_
          refine XO.v (V.add rfl rfl _ (IntWalk.i64_in _ (by omega))) rfl ?_
          refine XO.v (V.assign rfl) rfl ?_
          refine XO.nil ?_
          refine XE.again ((w.1, w.2 + 1)) ?_ ?_ (Sub.cons rfl (Sub.cons rfl (Sub.cons rfl (Sub.nil _)))) (fun _ hw => XM.pick (.cons .here (.cons .here (.cons .here .nil))) hw)
          · skip
            (simp; omega)
          · skip
            refine ⟨hw, by simp; omega, fun j j0 j1 => ?_, fun j j0 j1 => ?_⟩
            · simp at j0
              exact hw2 j (by omega) j1
            · simp at j1
              by_cases c : j = w.2
              · rw [c]; show w.1.tk w.2 = false; rw [hw2 w.2 (by omega) (by omega)]; exact ht
              · exact hw3 j j0 (by omega)
      · skip
        refine XC.exit ?_
        refine XE.thenExit ?_
        refine XE.thenExit ?_
        refine XE.blockExit ?_
        refine XE.next ?_
        refine XC.keep [(3, _)] (Sub.cons rfl (Sub.nil _)) ?_
        refine XC.seq ?_
        refine XC.region ?_
        have hall : ∀ i, w.1.tk i = false := fun i => by
          cases q : w.1.tk i with
          | false => rfl
          | true =>
            have h1 := hw.inv.in_rng (hw.inv.tk i q)
            have h2 := hw3 i h1.1 (by omega)
            rw [q] at h2; exact h2
        have hw9 : w.1 = BB.init := hw.single hall
        have hlen : (w.1.frees 6).1.length = 1 := by rw [hw9]; decide +kernel
        refine XO.v (V.move rfl) rfl ?_
        refine XO.callR 1 rfl (p_Free _ _ _ hw.inv _) (.cons .here (.cons (.there .here) .nil)) rfl cl_16 rfl ?_
        rintro _ _ ⟨pl, cl, rfl, rfl⟩
        refine XO.v (V.move rfl) rfl ?_
        refine XO.v (V.extract rfl rfl) rfl ?_
        refine XO.v (V.extract rfl rfl) rfl ?_
        refine XO.v (V.assign rfl) rfl ?_
        refine XO.v (V.assign rfl) rfl ?_
        refine XO.nil ?_
        refine XE.next ?_
        refine XC.keep [(3, _), (19, _), (20, _)] (Sub.cons rfl (Sub.cons rfl (Sub.cons rfl (Sub.nil _)))) ?_
        refine XC.seq ?_
        refine XC.openRow .here (by omega) ?_
        intro gB h22
        subst h22
        refine XC.region ?_
        refine XO.v (V.move rfl) rfl ?_
        refine XO.v (V.errNil rfl Tryd.underlying33 rfl) rfl ?_
        refine XO.v (V.move rfl) rfl ?_
        refine XO.splitT (d := 209) rfl (by rw [hw9]; decide +kernel) ?_
        refine XO.guardRun rfl rfl rfl ?_
        refine XO.v (V.move rfl) rfl ?_
        refine XO.guardRun rfl rfl rfl ?_
        refine XO.v (V.lenSl rfl Tryd.underlying45) rfl ?_
        refine XO.guardRun rfl rfl rfl ?_
        refine XO.v (V.cmp rfl rfl rfl) rfl ?_
        refine XO.v (V.pick rfl rfl rfl rfl) rfl ?_
        refine XO.v (V.move rfl) rfl ?_
        refine XO.splitT (d := 214) rfl (by omega) ?_
        refine XO.guardRun rfl rfl rfl ?_
        refine XO.v (V.move rfl) rfl ?_
        refine XO.guardRun rfl rfl rfl ?_
        refine XO.v (V.indexSl rfl rfl sl_45 (by omega)) rfl ?_
        refine XO.guardRun rfl rfl rfl ?_
        refine XO.v (V.loadRow rfl (inXM .here) (ints_at (by omega)) sc_3) rfl ?_
        refine XO.guardRun rfl rfl rfl ?_
        refine XO.v (V.cmp rfl rfl rfl) rfl ?_
        refine XO.v (V.pick rfl rfl rfl rfl) rfl ?_
        refine XO.v (V.move rfl) rfl ?_
        refine XO.splitT (d := 220) rfl (by rw [hw9]; decide +kernel) ?_
        refine XO.guardRun rfl rfl rfl ?_
        refine XO.v (V.move rfl) rfl ?_
        refine XO.guardRun rfl rfl rfl ?_
        refine XO.call rfl (p_Left _ _ _ hw.inv) (.cons (.there .here) .nil) cl_15 rfl ?_
        rintro _ _ ⟨rfl, rfl⟩
        refine XO.guardRun rfl rfl rfl ?_
        refine XO.v (V.cmp rfl rfl rfl) rfl ?_
        refine XO.v (V.pick rfl rfl rfl rfl) rfl ?_
        refine XO.v (V.assign rfl) rfl ?_
        refine XO.nil ?_
        refine XE.next ?_
        refine XC.keep [(2, _)] (Sub.cons rfl (Sub.nil _)) ?_
        refine XC.ret ?_
        refine XE.ret1 rfl rfl (post_of .nil rfl ?_)
        first | exact ⟨rfl, rfl⟩ | exact ⟨congrArg Value.bool (by rw [hw9]; decide +kernel), rfl⟩
end Go.X
