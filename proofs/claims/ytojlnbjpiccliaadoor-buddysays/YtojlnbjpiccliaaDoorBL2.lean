import Derived.Test.YtojlnbjpiccliaaDoorBL1
namespace Go.X
open Go Go.Proofs
theorem cl_10 : callable Tryd.prog 10 = true := by kernel_rfl
theorem cl_12 : callable Tryd.prog 12 = true := by kernel_rfl
theorem cl_13 : callable Tryd.prog 13 = true := by kernel_rfl
theorem cl_14 : callable Tryd.prog 14 = true := by kernel_rfl
theorem cl_5 : callable Tryd.prog 5 = true := by kernel_rfl
theorem cl_6 : callable Tryd.prog 6 = true := by kernel_rfl
theorem cl_8 : callable Tryd.prog 8 = true := by kernel_rfl
theorem fo_31_0 : fieldOff Tryd.prog 31 0 = some 0 := by kernel_rfl
theorem fo_31_1 : fieldOff Tryd.prog 31 1 = some 1 := by kernel_rfl
theorem sc_9 : scal Tryd.prog 9 = true := by kernel_rfl
theorem sl_22 : sliceOf Tryd.prog 22 = some (31, 8) := by kernel_rfl
set_option maxRecDepth 10000 in
set_option maxHeartbeats 2000000 in
theorem law_some (bl ol len cap : Nat) (hlen : len ≤ cap) (A : Int → ActV) (hA : ∀ z : Int, 0 ≤ z → z < len → (A z).ok) : Spec Tryd.prog 3 [.slice (some ⟨bl, ol, none⟩) len cap]
    [.ro 0 0 64 tab64, .ro bl ol (8 * len) (encActs A)]
    (fun v H1 => v = .bool true ∧ H1 = []) := by
  refine Spec.intro Tryd.func3 rfl rfl ?_
  intro W
  refine XC.seq ?_
  refine XC.region ?_
  refine XO.v (V.assign rfl) rfl ?_
  refine XO.nil ?_
  refine XE.next ?_
  refine XC.keep [(0, _)] (Sub.cons rfl (Sub.nil _)) ?_
  refine XC.seq ?_
  refine XC.region ?_
  refine XO.callR 0 rfl (blocks_any) (.cons .here .nil) rfl cl_5 rfl ?_
  rintro _ _ ⟨rfl, rfl⟩
  refine XO.v (V.assign rfl) rfl ?_
  refine XO.nil ?_
  refine XE.next ?_
  refine XC.keep [(0, _), (3, _)] (Sub.cons rfl (Sub.cons rfl (Sub.nil _))) ?_
  refine XC.seq ?_
  refine XC.seq ?_
  refine XC.region ?_
  refine XO.v (V.move rfl) rfl ?_
  refine XO.v (V.not rfl) rfl ?_
  refine XO.v (V.move rfl) rfl ?_
  refine XO.guardRun rfl rfl rfl ?_
  refine XO.v (V.move rfl) rfl ?_
  refine XO.guardRun rfl rfl rfl ?_
  refine XO.call rfl (light_any _ _ _ _) .nil cl_6 rfl ?_
  rintro _ _ ⟨rfl, rfl⟩
  refine XO.guardRun rfl rfl rfl ?_
  refine XO.v (V.notP rfl) rfl ?_
  refine XO.v (V.pick rfl rfl rfl rfl) rfl ?_
  refine XO.nil ?_
  refine XE.next ?_
  refine XC.keep [(0, _), (3, _), (18, _)] (Sub.cons rfl (Sub.cons rfl (Sub.cons rfl (Sub.nil _)))) ?_
  refine XC.condP rfl (fun h1 => ?_) (fun h1 => ?_)
  · skip
    refine XC.seq ?_
    refine XC.region ?_
    refine XO.v (V.move rfl) rfl ?_
    refine XO.v (V.assign rfl) rfl ?_
    refine XO.nil ?_
    refine XE.next ?_
    refine XC.keep [(2, _)] (Sub.cons rfl (Sub.nil _)) ?_
    refine XC.ret ?_
    refine XE.thenRet ?_
    refine XE.ret1 rfl rfl (post_of .nil rfl ?_)
    exact ⟨rfl, rfl⟩
  · skip
    refine XC.skip ?_
    refine XE.next ?_
    refine XC.keep [(0, _)] (Sub.cons rfl (Sub.nil _)) ?_
    refine XC.seq ?_
    refine XC.region ?_
    refine XO.call rfl (p_New) .nil cl_7 rfl ?_
    rintro _ _ ⟨bs, rfl, rfl⟩
    refine XO.v (V.assign rfl) rfl ?_
    refine XO.nil ?_
    refine XE.next ?_
    refine XC.keep [(0, _), (4, _)] (Sub.cons rfl (Sub.cons rfl (Sub.nil _))) ?_
    refine XC.seq ?_
    refine XC.region ?_
    refine XO.call rfl (u_New) .nil cl_8 rfl ?_
    rintro _ _ ⟨bm, rfl, rfl⟩
    refine XO.v (V.assign rfl) rfl ?_
    refine XO.nil ?_
    refine XE.next ?_
    refine XC.keep [(0, _), (4, _), (5, _)] (Sub.cons rfl (Sub.cons rfl (Sub.cons rfl (Sub.nil _)))) ?_
    refine XC.seq ?_
    refine XC.seq ?_
    refine XC.region ?_
    refine XO.v (V.assign rfl) rfl ?_
    refine XO.nil ?_
    refine XE.next ?_
    refine XC.keep [(0, _), (4, _), (5, _), (6, _)] (Sub.cons rfl (Sub.cons rfl (Sub.cons rfl (Sub.cons rfl (Sub.nil _))))) ?_
    refine XC.block ?_
    refine XC.loop (σ := BB × Int) (fun x => (len - x.2).toNat) (fun x => x.1.Inv ∧ 0 ≤ x.2 ∧ x.2 ≤ len) (fun x => [(6, .int .i64 x.2), (0, .slice (some ⟨bl, ol, none⟩) len cap), (4, ptr bs 0 0), (5, ptr bm 0 0)]) (fun x => XM W (foot [.ro 0 0 64 tab64, .ro bl ol (8 * len) (encActs A)]) [.cells bs 0 71 (encP x.1.pool), .cells bm 0 128 (encM x.1), .ro 0 0 64 tab64, .ro bl ol (8 * len) (encActs A)]) ((BB.init, 0)) ?_ (Sub.cons rfl (Sub.cons rfl (Sub.cons rfl (Sub.cons rfl (Sub.nil _))))) (fun _ hw => XM.pick (.cons (.there .here) (.cons .here (.cons .here (.cons .here .nil)))) hw) ?_
    · skip
      exact ⟨BB.Inv.init, by simp, by simp⟩
    intro x hx
    obtain ⟨hx, hx0, hx1⟩ := hx
    refine XC.seq ?_
    refine XC.seq ?_
    refine XC.region ?_
    refine XO.v (V.move rfl) rfl ?_
    refine XO.v (V.move rfl) rfl ?_
    refine XO.v (V.lenSl rfl Tryd.underlying22) rfl ?_
    refine XO.v (V.cmp rfl rfl rfl) rfl ?_
    refine XO.nil ?_
    refine XE.next ?_
    refine XC.keep [(0, _), (4, _), (5, _), (6, _), (25, _)] (Sub.cons rfl (Sub.cons rfl (Sub.cons rfl (Sub.cons rfl (Sub.cons rfl (Sub.nil _)))))) ?_
    refine XC.condP rfl (fun h2 => ?_) (fun h2 => ?_)
    · skip
      refine XC.skip ?_
      refine XE.next ?_
      refine XC.keep [(0, _), (4, _), (5, _), (6, _)] (Sub.cons rfl (Sub.cons rfl (Sub.cons rfl (Sub.cons rfl (Sub.nil _))))) ?_
      refine XC.seq ?_
      refine XC.block ?_
      refine XC.cutG (σ := BB) (fun y => y.Inv) (fun y => [(0, .slice (some ⟨bl, ol, none⟩) len cap), (4, ptr bs 0 0), (5, ptr bm 0 0), (6, .int .i64 x.2)]) (fun y => XM W (foot [.ro 0 0 64 tab64, .ro bl ol (8 * len) (encActs A)]) [.cells bs 0 71 (encP y.pool), .cells bm 0 128 (encM y), .ro 0 0 64 tab64, .ro bl ol (8 * len) (encActs A)]) ?_ ?_
      · skip
        refine XC.seq ?_
        refine XC.region ?_
        refine XO.v (V.move rfl) rfl ?_
        refine XO.v (V.move rfl) rfl ?_
        refine XO.v (V.indexSl rfl rfl sl_22 (by omega)) rfl ?_
        refine XO.v (V.fieldAddr rfl fo_31_0) rfl ?_
        refine XO.v (V.loadRo rfl (inXM (.there (.there (.there .here)))) (acts_ld_Kind A len _ (by omega)) sc_9) rfl ?_
        refine XO.v (V.strCmp rfl rfl rfl) rfl ?_
        refine XO.nil ?_
        refine XE.next ?_
        refine XC.keep [(0, _), (4, _), (5, _), (6, _), (33, _)] (Sub.cons rfl (Sub.cons rfl (Sub.cons rfl (Sub.cons rfl (Sub.cons rfl (Sub.nil _)))))) ?_
        refine XC.condP rfl (fun h3 => ?_) (fun h3 => ?_)
        · skip
          refine XC.seq ?_
          refine XC.region ?_
          refine XO.v (V.move rfl) rfl ?_
          refine XO.v (V.move rfl) rfl ?_
          refine XO.v (V.move rfl) rfl ?_
          refine XO.v (V.indexSl rfl rfl sl_22 (by omega)) rfl ?_
          refine XO.v (V.fieldAddr rfl fo_31_1) rfl ?_
          refine XO.v (V.loadRo rfl (inXM (.there (.there (.there .here)))) (acts_ld_A A len _ (by omega)) sc_3) rfl ?_
          refine XO.callR 1 rfl (p_Take _ _ _ hx _) (.cons .here (.cons (.there .here) .nil)) rfl cl_9 rfl ?_
          rintro _ _ ⟨rfl, rfl⟩
          refine XO.v (V.move rfl) rfl ?_
          refine XO.v (V.extract rfl rfl) rfl ?_
          refine XO.v (V.extract rfl rfl) rfl ?_
          refine XO.v (V.assign rfl) rfl ?_
          refine XO.v (V.assign rfl) rfl ?_
          refine XO.nil ?_
          refine XE.next ?_
          refine XC.keep [(0, _), (4, _), (5, _), (6, _), (7, _), (8, _)] (Sub.cons rfl (Sub.cons rfl (Sub.cons rfl (Sub.cons rfl (Sub.cons rfl (Sub.cons rfl (Sub.nil _))))))) ?_
          refine XC.seq ?_
          refine XC.region ?_
          refine XO.v (V.move rfl) rfl ?_
          refine XO.v (V.move rfl) rfl ?_
          refine XO.v (V.move rfl) rfl ?_
          refine XO.v (V.indexSl rfl rfl sl_22 (by omega)) rfl ?_
          refine XO.v (V.fieldAddr rfl fo_31_1) rfl ?_
          refine XO.v (V.loadRo rfl (inXM (.there (.there (.there .here)))) (acts_ld_A A len _ (by omega)) sc_3) rfl ?_
          refine XO.call rfl (u_Take _ _ _ hx _) (.cons (.there (.there .here)) .nil) cl_10 rfl ?_
          rintro _ _ ⟨rfl, rfl⟩
          refine XO.v (V.move rfl) rfl ?_
          refine XO.v (V.extract rfl rfl) rfl ?_
          refine XO.v (V.extract rfl rfl) rfl ?_
          refine XO.v (V.assign rfl) rfl ?_
          refine XO.v (V.assign rfl) rfl ?_
          refine XO.nil ?_
          refine XE.next ?_
          refine XC.keep [(0, _), (4, _), (5, _), (6, _), (7, _), (8, _), (9, _), (10, _)] (Sub.cons rfl (Sub.cons rfl (Sub.cons rfl (Sub.cons rfl (Sub.cons rfl (Sub.cons rfl (Sub.cons rfl (Sub.cons rfl (Sub.nil _))))))))) ?_
          refine XC.seq ?_
          refine XC.region ?_
          refine XO.v (V.move rfl) rfl ?_
          refine XO.v (V.move rfl) rfl ?_
          refine XO.v (V.cmp rfl rfl rfl) rfl ?_
          refine XO.v (V.move rfl) rfl ?_
          refine XO.splitF (d := 57) rfl (by simp) ?_
          refine XO.guardRun rfl rfl rfl ?_
          refine XO.v (V.move rfl) rfl ?_
          refine XO.guardRun rfl rfl rfl ?_
          refine XO.v (V.move rfl) rfl ?_
          refine XO.guardRun rfl rfl rfl ?_
          refine XO.call rfl (same_any _ _ (BB.take_nn _ _)) .nil cl_11 rfl ?_
          rintro _ _ ⟨rfl, rfl⟩
          refine XO.guardRun rfl rfl rfl ?_
          refine XO.v (V.notP rfl) rfl ?_
          refine XO.v (V.pick rfl rfl rfl rfl) rfl ?_
          refine XO.nil ?_
          refine XE.next ?_
          refine XC.keep [(0, _), (4, _), (5, _), (6, _), (62, _)] (Sub.cons rfl (Sub.cons rfl (Sub.cons rfl (Sub.cons rfl (Sub.cons rfl (Sub.nil _)))))) ?_
          refine XC.condFP rfl (by simp) ?_
          refine XC.skip ?_
          refine XE.meetG ((x.1.take (A x.2).a).2.2) ?_ (Sub.cons rfl (Sub.cons rfl (Sub.cons rfl (Sub.cons rfl (Sub.nil _))))) (fun _ hw => XM.pick (.cons (.there .here) (.cons .here (.cons .here (.cons .here .nil)))) hw)
          · exact hx.take _
        · skip
          refine XC.seq ?_
          refine XC.regionQ mixed (f := 16) (l := #[false, false, false, false, false, false, false, false, false, false, false, false, false, false, false, false]) rfl rfl XM.drawn' ?_
          refine XQ.pv (i := 0) (l' := #[true, false, false, false, false, false, false, false, false, false, false, false, false, false, false, false]) rfl (by kernel_rfl) rfl (V.move rfl) rfl rfl ?_
          refine XQ.pv (i := 1) (l' := #[true, true, false, false, false, false, false, false, false, false, false, false, false, false, false, false]) rfl (by kernel_rfl) rfl (V.move rfl) rfl rfl ?_
          refine XQ.pv (i := 2) (l' := #[true, true, true, false, false, false, false, false, false, false, false, false, false, false, false, false]) rfl (by kernel_rfl) rfl (V.move rfl) rfl rfl ?_
          refine XQ.pv (i := 3) (l' := #[true, true, true, true, false, false, false, false, false, false, false, false, false, false, false, false]) rfl (by kernel_rfl) rfl (V.indexSl rfl rfl sl_22 (by omega)) rfl rfl ?_
          refine XQ.pv (i := 4) (l' := #[true, true, true, true, true, false, false, false, false, false, false, false, false, false, false, false]) rfl (by kernel_rfl) rfl (V.fieldAddr rfl fo_31_1) rfl rfl ?_
          refine XQ.load (i := 5) (l' := #[true, true, true, true, true, true, false, false, false, false, false, false, false, false, false, false]) (.ro _ _ _ _) [6, 13, 14] rfl (by kernel_rfl) rfl (.there (.there (.there .here))) (V.loadRo rfl inEnt (acts_ld_A A len _ (by omega)) sc_3) rfl (by kernel_rfl) rfl ?_
          refine XQ.pv (i := 7) (l' := #[true, true, true, true, true, true, false, true, false, false, false, false, false, false, false, false]) rfl (by kernel_rfl) rfl (V.move rfl) rfl rfl ?_
          refine XQ.pv (i := 8) (l' := #[true, true, true, true, true, true, false, true, true, false, false, false, false, false, false, false]) rfl (by kernel_rfl) rfl (V.move rfl) rfl rfl ?_
          refine XQ.pv (i := 9) (l' := #[true, true, true, true, true, true, false, true, true, true, false, false, false, false, false, false]) rfl (by kernel_rfl) rfl (V.move rfl) rfl rfl ?_
          refine XQ.pv (i := 10) (l' := #[true, true, true, true, true, true, false, true, true, true, true, false, false, false, false, false]) rfl (by kernel_rfl) rfl (V.indexSl rfl rfl sl_22 (by omega)) rfl rfl ?_
          refine XQ.pv (i := 11) (l' := #[true, true, true, true, true, true, false, true, true, true, true, true, false, false, false, false]) rfl (by kernel_rfl) rfl (V.fieldAddr rfl fo_31_1) rfl rfl ?_
          refine XQ.load (i := 12) (l' := #[true, true, true, true, true, true, false, true, true, true, true, true, true, false, false, false]) (.ro _ _ _ _) [13, 14] rfl (by kernel_rfl) rfl (.there (.there (.there .here))) (V.loadRo rfl inEnt (acts_ld_A A len _ (by omega)) sc_3) rfl (by kernel_rfl) rfl ?_
          refine XQ.call (i := 6) (l' := #[true, true, true, true, true, true, true, true, true, true, true, true, true, false, false, false]) rfl (by kernel_rfl) rfl rfl (p_Give _ _ _ hx _) (.cons .here .nil) cl_12 rfl (by rintro _ _ ⟨rfl, rfl⟩; all_goals (intro _ hw'; exact ⟨fun _ => inXM (.there (.there (.there .here))) _ hw', fun hs => (hs 6 (by simp) rfl).elim, trivial⟩)) ?_
          rintro _ _ ⟨rfl, rfl⟩
          refine XQ.call (i := 13) (l' := #[true, true, true, true, true, true, true, true, true, true, true, true, true, true, false, false]) rfl (by kernel_rfl) rfl rfl (u_Give _ _ _ hx _) (.cons (.there .here) .nil) cl_13 rfl (by rintro _ _ ⟨rfl, rfl⟩; all_goals (intro _ hw'; exact ⟨fun hs => (hs 13 (by simp) rfl).elim, fun hs => (hs 6 (by simp) rfl).elim, trivial⟩)) ?_
          rintro _ _ ⟨rfl, rfl⟩
          refine XQ.call (i := 14) (l' := #[true, true, true, true, true, true, true, true, true, true, true, true, true, true, true, false]) rfl (by kernel_rfl) rfl rfl (same_any _ _ (BB.give_nn _ _)) .nil cl_11 rfl (by rintro _ _ ⟨rfl, rfl⟩; all_goals (intro _ hw'; exact ⟨fun hs => (hs 13 (by simp) rfl).elim, fun hs => (hs 6 (by simp) rfl).elim, trivial⟩)) ?_
          rintro _ _ ⟨rfl, rfl⟩
          refine XQ.pv (i := 15) (l' := #[true, true, true, true, true, true, true, true, true, true, true, true, true, true, true, true]) rfl (by kernel_rfl) rfl (V.notP rfl) rfl rfl ?_
          refine XQ.done (by kernel_rfl) ?_
          refine XE.next ?_
          refine XC.keep [(0, _), (4, _), (5, _), (6, _), (78, _)] (Sub.cons rfl (Sub.cons rfl (Sub.cons rfl (Sub.cons rfl (Sub.cons rfl (Sub.nil _)))))) ?_
          refine XC.condFP rfl (by simp) ?_
          refine XC.skip ?_
          refine XE.meetG ((x.1.give (A x.2).a).2) ?_ (Sub.cons rfl (Sub.cons rfl (Sub.cons rfl (Sub.cons rfl (Sub.nil _))))) (fun _ hw => XM.pick (.cons (.there .here) (.cons .here (.cons .here (.cons .here .nil)))) hw)
          · exact hx.give _
      intro y hy
      refine XC.seq ?_
      refine XC.region ?_
      refine XO.v (V.move rfl) rfl ?_
      refine XO.v (V.rem rfl rfl (by first | decide | omega) _ (Int.tmod_eq_emod_of_nonneg (by omega))) rfl ?_
      refine XO.v (V.cmp rfl rfl rfl) rfl ?_
      refine XO.v (V.move rfl) rfl ?_
      refine XO.splitP (d := 82) rfl (fun h5 => ?_) (fun h5 => ?_)
      · skip
        refine XO.guardRun rfl rfl rfl ?_
        refine XO.v (V.move rfl) rfl ?_
        refine XO.guardRun rfl rfl rfl ?_
        refine XO.v (V.move rfl) rfl ?_
        refine XO.guardRun rfl rfl rfl ?_
        refine XO.callR 2 rfl (as_blocks _ _ _ hy) (.cons .here (.cons .here (.cons .here .nil))) rfl cl_14 rfl ?_
        rintro _ _ ⟨rfl, rfl⟩
        refine XO.guardRun rfl rfl rfl ?_
        refine XO.v (V.not rfl) rfl ?_
        refine XO.v (V.pick rfl rfl rfl rfl) rfl ?_
        refine XO.nil ?_
        refine XE.next ?_
        refine XC.keep [(0, _), (4, _), (5, _), (6, _), (87, _)] (Sub.cons rfl (Sub.cons rfl (Sub.cons rfl (Sub.cons rfl (Sub.cons rfl (Sub.nil _)))))) ?_
        refine XC.condF rfl rfl ?_
        refine XC.skip ?_
        refine XE.blockNormal ?_
        refine XE.next ?_
        refine XC.keep [(0, _), (4, _), (5, _), (6, _)] (Sub.cons rfl (Sub.cons rfl (Sub.cons rfl (Sub.cons rfl (Sub.nil _))))) ?_
        refine XC.region ?_
        refine XO.v (V.move rfl) rfl ?_
        refine XO.v (V.add rfl rfl _ (IntWalk.i64_in _ (by omega))) rfl ?_
        refine XO.v (V.assign rfl) rfl ?_
        refine XO.nil ?_
        refine XE.again ((y, x.2 + 1)) ?_ ?_ (Sub.cons rfl (Sub.cons rfl (Sub.cons rfl (Sub.cons rfl (Sub.nil _))))) (fun _ hw => XM.pick (.cons .here (.cons .here (.cons .here (.cons .here .nil)))) hw)
        · skip
          (simp; omega)
        · skip
          exact ⟨hy, by simp; omega, by simp; omega⟩
      · skip
        refine XO.guardSkip rfl rfl rfl rfl rfl ?_
        refine XO.guardSkip rfl rfl rfl rfl rfl ?_
        refine XO.guardSkip rfl rfl rfl rfl rfl ?_
        refine XO.guardSkip rfl rfl rfl rfl rfl ?_
        refine XO.v (V.pick rfl rfl rfl rfl) rfl ?_
        refine XO.nil ?_
        refine XE.next ?_
        refine XC.keep [(0, _), (4, _), (5, _), (6, _), (87, _)] (Sub.cons rfl (Sub.cons rfl (Sub.cons rfl (Sub.cons rfl (Sub.cons rfl (Sub.nil _)))))) ?_
        refine XC.condF rfl rfl ?_
        refine XC.skip ?_
        refine XE.blockNormal ?_
        refine XE.next ?_
        refine XC.keep [(0, _), (4, _), (5, _), (6, _)] (Sub.cons rfl (Sub.cons rfl (Sub.cons rfl (Sub.cons rfl (Sub.nil _))))) ?_
        refine XC.region ?_
        refine XO.v (V.move rfl) rfl ?_
        refine XO.v (V.add rfl rfl _ (IntWalk.i64_in _ (by omega))) rfl ?_
        refine XO.v (V.assign rfl) rfl ?_
        refine XO.nil ?_
        refine XE.again ((y, x.2 + 1)) ?_ ?_ (Sub.cons rfl (Sub.cons rfl (Sub.cons rfl (Sub.cons rfl (Sub.nil _))))) (fun _ hw => XM.pick (.cons .here (.cons .here (.cons .here (.cons .here .nil)))) hw)
        · skip
          (simp; omega)
        · skip
          exact ⟨hy, by simp; omega, by simp; omega⟩
    · skip
      refine XC.exit ?_
      refine XE.thenExit ?_
      refine XE.thenExit ?_
      refine XE.blockExit ?_
      refine XE.next ?_
      refine XC.keep [(4, _), (5, _)] (Sub.cons rfl (Sub.cons rfl (Sub.nil _))) ?_
      refine XC.seq ?_
      refine XC.region ?_
      refine XO.v (V.move rfl) rfl ?_
      refine XO.v (V.move rfl) rfl ?_
      refine XO.callR 2 rfl (as_blocks _ _ _ hx) (.cons .here (.cons .here (.cons .here .nil))) rfl cl_14 rfl ?_
      rintro _ _ ⟨rfl, rfl⟩
      refine XO.v (V.assign rfl) rfl ?_
      refine XO.nil ?_
      refine XE.next ?_
      refine XC.keep [(2, _)] (Sub.cons rfl (Sub.nil _)) ?_
      refine XC.ret ?_
      refine XE.ret1 rfl rfl (post_of .nil rfl ?_)
      exact ⟨rfl, rfl⟩
end Go.X
