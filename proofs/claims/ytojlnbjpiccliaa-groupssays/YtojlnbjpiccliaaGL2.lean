import Derived.Test.YtojlnbjpiccliaaGL1
namespace Go.X
open Go Go.Proofs
theorem ag_31 : aggT Try.prog 31 = true := by kernel_rfl
theorem cl_10 : callable Try.prog 10 = true := by kernel_rfl
theorem cl_26 : callable Try.prog 26 = true := by kernel_rfl
theorem cl_28 : callable Try.prog 28 = true := by kernel_rfl
theorem cl_30 : callable Try.prog 30 = true := by kernel_rfl
theorem cl_31 : callable Try.prog 31 = true := by kernel_rfl
theorem cl_32 : callable Try.prog 32 = true := by kernel_rfl
theorem cl_33 : callable Try.prog 33 = true := by kernel_rfl
theorem cl_34 : callable Try.prog 34 = true := by kernel_rfl
theorem cl_39 : callable Try.prog 39 = true := by kernel_rfl
theorem cl_40 : callable Try.prog 40 = true := by kernel_rfl
theorem cl_41 : callable Try.prog 41 = true := by kernel_rfl
theorem cl_42 : callable Try.prog 42 = true := by kernel_rfl
theorem cl_43 : callable Try.prog 43 = true := by kernel_rfl
theorem cl_44 : callable Try.prog 44 = true := by kernel_rfl
theorem cl_45 : callable Try.prog 45 = true := by kernel_rfl
theorem fo_31_0 : fieldOff Try.prog 31 0 = some 0 := by kernel_rfl
theorem fo_31_1 : fieldOff Try.prog 31 1 = some 1 := by kernel_rfl
theorem fo_31_2 : fieldOff Try.prog 31 2 = some 2 := by kernel_rfl
theorem fo_31_3 : fieldOff Try.prog 31 3 = some 3 := by kernel_rfl
theorem fo_31_4 : fieldOff Try.prog 31 4 = some 4 := by kernel_rfl
theorem sc_29 : scal Try.prog 29 = true := by kernel_rfl
theorem sc_9 : scal Try.prog 9 = true := by kernel_rfl
theorem sl_22 : sliceOf Try.prog 22 = some (31, 8) := by kernel_rfl
theorem sz_31_8 : szOf Try.prog 31 = some 8 := by kernel_rfl
set_option maxRecDepth 10000 in
set_option maxHeartbeats 4000000 in
theorem law_some (bl ol len cap : Nat) (hlen : len ≤ cap) (A : Int → ActV) (hA : ∀ z : Int, 0 ≤ z → z < len → (A z).ok) : Spec Try.prog 5 [.slice (some ⟨bl, ol, none⟩) len cap]
    [.ro bl ol (8 * len) (encActs A)]
    (fun v H1 => v = .bool true ∧ H1 = []) := by
  refine Spec.intro Try.func5 rfl rfl ?_
  intro W
  refine XC.seq ?_
  refine XC.region ?_
  refine XO.v (V.assign rfl) rfl ?_
  refine XO.nil ?_
  refine XE.next ?_
  refine XC.keep [(0, _)] (Sub.cons rfl (Sub.nil _)) ?_
  refine XC.seq ?_
  refine XC.region ?_
  refine XO.call rfl (trees_any) .nil cl_26 rfl ?_
  rintro _ _ ⟨rfl, rfl⟩
  refine XO.v (V.assign rfl) rfl ?_
  refine XO.nil ?_
  refine XE.next ?_
  refine XC.keep [(0, _), (3, _)] (Sub.cons rfl (Sub.cons rfl (Sub.nil _))) ?_
  refine XC.seq ?_
  refine XC.seq ?_
  refine XC.region ?_
  refine XO.v (V.move rfl) rfl ?_
  refine XO.v (V.not rfl) rfl ?_
  refine XO.v (V.move rfl) rfl ?_
  refine XO.guardRun rfl rfl rfl ?_
  refine XO.v (V.move rfl) rfl ?_
  refine XO.guardRun rfl rfl rfl ?_
  refine XO.call rfl (light_any _ _ _ _) .nil cl_10 rfl ?_
  rintro _ _ ⟨rfl, rfl⟩
  refine XO.guardRun rfl rfl rfl ?_
  refine XO.v (V.notP rfl) rfl ?_
  refine XO.v (V.pick rfl rfl rfl rfl) rfl ?_
  refine XO.nil ?_
  refine XE.next ?_
  refine XC.keep [(0, _), (3, _), (24, _)] (Sub.cons rfl (Sub.cons rfl (Sub.cons rfl (Sub.nil _)))) ?_
  refine XC.condP rfl (fun h1 => ?_) (fun h1 => ?_)
  · skip
    refine XC.seq ?_
    refine XC.region ?_
    refine XO.v (V.move rfl) rfl ?_
    refine XO.v (V.assign rfl) rfl ?_
    refine XO.nil ?_
    refine XE.next ?_
    refine XC.keep [(2, _)] (Sub.cons rfl (Sub.nil _)) ?_
    refine XC.ret ?_
    refine XE.thenRet ?_
    refine XE.ret1 rfl rfl (post_of .nil rfl ?_)
    exact ⟨rfl, rfl⟩
  · skip
    refine XC.skip ?_
    refine XE.next ?_
    refine XC.keep [(0, _)] (Sub.cons rfl (Sub.nil _)) ?_
    refine XC.seq ?_
    refine XC.region ?_
    refine XO.call rfl (g_new) .nil cl_27 rfl ?_
    rintro _ _ ⟨bs, rfl, rfl⟩
    refine XO.v (V.assign rfl) rfl ?_
    refine XO.nil ?_
    refine XE.next ?_
    refine XC.keep [(0, _), (4, _)] (Sub.cons rfl (Sub.cons rfl (Sub.nil _))) ?_
    refine XC.seq ?_
    refine XC.region ?_
    refine XO.call rfl (r_new) .nil cl_28 rfl ?_
    rintro _ _ ⟨bm, rfl, rfl⟩
    refine XO.v (V.assign rfl) rfl ?_
    refine XO.nil ?_
    refine XE.next ?_
    refine XC.keep [(0, _), (4, _), (5, _)] (Sub.cons rfl (Sub.cons rfl (Sub.cons rfl (Sub.nil _)))) ?_
    refine XC.seq ?_
    refine XC.seq ?_
    refine XC.region ?_
    refine XO.v (V.assign rfl) rfl ?_
    refine XO.nil ?_
    refine XE.next ?_
    refine XC.keep [(0, _), (4, _), (5, _), (6, _)] (Sub.cons rfl (Sub.cons rfl (Sub.cons rfl (Sub.cons rfl (Sub.nil _))))) ?_
    refine XC.block ?_
    refine XC.loop (σ := TG × TG × Int) (fun x => (len - x.2.2).toNat) (fun x => x.1.Inv ∧ TG.Rel x.1 x.2.1 ∧ x.1.Small (1000 * x.2.2) ∧ x.2.1.Small (1000 * x.2.2) ∧ 0 ≤ x.2.2 ∧ x.2.2 ≤ len) (fun x => [(6, .int .i64 x.2.2), (0, .slice (some ⟨bl, ol, none⟩) len cap), (4, ptr bs 0 0), (5, ptr bm 0 0)]) (fun x => XM W (foot [.ro bl ol (8 * len) (encActs A)]) [.cells bs 0 60 (encGt x.1), .cells bm 0 60 (encGr x.2.1), .ro bl ol (8 * len) (encActs A)]) ((TG.init, TG.init, 0)) ?_ (Sub.cons rfl (Sub.cons rfl (Sub.cons rfl (Sub.cons rfl (Sub.nil _))))) (fun _ hw => XM.pick (.cons (.there .here) (.cons .here (.cons .here .nil))) hw) ?_
    · skip
      exact ⟨TG.Inv.init, TG.Rel.refl _, TG.Small.init, TG.Small.init, by simp, by simp⟩
    intro x hx
    obtain ⟨hI, hR, hS, hT, hx0, hx1⟩ := hx
    have hO := hI.ok
    have hO2 := hR.ok hO
    refine XC.seq ?_
    refine XC.seq ?_
    refine XC.region ?_
    refine XO.v (V.move rfl) rfl ?_
    refine XO.v (V.move rfl) rfl ?_
    refine XO.v (V.lenSl rfl Try.underlying22) rfl ?_
    refine XO.v (V.cmp rfl rfl rfl) rfl ?_
    refine XO.nil ?_
    refine XE.next ?_
    refine XC.keep [(0, _), (4, _), (5, _), (6, _), (31, _)] (Sub.cons rfl (Sub.cons rfl (Sub.cons rfl (Sub.cons rfl (Sub.cons rfl (Sub.nil _)))))) ?_
    refine XC.condP rfl (fun h2 => ?_) (fun h2 => ?_)
    · skip
      refine XC.skip ?_
      refine XE.next ?_
      refine XC.keep [(0, _), (4, _), (5, _), (6, _)] (Sub.cons rfl (Sub.cons rfl (Sub.cons rfl (Sub.cons rfl (Sub.nil _))))) ?_
      refine XC.seq ?_
      refine XC.block ?_
      refine XC.seq ?_
      refine XC.region ?_
      refine XO.v (V.move rfl) rfl ?_
      refine XO.v (V.move rfl) rfl ?_
      refine XO.v (V.indexSl rfl rfl sl_22 (by omega)) rfl ?_
      refine XO.v (V.loadAggRo rfl (inXM (.there (.there .here))) (acts_load A len _ (by omega)) ag_31 sz_31_8) rfl ?_
      refine XO.allocZ (z := .agg actZero) (m := 8) (C := cellsOf actZero) (by kernel_rfl) rfl (fun _ _ => rfl) rfl ?_
      intro ba
      refine XO.storeAgg rfl rfl .here (acts_store _) ⟨rfl, rfl⟩ sz_31_8 ?_
      refine XO.nil ?_
      refine XE.next ?_
      refine XC.keep [(0, _), (4, _), (5, _), (6, _), (7, _)] (Sub.cons rfl (Sub.cons rfl (Sub.cons rfl (Sub.cons rfl (Sub.cons rfl (Sub.nil _)))))) ?_
      refine XC.seq ?_
      refine XC.region ?_
      refine XO.v (V.assign rfl) rfl ?_
      refine XO.nil ?_
      refine XE.next ?_
      refine XC.keep [(0, _), (4, _), (5, _), (6, _), (7, _)] (Sub.cons rfl (Sub.cons rfl (Sub.cons rfl (Sub.cons rfl (Sub.cons rfl (Sub.nil _)))))) ?_
      refine XC.cutG (σ := TG × TG) (fun y => y.1.Inv ∧ TG.Rel y.1 y.2 ∧ y.1.Small (1000 * x.2.2 + 1000) ∧ y.2.Small (1000 * x.2.2 + 1000)) (fun y => [(0, .slice (some ⟨bl, ol, none⟩) len cap), (4, ptr bs 0 0), (5, ptr bm 0 0), (6, .int .i64 x.2.2), (8, .bool true)]) (fun y => XM W (foot [.ro bl ol (8 * len) (encActs A)]) [.cells bs 0 60 (encGt y.1), .cells bm 0 60 (encGr y.2), .ro bl ol (8 * len) (encActs A)]) ?_ ?_
      · skip
        refine XC.seq ?_
        refine XC.region ?_
        refine XO.v (V.fieldAddr rfl fo_31_0) rfl ?_
        refine XO.v (V.load rfl (inXM .here) (encAct.ld_Kind _) sc_9) rfl ?_
        refine XO.nil ?_
        refine XE.next ?_
        refine XC.keep [(0, _), (4, _), (5, _), (6, _), (7, _), (39, _)] (Sub.cons rfl (Sub.cons rfl (Sub.cons rfl (Sub.cons rfl (Sub.cons rfl (Sub.cons rfl (Sub.nil _))))))) ?_
        refine XC.block ?_
        refine XC.seq ?_
        refine XC.region ?_
        refine XO.v (V.strCmp rfl rfl rfl) rfl ?_
        refine XO.v (V.assign rfl) rfl ?_
        refine XO.nil ?_
        refine XE.next ?_
        refine XC.keep [(0, _), (4, _), (5, _), (6, _), (7, _), (39, _), (62, _)] (Sub.cons rfl (Sub.cons rfl (Sub.cons rfl (Sub.cons rfl (Sub.cons rfl (Sub.cons rfl (Sub.cons rfl (Sub.nil _)))))))) ?_
        refine XC.condP rfl (fun h3 => ?_) (fun h3 => ?_)
        · skip
          refine XC.seq ?_
          refine XC.region ?_
          refine XO.v (V.move rfl) rfl ?_
          refine XO.v (V.fieldAddr rfl fo_31_1) rfl ?_
          refine XO.v (V.load rfl (inXM .here) (encAct.ld_A _) sc_3) rfl ?_
          refine XO.call rfl (g_Add _ _ _ hO _) (.cons (.there .here) .nil) cl_29 rfl ?_
          rintro _ _ ⟨rfl, rfl⟩
          refine XO.v (V.move rfl) rfl ?_
          refine XO.v (V.extract rfl rfl) rfl ?_
          refine XO.v (V.extract rfl rfl) rfl ?_
          refine XO.v (V.assign rfl) rfl ?_
          refine XO.v (V.assign rfl) rfl ?_
          refine XO.nil ?_
          refine XE.next ?_
          refine XC.keep [(0, _), (4, _), (5, _), (6, _), (7, _), (9, _), (10, _)] (Sub.cons rfl (Sub.cons rfl (Sub.cons rfl (Sub.cons rfl (Sub.cons rfl (Sub.cons rfl (Sub.cons rfl (Sub.nil _)))))))) ?_
          refine XC.seq ?_
          refine XC.region ?_
          refine XO.v (V.move rfl) rfl ?_
          refine XO.v (V.fieldAddr rfl fo_31_1) rfl ?_
          refine XO.v (V.load rfl (inXM (.there .here)) (encAct.ld_A _) sc_3) rfl ?_
          refine XO.call rfl (r_Add _ _ _ hO2 _) (.cons (.there (.there .here)) .nil) cl_30 rfl ?_
          rintro _ _ ⟨rfl, rfl⟩
          refine XO.v (V.move rfl) rfl ?_
          refine XO.v (V.extract rfl rfl) rfl ?_
          refine XO.v (V.extract rfl rfl) rfl ?_
          refine XO.v (V.assign rfl) rfl ?_
          refine XO.v (V.assign rfl) rfl ?_
          refine XO.nil ?_
          refine XE.next ?_
          refine XC.keep [(0, _), (4, _), (5, _), (6, _), (9, _), (10, _), (11, _), (12, _)] (Sub.cons rfl (Sub.cons rfl (Sub.cons rfl (Sub.cons rfl (Sub.cons rfl (Sub.cons rfl (Sub.cons rfl (Sub.cons rfl (Sub.nil _))))))))) ?_
          refine XC.region ?_
          refine XO.v (V.move rfl) rfl ?_
          refine XO.v (V.move rfl) rfl ?_
          refine XO.v (V.cmp rfl rfl rfl) rfl ?_
          refine XO.v (V.move rfl) rfl ?_
          refine XO.splitT (d := 81) rfl (by rw [hR.addN hO]) ?_
          refine XO.guardRun rfl rfl rfl ?_
          refine XO.v (V.move rfl) rfl ?_
          refine XO.guardRun rfl rfl rfl ?_
          refine XO.v (V.move rfl) rfl ?_
          refine XO.guardRun rfl rfl rfl ?_
          refine XO.call rfl (same_any _ _ (TG.addE_nn _ _)) .nil cl_15 rfl ?_
          rintro _ _ ⟨rfl, rfl⟩
          refine XO.v (V.pick rfl rfl rfl rfl) rfl ?_
          refine XO.v (V.assign rfl) rfl ?_
          refine XO.nil ?_
          refine XE.blockNormal ?_
          refine XE.meetG ((x.1.add (A x.2.2).a, x.2.1.add (A x.2.2).a)) ?_ (Sub.cons rfl (Sub.cons rfl (Sub.cons rfl (Sub.cons rfl (Sub.cons (eqb (by rw [hR.addE hO]; simp)) (Sub.nil _)))))) (fun _ hw => XM.pick (.cons (.there .here) (.cons .here (.cons (.there .here) .nil))) hw)
          · exact ⟨hI.add _, hR.add hO _, (hS.add (by omega) _).mono (by omega), (hT.add (by omega) _).mono (by omega)⟩
        · skip
          refine XC.seq ?_
          refine XC.region ?_
          refine XO.v (V.strCmp rfl rfl rfl) rfl ?_
          refine XO.v (V.assign rfl) rfl ?_
          refine XO.nil ?_
          refine XE.next ?_
          refine XC.keep [(0, _), (4, _), (5, _), (6, _), (7, _), (39, _), (86, _)] (Sub.cons rfl (Sub.cons rfl (Sub.cons rfl (Sub.cons rfl (Sub.cons rfl (Sub.cons rfl (Sub.cons rfl (Sub.nil _)))))))) ?_
          refine XC.condP rfl (fun h5 => ?_) (fun h5 => ?_)
          · skip
            refine XC.regionQ mixed (f := 10) (l := #[false, false, false, false, false, false, false, false, false, false]) rfl rfl XM.drawn' ?_
            refine XQ.pv (i := 0) (l' := #[true, false, false, false, false, false, false, false, false, false]) rfl (by kernel_rfl) rfl (V.move rfl) rfl rfl ?_
            refine XQ.pv (i := 1) (l' := #[true, true, false, false, false, false, false, false, false, false]) rfl (by kernel_rfl) rfl (V.fieldAddr rfl fo_31_1) rfl rfl ?_
            refine XQ.load (i := 2) (l' := #[true, true, true, false, false, false, false, false, false, false]) (.cells _ _ _ _) [3, 7, 8] rfl (by kernel_rfl) rfl .here (V.load rfl inEnt (encAct.ld_A _) sc_3) rfl (by kernel_rfl) rfl ?_
            refine XQ.pv (i := 4) (l' := #[true, true, true, false, true, false, false, false, false, false]) rfl (by kernel_rfl) rfl (V.move rfl) rfl rfl ?_
            refine XQ.pv (i := 5) (l' := #[true, true, true, false, true, true, false, false, false, false]) rfl (by kernel_rfl) rfl (V.fieldAddr rfl fo_31_1) rfl rfl ?_
            refine XQ.load (i := 6) (l' := #[true, true, true, false, true, true, true, false, false, false]) (.cells _ _ _ _) [7, 8] rfl (by kernel_rfl) rfl .here (V.load rfl inEnt (encAct.ld_A _) sc_3) rfl (by kernel_rfl) rfl ?_
            refine XQ.call (i := 3) (l' := #[true, true, true, true, true, true, true, false, false, false]) rfl (by kernel_rfl) rfl rfl (g_Remove _ _ _ _) (.cons (.there .here) .nil) cl_31 rfl (by rintro _ _ ⟨rfl, rfl⟩; all_goals (intro _ hw'; exact ⟨fun _ => inXM (.there .here) _ hw', fun hs => (hs 3 (by simp) rfl).elim, trivial⟩)) ?_
            rintro _ _ ⟨rfl, rfl⟩
            refine XQ.call (i := 7) (l' := #[true, true, true, true, true, true, true, true, false, false]) rfl (by kernel_rfl) rfl rfl (r_Remove _ _ _ _) (.cons (.there (.there .here)) .nil) cl_32 rfl (by rintro _ _ ⟨rfl, rfl⟩; all_goals (intro _ hw'; exact ⟨fun hs => (hs 7 (by simp) rfl).elim, fun hs => (hs 3 (by simp) rfl).elim, trivial⟩)) ?_
            rintro _ _ ⟨rfl, rfl⟩
            refine XQ.call (i := 8) (l' := #[true, true, true, true, true, true, true, true, true, false]) rfl (by kernel_rfl) rfl rfl (same_any _ _ (TG.removeE_nn _ _)) .nil cl_15 rfl (by rintro _ _ ⟨rfl, rfl⟩; all_goals (intro _ hw'; exact ⟨fun hs => (hs 7 (by simp) rfl).elim, fun hs => (hs 3 (by simp) rfl).elim, trivial⟩)) ?_
            rintro _ _ ⟨rfl, rfl⟩
            refine XQ.pv (i := 9) (l' := #[true, true, true, true, true, true, true, true, true, true]) rfl (by kernel_rfl) rfl (V.assign rfl) rfl rfl ?_
            refine XQ.done (by kernel_rfl) ?_
            refine XE.blockNormal ?_
            refine XE.meetG ((x.1.remove (A x.2.2).a, x.2.1.remove' (A x.2.2).a)) ?_ (Sub.cons rfl (Sub.cons rfl (Sub.cons rfl (Sub.cons rfl (Sub.cons (eqb (by rw [hR.removeE hI]; simp)) (Sub.nil _)))))) (fun _ hw => XM.pick (.cons (.there .here) (.cons .here (.cons (.there .here) .nil))) hw)
            · exact ⟨hI.remove _, hR.remove hI _, (hS.remove (by omega) _).mono (by omega), (hT.remove' _).mono (by omega)⟩
          · skip
            refine XC.seq ?_
            refine XC.region ?_
            refine XO.v (V.strCmp rfl rfl rfl) rfl ?_
            refine XO.v (V.assign rfl) rfl ?_
            refine XO.nil ?_
            refine XE.next ?_
            refine XC.keep [(0, _), (4, _), (5, _), (6, _), (7, _), (39, _), (97, _)] (Sub.cons rfl (Sub.cons rfl (Sub.cons rfl (Sub.cons rfl (Sub.cons rfl (Sub.cons rfl (Sub.cons rfl (Sub.nil _)))))))) ?_
            refine XC.condP rfl (fun h6 => ?_) (fun h6 => ?_)
            · skip
              refine XC.regionQ mixed (f := 18) (l := #[false, false, false, false, false, false, false, false, false, false, false, false, false, false, false, false, false, false]) rfl rfl XM.drawn' ?_
              refine XQ.pv (i := 0) (l' := #[true, false, false, false, false, false, false, false, false, false, false, false, false, false, false, false, false, false]) rfl (by kernel_rfl) rfl (V.move rfl) rfl rfl ?_
              refine XQ.pv (i := 1) (l' := #[true, true, false, false, false, false, false, false, false, false, false, false, false, false, false, false, false, false]) rfl (by kernel_rfl) rfl (V.fieldAddr rfl fo_31_1) rfl rfl ?_
              refine XQ.load (i := 2) (l' := #[true, true, true, false, false, false, false, false, false, false, false, false, false, false, false, false, false, false]) (.cells _ _ _ _) [7, 15, 16] rfl (by kernel_rfl) rfl .here (V.load rfl inEnt (encAct.ld_A _) sc_3) rfl (by kernel_rfl) rfl ?_
              refine XQ.pv (i := 3) (l' := #[true, true, true, true, false, false, false, false, false, false, false, false, false, false, false, false, false, false]) rfl (by kernel_rfl) rfl (V.fieldAddr rfl fo_31_2) rfl rfl ?_
              refine XQ.load (i := 4) (l' := #[true, true, true, true, true, false, false, false, false, false, false, false, false, false, false, false, false, false]) (.cells _ _ _ _) [7, 15, 16] rfl (by kernel_rfl) rfl .here (V.load rfl inEnt (encAct.ld_B _) sc_3) rfl (by kernel_rfl) rfl ?_
              refine XQ.pv (i := 5) (l' := #[true, true, true, true, true, true, false, false, false, false, false, false, false, false, false, false, false, false]) rfl (by kernel_rfl) rfl (V.fieldAddr rfl fo_31_3) rfl rfl ?_
              refine XQ.load (i := 6) (l' := #[true, true, true, true, true, true, true, false, false, false, false, false, false, false, false, false, false, false]) (.cells _ _ _ _) [7, 15, 16] rfl (by kernel_rfl) rfl .here (V.load rfl inEnt (encAct.ld_C _) sc_3) rfl (by kernel_rfl) rfl ?_
              refine XQ.pv (i := 8) (l' := #[true, true, true, true, true, true, true, false, true, false, false, false, false, false, false, false, false, false]) rfl (by kernel_rfl) rfl (V.move rfl) rfl rfl ?_
              refine XQ.pv (i := 9) (l' := #[true, true, true, true, true, true, true, false, true, true, false, false, false, false, false, false, false, false]) rfl (by kernel_rfl) rfl (V.fieldAddr rfl fo_31_1) rfl rfl ?_
              refine XQ.load (i := 10) (l' := #[true, true, true, true, true, true, true, false, true, true, true, false, false, false, false, false, false, false]) (.cells _ _ _ _) [15, 16] rfl (by kernel_rfl) rfl .here (V.load rfl inEnt (encAct.ld_A _) sc_3) rfl (by kernel_rfl) rfl ?_
              refine XQ.pv (i := 11) (l' := #[true, true, true, true, true, true, true, false, true, true, true, true, false, false, false, false, false, false]) rfl (by kernel_rfl) rfl (V.fieldAddr rfl fo_31_2) rfl rfl ?_
              refine XQ.load (i := 12) (l' := #[true, true, true, true, true, true, true, false, true, true, true, true, true, false, false, false, false, false]) (.cells _ _ _ _) [15, 16] rfl (by kernel_rfl) rfl .here (V.load rfl inEnt (encAct.ld_B _) sc_3) rfl (by kernel_rfl) rfl ?_
              refine XQ.pv (i := 13) (l' := #[true, true, true, true, true, true, true, false, true, true, true, true, true, true, false, false, false, false]) rfl (by kernel_rfl) rfl (V.fieldAddr rfl fo_31_3) rfl rfl ?_
              refine XQ.load (i := 14) (l' := #[true, true, true, true, true, true, true, false, true, true, true, true, true, true, true, false, false, false]) (.cells _ _ _ _) [15, 16] rfl (by kernel_rfl) rfl .here (V.load rfl inEnt (encAct.ld_C _) sc_3) rfl (by kernel_rfl) rfl ?_
              refine XQ.call (i := 7) (l' := #[true, true, true, true, true, true, true, true, true, true, true, true, true, true, true, false, false, false]) rfl (by kernel_rfl) rfl rfl (g_limit _ _ _ _ _ _) (.cons (.there .here) .nil) cl_33 rfl (by rintro _ _ ⟨rfl, rfl⟩; all_goals (intro _ hw'; exact ⟨fun _ => inXM (.there .here) _ hw', fun _ => inXM (.there .here) _ hw', fun _ => inXM (.there .here) _ hw', fun hs => (hs 7 (by simp) rfl).elim, fun hs => (hs 7 (by simp) rfl).elim, fun hs => (hs 7 (by simp) rfl).elim, trivial⟩)) ?_
              rintro _ _ ⟨rfl, rfl⟩
              refine XQ.call (i := 15) (l' := #[true, true, true, true, true, true, true, true, true, true, true, true, true, true, true, true, false, false]) rfl (by kernel_rfl) rfl rfl (r_limit _ _ _ _ _ _) (.cons (.there (.there .here)) .nil) cl_34 rfl (by rintro _ _ ⟨rfl, rfl⟩; all_goals (intro _ hw'; exact ⟨fun hs => (hs 15 (by simp) rfl).elim, fun hs => (hs 15 (by simp) rfl).elim, fun hs => (hs 15 (by simp) rfl).elim, fun hs => (hs 7 (by simp) rfl).elim, fun hs => (hs 7 (by simp) rfl).elim, fun hs => (hs 7 (by simp) rfl).elim, trivial⟩)) ?_
              rintro _ _ ⟨rfl, rfl⟩
              refine XQ.call (i := 16) (l' := #[true, true, true, true, true, true, true, true, true, true, true, true, true, true, true, true, true, false]) rfl (by kernel_rfl) rfl rfl (same_any _ _ (TG.limitE_nn _ _ _ _)) .nil cl_15 rfl (by rintro _ _ ⟨rfl, rfl⟩; all_goals (intro _ hw'; exact ⟨fun hs => (hs 15 (by simp) rfl).elim, fun hs => (hs 15 (by simp) rfl).elim, fun hs => (hs 15 (by simp) rfl).elim, fun hs => (hs 7 (by simp) rfl).elim, fun hs => (hs 7 (by simp) rfl).elim, fun hs => (hs 7 (by simp) rfl).elim, trivial⟩)) ?_
              rintro _ _ ⟨rfl, rfl⟩
              refine XQ.pv (i := 17) (l' := #[true, true, true, true, true, true, true, true, true, true, true, true, true, true, true, true, true, true]) rfl (by kernel_rfl) rfl (V.assign rfl) rfl rfl ?_
              refine XQ.done (by kernel_rfl) ?_
              refine XE.blockNormal ?_
              refine XE.meetG ((x.1.limit (A x.2.2).a (A x.2.2).b (A x.2.2).c, x.2.1.limit (A x.2.2).a (A x.2.2).b (A x.2.2).c)) ?_ (Sub.cons rfl (Sub.cons rfl (Sub.cons rfl (Sub.cons rfl (Sub.cons (eqb (by rw [hR.limitE]; simp)) (Sub.nil _)))))) (fun _ hw => XM.pick (.cons (.there .here) (.cons .here (.cons (.there .here) .nil))) hw)
              · exact ⟨hI.limit _ _ _, hR.limit _ _ _, (hS.limit _ _ _).mono (by omega), (hT.limit _ _ _).mono (by omega)⟩
            · skip
              refine XC.seq ?_
              refine XC.region ?_
              refine XO.v (V.strCmp rfl rfl rfl) rfl ?_
              refine XO.v (V.assign rfl) rfl ?_
              refine XO.nil ?_
              refine XE.next ?_
              refine XC.keep [(0, _), (4, _), (5, _), (6, _), (7, _), (39, _), (116, _)] (Sub.cons rfl (Sub.cons rfl (Sub.cons rfl (Sub.cons rfl (Sub.cons rfl (Sub.cons rfl (Sub.cons rfl (Sub.nil _)))))))) ?_
              refine XC.condP rfl (fun h7 => ?_) (fun h7 => ?_)
              · skip
                refine XC.regionQ mixed (f := 18) (l := #[false, false, false, false, false, false, false, false, false, false, false, false, false, false, false, false, false, false]) rfl rfl XM.drawn' ?_
                refine XQ.pv (i := 0) (l' := #[true, false, false, false, false, false, false, false, false, false, false, false, false, false, false, false, false, false]) rfl (by kernel_rfl) rfl (V.move rfl) rfl rfl ?_
                refine XQ.pv (i := 1) (l' := #[true, true, false, false, false, false, false, false, false, false, false, false, false, false, false, false, false, false]) rfl (by kernel_rfl) rfl (V.fieldAddr rfl fo_31_1) rfl rfl ?_
                refine XQ.load (i := 2) (l' := #[true, true, true, false, false, false, false, false, false, false, false, false, false, false, false, false, false, false]) (.cells _ _ _ _) [7, 15, 16] rfl (by kernel_rfl) rfl .here (V.load rfl inEnt (encAct.ld_A _) sc_3) rfl (by kernel_rfl) rfl ?_
                refine XQ.pv (i := 3) (l' := #[true, true, true, true, false, false, false, false, false, false, false, false, false, false, false, false, false, false]) rfl (by kernel_rfl) rfl (V.fieldAddr rfl fo_31_2) rfl rfl ?_
                refine XQ.load (i := 4) (l' := #[true, true, true, true, true, false, false, false, false, false, false, false, false, false, false, false, false, false]) (.cells _ _ _ _) [7, 15, 16] rfl (by kernel_rfl) rfl .here (V.load rfl inEnt (encAct.ld_B _) sc_3) rfl (by kernel_rfl) rfl ?_
                refine XQ.pv (i := 5) (l' := #[true, true, true, true, true, true, false, false, false, false, false, false, false, false, false, false, false, false]) rfl (by kernel_rfl) rfl (V.fieldAddr rfl fo_31_3) rfl rfl ?_
                refine XQ.load (i := 6) (l' := #[true, true, true, true, true, true, true, false, false, false, false, false, false, false, false, false, false, false]) (.cells _ _ _ _) [7, 15, 16] rfl (by kernel_rfl) rfl .here (V.load rfl inEnt (encAct.ld_C _) sc_3) rfl (by kernel_rfl) rfl ?_
                refine XQ.pv (i := 8) (l' := #[true, true, true, true, true, true, true, false, true, false, false, false, false, false, false, false, false, false]) rfl (by kernel_rfl) rfl (V.move rfl) rfl rfl ?_
                refine XQ.pv (i := 9) (l' := #[true, true, true, true, true, true, true, false, true, true, false, false, false, false, false, false, false, false]) rfl (by kernel_rfl) rfl (V.fieldAddr rfl fo_31_1) rfl rfl ?_
                refine XQ.load (i := 10) (l' := #[true, true, true, true, true, true, true, false, true, true, true, false, false, false, false, false, false, false]) (.cells _ _ _ _) [15, 16] rfl (by kernel_rfl) rfl .here (V.load rfl inEnt (encAct.ld_A _) sc_3) rfl (by kernel_rfl) rfl ?_
                refine XQ.pv (i := 11) (l' := #[true, true, true, true, true, true, true, false, true, true, true, true, false, false, false, false, false, false]) rfl (by kernel_rfl) rfl (V.fieldAddr rfl fo_31_2) rfl rfl ?_
                refine XQ.load (i := 12) (l' := #[true, true, true, true, true, true, true, false, true, true, true, true, true, false, false, false, false, false]) (.cells _ _ _ _) [15, 16] rfl (by kernel_rfl) rfl .here (V.load rfl inEnt (encAct.ld_B _) sc_3) rfl (by kernel_rfl) rfl ?_
                refine XQ.pv (i := 13) (l' := #[true, true, true, true, true, true, true, false, true, true, true, true, true, true, false, false, false, false]) rfl (by kernel_rfl) rfl (V.fieldAddr rfl fo_31_3) rfl rfl ?_
                refine XQ.load (i := 14) (l' := #[true, true, true, true, true, true, true, false, true, true, true, true, true, true, true, false, false, false]) (.cells _ _ _ _) [15, 16] rfl (by kernel_rfl) rfl .here (V.load rfl inEnt (encAct.ld_C _) sc_3) rfl (by kernel_rfl) rfl ?_
                refine XQ.call (i := 7) (l' := #[true, true, true, true, true, true, true, true, true, true, true, true, true, true, true, false, false, false]) rfl (by kernel_rfl) rfl rfl (g_charge _ _ _ hO _ _ _ (1000 * x.2.2) (by omega) hS) (.cons (.there .here) .nil) cl_35 rfl (by rintro _ _ ⟨rfl, rfl⟩; all_goals (intro _ hw'; exact ⟨fun _ => inXM (.there .here) _ hw', fun _ => inXM (.there .here) _ hw', fun _ => inXM (.there .here) _ hw', fun hs => (hs 7 (by simp) rfl).elim, fun hs => (hs 7 (by simp) rfl).elim, fun hs => (hs 7 (by simp) rfl).elim, trivial⟩)) ?_
                rintro _ _ ⟨rfl, rfl⟩
                refine XQ.call (i := 15) (l' := #[true, true, true, true, true, true, true, true, true, true, true, true, true, true, true, true, false, false]) rfl (by kernel_rfl) rfl rfl (r_charge _ _ _ hO2 _ _ _ (1000 * x.2.2) (by omega) hT) (.cons (.there (.there .here)) .nil) cl_36 rfl (by rintro _ _ ⟨rfl, rfl⟩; all_goals (intro _ hw'; exact ⟨fun hs => (hs 15 (by simp) rfl).elim, fun hs => (hs 15 (by simp) rfl).elim, fun hs => (hs 15 (by simp) rfl).elim, fun hs => (hs 7 (by simp) rfl).elim, fun hs => (hs 7 (by simp) rfl).elim, fun hs => (hs 7 (by simp) rfl).elim, trivial⟩)) ?_
                rintro _ _ ⟨rfl, rfl⟩
                refine XQ.call (i := 16) (l' := #[true, true, true, true, true, true, true, true, true, true, true, true, true, true, true, true, true, false]) rfl (by kernel_rfl) rfl rfl (same_any _ _ (TG.chargeE_nn _ _ _ _)) .nil cl_15 rfl (by rintro _ _ ⟨rfl, rfl⟩; all_goals (intro _ hw'; exact ⟨fun hs => (hs 15 (by simp) rfl).elim, fun hs => (hs 15 (by simp) rfl).elim, fun hs => (hs 15 (by simp) rfl).elim, fun hs => (hs 7 (by simp) rfl).elim, fun hs => (hs 7 (by simp) rfl).elim, fun hs => (hs 7 (by simp) rfl).elim, trivial⟩)) ?_
                rintro _ _ ⟨rfl, rfl⟩
                refine XQ.pv (i := 17) (l' := #[true, true, true, true, true, true, true, true, true, true, true, true, true, true, true, true, true, true]) rfl (by kernel_rfl) rfl (V.assign rfl) rfl rfl ?_
                refine XQ.done (by kernel_rfl) ?_
                refine XE.blockNormal ?_
                refine XE.meetG ((x.1.charge (A x.2.2).a (A x.2.2).b (A x.2.2).c, x.2.1.charge (A x.2.2).a (A x.2.2).b (A x.2.2).c)) ?_ (Sub.cons rfl (Sub.cons rfl (Sub.cons rfl (Sub.cons rfl (Sub.cons (eqb (by rw [hR.chargeE hO]; simp)) (Sub.nil _)))))) (fun _ hw => XM.pick (.cons (.there .here) (.cons .here (.cons (.there .here) .nil))) hw)
                · exact ⟨hI.charge _ _ _, hR.charge hO _ _ _, (hS.charge hO _ _ _).mono (by omega), (hT.charge hO2 _ _ _).mono (by omega)⟩
              · skip
                refine XC.seq ?_
                refine XC.region ?_
                refine XO.v (V.strCmp rfl rfl rfl) rfl ?_
                refine XO.v (V.assign rfl) rfl ?_
                refine XO.nil ?_
                refine XE.next ?_
                refine XC.keep [(0, _), (4, _), (5, _), (6, _), (7, _), (39, _), (135, _)] (Sub.cons rfl (Sub.cons rfl (Sub.cons rfl (Sub.cons rfl (Sub.cons rfl (Sub.cons rfl (Sub.cons rfl (Sub.nil _)))))))) ?_
                refine XC.condP rfl (fun h8 => ?_) (fun h8 => ?_)
                · skip
                  refine XC.regionQ mixed (f := 18) (l := #[false, false, false, false, false, false, false, false, false, false, false, false, false, false, false, false, false, false]) rfl rfl XM.drawn' ?_
                  refine XQ.pv (i := 0) (l' := #[true, false, false, false, false, false, false, false, false, false, false, false, false, false, false, false, false, false]) rfl (by kernel_rfl) rfl (V.move rfl) rfl rfl ?_
                  refine XQ.pv (i := 1) (l' := #[true, true, false, false, false, false, false, false, false, false, false, false, false, false, false, false, false, false]) rfl (by kernel_rfl) rfl (V.fieldAddr rfl fo_31_1) rfl rfl ?_
                  refine XQ.load (i := 2) (l' := #[true, true, true, false, false, false, false, false, false, false, false, false, false, false, false, false, false, false]) (.cells _ _ _ _) [7, 15, 16] rfl (by kernel_rfl) rfl .here (V.load rfl inEnt (encAct.ld_A _) sc_3) rfl (by kernel_rfl) rfl ?_
                  refine XQ.pv (i := 3) (l' := #[true, true, true, true, false, false, false, false, false, false, false, false, false, false, false, false, false, false]) rfl (by kernel_rfl) rfl (V.fieldAddr rfl fo_31_2) rfl rfl ?_
                  refine XQ.load (i := 4) (l' := #[true, true, true, true, true, false, false, false, false, false, false, false, false, false, false, false, false, false]) (.cells _ _ _ _) [7, 15, 16] rfl (by kernel_rfl) rfl .here (V.load rfl inEnt (encAct.ld_B _) sc_3) rfl (by kernel_rfl) rfl ?_
                  refine XQ.pv (i := 5) (l' := #[true, true, true, true, true, true, false, false, false, false, false, false, false, false, false, false, false, false]) rfl (by kernel_rfl) rfl (V.fieldAddr rfl fo_31_3) rfl rfl ?_
                  refine XQ.load (i := 6) (l' := #[true, true, true, true, true, true, true, false, false, false, false, false, false, false, false, false, false, false]) (.cells _ _ _ _) [7, 15, 16] rfl (by kernel_rfl) rfl .here (V.load rfl inEnt (encAct.ld_C _) sc_3) rfl (by kernel_rfl) rfl ?_
                  refine XQ.pv (i := 8) (l' := #[true, true, true, true, true, true, true, false, true, false, false, false, false, false, false, false, false, false]) rfl (by kernel_rfl) rfl (V.move rfl) rfl rfl ?_
                  refine XQ.pv (i := 9) (l' := #[true, true, true, true, true, true, true, false, true, true, false, false, false, false, false, false, false, false]) rfl (by kernel_rfl) rfl (V.fieldAddr rfl fo_31_1) rfl rfl ?_
                  refine XQ.load (i := 10) (l' := #[true, true, true, true, true, true, true, false, true, true, true, false, false, false, false, false, false, false]) (.cells _ _ _ _) [15, 16] rfl (by kernel_rfl) rfl .here (V.load rfl inEnt (encAct.ld_A _) sc_3) rfl (by kernel_rfl) rfl ?_
                  refine XQ.pv (i := 11) (l' := #[true, true, true, true, true, true, true, false, true, true, true, true, false, false, false, false, false, false]) rfl (by kernel_rfl) rfl (V.fieldAddr rfl fo_31_2) rfl rfl ?_
                  refine XQ.load (i := 12) (l' := #[true, true, true, true, true, true, true, false, true, true, true, true, true, false, false, false, false, false]) (.cells _ _ _ _) [15, 16] rfl (by kernel_rfl) rfl .here (V.load rfl inEnt (encAct.ld_B _) sc_3) rfl (by kernel_rfl) rfl ?_
                  refine XQ.pv (i := 13) (l' := #[true, true, true, true, true, true, true, false, true, true, true, true, true, true, false, false, false, false]) rfl (by kernel_rfl) rfl (V.fieldAddr rfl fo_31_3) rfl rfl ?_
                  refine XQ.load (i := 14) (l' := #[true, true, true, true, true, true, true, false, true, true, true, true, true, true, true, false, false, false]) (.cells _ _ _ _) [15, 16] rfl (by kernel_rfl) rfl .here (V.load rfl inEnt (encAct.ld_C _) sc_3) rfl (by kernel_rfl) rfl ?_
                  refine XQ.call (i := 7) (l' := #[true, true, true, true, true, true, true, true, true, true, true, true, true, true, true, false, false, false]) rfl (by kernel_rfl) rfl rfl (g_uncharge _ _ _ hO _ _ _ (1000 * x.2.2) (by omega) hS) (.cons (.there .here) .nil) cl_37 rfl (by rintro _ _ ⟨rfl, rfl⟩; all_goals (intro _ hw'; exact ⟨fun _ => inXM (.there .here) _ hw', fun _ => inXM (.there .here) _ hw', fun _ => inXM (.there .here) _ hw', fun hs => (hs 7 (by simp) rfl).elim, fun hs => (hs 7 (by simp) rfl).elim, fun hs => (hs 7 (by simp) rfl).elim, trivial⟩)) ?_
                  rintro _ _ ⟨rfl, rfl⟩
                  refine XQ.call (i := 15) (l' := #[true, true, true, true, true, true, true, true, true, true, true, true, true, true, true, true, false, false]) rfl (by kernel_rfl) rfl rfl (r_uncharge _ _ _ hO2 _ _ _ (1000 * x.2.2) (by omega) hT) (.cons (.there (.there .here)) .nil) cl_38 rfl (by rintro _ _ ⟨rfl, rfl⟩; all_goals (intro _ hw'; exact ⟨fun hs => (hs 15 (by simp) rfl).elim, fun hs => (hs 15 (by simp) rfl).elim, fun hs => (hs 15 (by simp) rfl).elim, fun hs => (hs 7 (by simp) rfl).elim, fun hs => (hs 7 (by simp) rfl).elim, fun hs => (hs 7 (by simp) rfl).elim, trivial⟩)) ?_
                  rintro _ _ ⟨rfl, rfl⟩
                  refine XQ.call (i := 16) (l' := #[true, true, true, true, true, true, true, true, true, true, true, true, true, true, true, true, true, false]) rfl (by kernel_rfl) rfl rfl (same_any _ _ (TG.unchE_nn _ _ _ _)) .nil cl_15 rfl (by rintro _ _ ⟨rfl, rfl⟩; all_goals (intro _ hw'; exact ⟨fun hs => (hs 15 (by simp) rfl).elim, fun hs => (hs 15 (by simp) rfl).elim, fun hs => (hs 15 (by simp) rfl).elim, fun hs => (hs 7 (by simp) rfl).elim, fun hs => (hs 7 (by simp) rfl).elim, fun hs => (hs 7 (by simp) rfl).elim, trivial⟩)) ?_
                  rintro _ _ ⟨rfl, rfl⟩
                  refine XQ.pv (i := 17) (l' := #[true, true, true, true, true, true, true, true, true, true, true, true, true, true, true, true, true, true]) rfl (by kernel_rfl) rfl (V.assign rfl) rfl rfl ?_
                  refine XQ.done (by kernel_rfl) ?_
                  refine XE.blockNormal ?_
                  refine XE.meetG ((x.1.unch (A x.2.2).a (A x.2.2).b (A x.2.2).c, x.2.1.unch (A x.2.2).a (A x.2.2).b (A x.2.2).c)) ?_ (Sub.cons rfl (Sub.cons rfl (Sub.cons rfl (Sub.cons rfl (Sub.cons (eqb (by rw [hR.unchE]; simp)) (Sub.nil _)))))) (fun _ hw => XM.pick (.cons (.there .here) (.cons .here (.cons (.there .here) .nil))) hw)
                  · exact ⟨hI.unch _ _ _, hR.unch hO _ _ _, (hS.unch hO _ _ _).mono (by omega), (hT.unch hO2 _ _ _).mono (by omega)⟩
                · skip
                  refine XC.seq ?_
                  refine XC.region ?_
                  refine XO.v (V.strCmp rfl rfl rfl) rfl ?_
                  refine XO.v (V.assign rfl) rfl ?_
                  refine XO.nil ?_
                  refine XE.next ?_
                  refine XC.keep [(0, _), (4, _), (5, _), (6, _), (7, _), (154, _)] (Sub.cons rfl (Sub.cons rfl (Sub.cons rfl (Sub.cons rfl (Sub.cons rfl (Sub.cons rfl (Sub.nil _))))))) ?_
                  refine XC.condP rfl (fun h9 => ?_) (fun h9 => ?_)
                  · skip
                    refine XC.seq ?_
                    refine XC.region ?_
                    refine XO.v (V.move rfl) rfl ?_
                    refine XO.v (V.fieldAddr rfl fo_31_1) rfl ?_
                    refine XO.v (V.load rfl (inXM .here) (encAct.ld_A _) sc_3) rfl ?_
                    refine XO.v (V.fieldAddr rfl fo_31_2) rfl ?_
                    refine XO.v (V.load rfl (inXM .here) (encAct.ld_B _) sc_3) rfl ?_
                    refine XO.v (V.fieldAddr rfl fo_31_3) rfl ?_
                    refine XO.v (V.load rfl (inXM .here) (encAct.ld_C _) sc_3) rfl ?_
                    refine XO.call rfl (g_lacks _ _ _ hO _ _ _ (1000 * x.2.2) (by omega) hS) (.cons (.there .here) .nil) cl_39 rfl ?_
                    rintro _ _ ⟨rfl, rfl⟩
                    refine XO.v (V.move rfl) rfl ?_
                    refine XO.v (V.extract rfl rfl) rfl ?_
                    refine XO.v (V.extract rfl rfl) rfl ?_
                    refine XO.v (V.assign rfl) rfl ?_
                    refine XO.v (V.assign rfl) rfl ?_
                    refine XO.nil ?_
                    refine XE.next ?_
                    refine XC.keep [(0, _), (4, _), (5, _), (6, _), (7, _), (13, _), (14, _)] (Sub.cons rfl (Sub.cons rfl (Sub.cons rfl (Sub.cons rfl (Sub.cons rfl (Sub.cons rfl (Sub.cons rfl (Sub.nil _)))))))) ?_
                    refine XC.seq ?_
                    refine XC.region ?_
                    refine XO.v (V.move rfl) rfl ?_
                    refine XO.v (V.fieldAddr rfl fo_31_1) rfl ?_
                    refine XO.v (V.load rfl (inXM (.there .here)) (encAct.ld_A _) sc_3) rfl ?_
                    refine XO.v (V.fieldAddr rfl fo_31_2) rfl ?_
                    refine XO.v (V.load rfl (inXM (.there .here)) (encAct.ld_B _) sc_3) rfl ?_
                    refine XO.v (V.fieldAddr rfl fo_31_3) rfl ?_
                    refine XO.v (V.load rfl (inXM (.there .here)) (encAct.ld_C _) sc_3) rfl ?_
                    refine XO.call rfl (r_lacks _ _ _ hO2 _ _ _ (1000 * x.2.2) (by omega) hT) (.cons (.there (.there .here)) .nil) cl_40 rfl ?_
                    rintro _ _ ⟨rfl, rfl⟩
                    refine XO.v (V.assign rfl) rfl ?_
                    refine XO.nil ?_
                    refine XE.next ?_
                    refine XC.keep [(0, _), (4, _), (5, _), (6, _), (7, _), (13, _), (14, _), (15, _)] (Sub.cons rfl (Sub.cons rfl (Sub.cons rfl (Sub.cons rfl (Sub.cons rfl (Sub.cons rfl (Sub.cons rfl (Sub.cons rfl (Sub.nil _))))))))) ?_
                    refine XC.regionQ mixed (f := 26) (l := #[false, false, false, false, false, false, false, false, false, false, false, false, false, false, false, false, false, false, false, false, false, false, false, false, false, false]) rfl rfl XM.drawn' ?_
                    have hLR := hR.lacks hO (A x.2.2).a (A x.2.2).b (A x.2.2).c
                    have hLM := lacks_max _ (TG.lacks_rng hO (A x.2.2).a (A x.2.2).b (A x.2.2).c)
                    have hUR := hR.under hO (A x.2.2).a (A x.2.2).b
                    refine XQ.pv (i := 0) (l' := #[true, false, false, false, false, false, false, false, false, false, false, false, false, false, false, false, false, false, false, false, false, false, false, false, false, false]) rfl (by kernel_rfl) rfl (V.move rfl) rfl rfl ?_
                    refine XQ.pv (i := 1) (l' := #[true, true, false, false, false, false, false, false, false, false, false, false, false, false, false, false, false, false, false, false, false, false, false, false, false, false]) rfl (by kernel_rfl) rfl (V.move rfl) rfl rfl ?_
                    refine XQ.pv (i := 2) (l' := #[true, true, true, false, false, false, false, false, false, false, false, false, false, false, false, false, false, false, false, false, false, false, false, false, false, false]) rfl (by kernel_rfl) rfl (V.cmp rfl rfl rfl) rfl rfl ?_
                    refine XQ.pv (i := 3) (l' := #[true, true, true, true, false, false, false, false, false, false, false, false, false, false, false, false, false, false, false, false, false, false, false, false, false, false]) rfl (by kernel_rfl) rfl (V.boolEq (r := true) rfl rfl Try.underlying4 (congrArg some (by rw [hLR]; exact hLM.1))) rfl rfl ?_
                    refine XQ.pv (i := 4) (l' := #[true, true, true, true, true, false, false, false, false, false, false, false, false, false, false, false, false, false, false, false, false, false, false, false, false, false]) rfl (by kernel_rfl) rfl (V.move rfl) rfl rfl ?_
                    refine XQ.pvG (i := 5) (l' := #[true, true, true, true, true, true, false, false, false, false, false, false, false, false, false, false, false, false, false, false, false, false, false, false, false, false]) rfl rfl rfl (by kernel_rfl) rfl (V.move rfl) rfl rfl ?_
                    refine XQ.pvG (i := 6) (l' := #[true, true, true, true, true, true, true, false, false, false, false, false, false, false, false, false, false, false, false, false, false, false, false, false, false, false]) rfl rfl rfl (by kernel_rfl) rfl (V.move rfl) rfl rfl ?_
                    refine XQ.pvG (i := 7) (l' := #[true, true, true, true, true, true, true, true, false, false, false, false, false, false, false, false, false, false, false, false, false, false, false, false, false, false]) rfl rfl rfl (by kernel_rfl) rfl (V.max2 rfl rfl) rfl rfl ?_
                    refine XQ.pvG (i := 8) (l' := #[true, true, true, true, true, true, true, true, true, false, false, false, false, false, false, false, false, false, false, false, false, false, false, false, false, false]) rfl rfl rfl (by kernel_rfl) rfl (V.cmp rfl rfl rfl) rfl rfl ?_
                    refine XQ.pv (i := 9) (l' := #[true, true, true, true, true, true, true, true, true, true, false, false, false, false, false, false, false, false, false, false, false, false, false, false, false, false]) rfl (by kernel_rfl) rfl (V.pick rfl rfl rfl rfl) rfl rfl ?_
                    refine XQ.pv (i := 10) (l' := #[true, true, true, true, true, true, true, true, true, true, true, false, false, false, false, false, false, false, false, false, false, false, false, false, false, false]) rfl (by kernel_rfl) rfl (V.move rfl) rfl rfl ?_
                    refine XQ.splitT (d := 185) rfl (by rw [hLR]; exact hLM.2) ?_
                    refine XQ.pvG (i := 11) (l' := #[true, true, true, true, true, true, true, true, true, true, true, true, false, false, false, false, false, false, false, false, false, false, false, false, false, false]) rfl rfl rfl (by kernel_rfl) rfl (V.move rfl) rfl rfl ?_
                    refine XQ.pvG (i := 12) (l' := #[true, true, true, true, true, true, true, true, true, true, true, true, true, false, false, false, false, false, false, false, false, false, false, false, false, false]) rfl rfl rfl (by kernel_rfl) rfl (V.fieldAddr rfl fo_31_1) rfl rfl ?_
                    refine XQ.loadG (i := 13) (l' := #[true, true, true, true, true, true, true, true, true, true, true, true, true, true, false, false, false, false, false, false, false, false, false, false, false, false]) (.cells _ _ _ _) [16, 22] rfl rfl rfl (by kernel_rfl) rfl (.there (.there .here)) (V.load rfl inEnt (encAct.ld_A _) sc_3) rfl (by kernel_rfl) rfl ?_
                    refine XQ.pvG (i := 14) (l' := #[true, true, true, true, true, true, true, true, true, true, true, true, true, true, true, false, false, false, false, false, false, false, false, false, false, false]) rfl rfl rfl (by kernel_rfl) rfl (V.fieldAddr rfl fo_31_2) rfl rfl ?_
                    refine XQ.loadG (i := 15) (l' := #[true, true, true, true, true, true, true, true, true, true, true, true, true, true, true, true, false, false, false, false, false, false, false, false, false, false]) (.cells _ _ _ _) [16, 22] rfl rfl rfl (by kernel_rfl) rfl (.there (.there .here)) (V.load rfl inEnt (encAct.ld_B _) sc_3) rfl (by kernel_rfl) rfl ?_
                    refine XQ.pvG (i := 17) (l' := #[true, true, true, true, true, true, true, true, true, true, true, true, true, true, true, true, false, true, false, false, false, false, false, false, false, false]) rfl rfl rfl (by kernel_rfl) rfl (V.move rfl) rfl rfl ?_
                    refine XQ.pvG (i := 18) (l' := #[true, true, true, true, true, true, true, true, true, true, true, true, true, true, true, true, false, true, true, false, false, false, false, false, false, false]) rfl rfl rfl (by kernel_rfl) rfl (V.fieldAddr rfl fo_31_1) rfl rfl ?_
                    refine XQ.loadG (i := 19) (l' := #[true, true, true, true, true, true, true, true, true, true, true, true, true, true, true, true, false, true, true, true, false, false, false, false, false, false]) (.cells _ _ _ _) [22] rfl rfl rfl (by kernel_rfl) rfl (.there (.there .here)) (V.load rfl inEnt (encAct.ld_A _) sc_3) rfl (by kernel_rfl) rfl ?_
                    refine XQ.pvG (i := 20) (l' := #[true, true, true, true, true, true, true, true, true, true, true, true, true, true, true, true, false, true, true, true, true, false, false, false, false, false]) rfl rfl rfl (by kernel_rfl) rfl (V.fieldAddr rfl fo_31_2) rfl rfl ?_
                    refine XQ.loadG (i := 21) (l' := #[true, true, true, true, true, true, true, true, true, true, true, true, true, true, true, true, false, true, true, true, true, true, false, false, false, false]) (.cells _ _ _ _) [22] rfl rfl rfl (by kernel_rfl) rfl (.there (.there .here)) (V.load rfl inEnt (encAct.ld_B _) sc_3) rfl (by kernel_rfl) rfl ?_
                    refine XQ.callG (i := 16) (l' := #[true, true, true, true, true, true, true, true, true, true, true, true, true, true, true, true, true, true, true, true, true, true, false, false, false, false]) rfl rfl rfl (by kernel_rfl) rfl rfl (g_under _ _ _ hO _ _) (.cons (.there .here) .nil) cl_41 rfl (by rintro _ _ ⟨rfl, rfl⟩; all_goals (intro _ hw'; exact ⟨fun _ => inXM (.there (.there .here)) _ hw', fun _ => inXM (.there (.there .here)) _ hw', fun hs => (hs 16 (by simp) rfl).elim, fun hs => (hs 16 (by simp) rfl).elim, trivial⟩)) ?_
                    rintro _ _ ⟨rfl, rfl⟩
                    refine XQ.callG (i := 22) (l' := #[true, true, true, true, true, true, true, true, true, true, true, true, true, true, true, true, true, true, true, true, true, true, true, false, false, false]) rfl rfl rfl (by kernel_rfl) rfl rfl (r_under _ _ _ hO2 _ _) (.cons (.there .here) .nil) cl_42 rfl (by rintro _ _ ⟨rfl, rfl⟩; all_goals (intro _ hw'; exact ⟨fun hs => (hs 22 (by simp) rfl).elim, fun hs => (hs 22 (by simp) rfl).elim, fun hs => (hs 16 (by simp) rfl).elim, fun hs => (hs 16 (by simp) rfl).elim, trivial⟩)) ?_
                    rintro _ _ ⟨rfl, rfl⟩
                    refine XQ.pvG (i := 23) (l' := #[true, true, true, true, true, true, true, true, true, true, true, true, true, true, true, true, true, true, true, true, true, true, true, true, false, false]) rfl rfl rfl (by kernel_rfl) rfl (V.boolEq (r := true) rfl rfl Try.underlying4 (congrArg some (by rw [hUR]; exact beq_self_eq_true _))) rfl rfl ?_
                    refine XQ.pv (i := 24) (l' := #[true, true, true, true, true, true, true, true, true, true, true, true, true, true, true, true, true, true, true, true, true, true, true, true, true, false]) rfl (by kernel_rfl) rfl (V.pick rfl rfl rfl rfl) rfl rfl ?_
                    refine XQ.pv (i := 25) (l' := #[true, true, true, true, true, true, true, true, true, true, true, true, true, true, true, true, true, true, true, true, true, true, true, true, true, true]) rfl (by kernel_rfl) rfl (V.assign rfl) rfl rfl ?_
                    refine XQ.done (by kernel_rfl) ?_
                    refine XE.blockNormal ?_
                    refine XE.meetG ((x.1, x.2.1)) ?_ (Sub.cons rfl (Sub.cons rfl (Sub.cons rfl (Sub.cons rfl (Sub.cons rfl (Sub.nil _)))))) (fun _ hw => XM.pick (.cons (.there .here) (.cons .here (.cons (.there .here) .nil))) hw)
                    · exact ⟨hI, hR, hS.mono (by omega), hT.mono (by omega)⟩
                  · skip
                    refine XC.seq ?_
                    refine XC.region ?_
                    refine XO.v (V.fieldAddr rfl fo_31_4) rfl ?_
                    refine XO.v (V.load rfl (inXM .here) (encAct.ld_Key _) sc_29) rfl ?_
                    refine XO.v (V.convInt rfl Try.underlying29 Try.underlying3 _ rfl) rfl ?_
                    refine XO.v (V.assign rfl) rfl ?_
                    refine XO.nil ?_
                    refine XE.next ?_
                    refine XC.keep [(0, _), (4, _), (5, _), (6, _), (7, _), (16, _)] (Sub.cons rfl (Sub.cons rfl (Sub.cons rfl (Sub.cons rfl (Sub.cons rfl (Sub.cons rfl (Sub.nil _))))))) ?_
                    refine XC.regionQ mixed (f := 20) (l := #[false, false, false, false, false, false, false, false, false, false, false, false, false, false, false, false, false, false, false, false]) rfl rfl XM.drawn' ?_
                    refine XQ.pv (i := 0) (l' := #[true, false, false, false, false, false, false, false, false, false, false, false, false, false, false, false, false, false, false, false]) rfl (by kernel_rfl) rfl (V.move rfl) rfl rfl ?_
                    refine XQ.pv (i := 1) (l' := #[true, true, false, false, false, false, false, false, false, false, false, false, false, false, false, false, false, false, false, false]) rfl (by kernel_rfl) rfl (V.fieldAddr rfl fo_31_1) rfl rfl ?_
                    refine XQ.load (i := 2) (l' := #[true, true, true, false, false, false, false, false, false, false, false, false, false, false, false, false, false, false, false, false]) (.cells _ _ _ _) [8, 17, 18] rfl (by kernel_rfl) rfl .here (V.load rfl inEnt (encAct.ld_A _) sc_3) rfl (by kernel_rfl) rfl ?_
                    refine XQ.pv (i := 3) (l' := #[true, true, true, true, false, false, false, false, false, false, false, false, false, false, false, false, false, false, false, false]) rfl (by kernel_rfl) rfl (V.move rfl) rfl rfl ?_
                    refine XQ.pv (i := 4) (l' := #[true, true, true, true, true, false, false, false, false, false, false, false, false, false, false, false, false, false, false, false]) rfl (by kernel_rfl) rfl (V.fieldAddr rfl fo_31_2) rfl rfl ?_
                    refine XQ.load (i := 5) (l' := #[true, true, true, true, true, true, false, false, false, false, false, false, false, false, false, false, false, false, false, false]) (.cells _ _ _ _) [8, 17, 18] rfl (by kernel_rfl) rfl .here (V.load rfl inEnt (encAct.ld_B _) sc_3) rfl (by kernel_rfl) rfl ?_
                    refine XQ.pv (i := 6) (l' := #[true, true, true, true, true, true, true, false, false, false, false, false, false, false, false, false, false, false, false, false]) rfl (by kernel_rfl) rfl (V.fieldAddr rfl fo_31_3) rfl rfl ?_
                    refine XQ.load (i := 7) (l' := #[true, true, true, true, true, true, true, true, false, false, false, false, false, false, false, false, false, false, false, false]) (.cells _ _ _ _) [8, 17, 18] rfl (by kernel_rfl) rfl .here (V.load rfl inEnt (encAct.ld_C _) sc_3) rfl (by kernel_rfl) rfl ?_
                    refine XQ.pv (i := 9) (l' := #[true, true, true, true, true, true, true, true, false, true, false, false, false, false, false, false, false, false, false, false]) rfl (by kernel_rfl) rfl (V.move rfl) rfl rfl ?_
                    refine XQ.pv (i := 10) (l' := #[true, true, true, true, true, true, true, true, false, true, true, false, false, false, false, false, false, false, false, false]) rfl (by kernel_rfl) rfl (V.fieldAddr rfl fo_31_1) rfl rfl ?_
                    refine XQ.load (i := 11) (l' := #[true, true, true, true, true, true, true, true, false, true, true, true, false, false, false, false, false, false, false, false]) (.cells _ _ _ _) [17, 18] rfl (by kernel_rfl) rfl .here (V.load rfl inEnt (encAct.ld_A _) sc_3) rfl (by kernel_rfl) rfl ?_
                    refine XQ.pv (i := 12) (l' := #[true, true, true, true, true, true, true, true, false, true, true, true, true, false, false, false, false, false, false, false]) rfl (by kernel_rfl) rfl (V.move rfl) rfl rfl ?_
                    refine XQ.pv (i := 13) (l' := #[true, true, true, true, true, true, true, true, false, true, true, true, true, true, false, false, false, false, false, false]) rfl (by kernel_rfl) rfl (V.fieldAddr rfl fo_31_2) rfl rfl ?_
                    refine XQ.load (i := 14) (l' := #[true, true, true, true, true, true, true, true, false, true, true, true, true, true, true, false, false, false, false, false]) (.cells _ _ _ _) [17, 18] rfl (by kernel_rfl) rfl .here (V.load rfl inEnt (encAct.ld_B _) sc_3) rfl (by kernel_rfl) rfl ?_
                    refine XQ.pv (i := 15) (l' := #[true, true, true, true, true, true, true, true, false, true, true, true, true, true, true, true, false, false, false, false]) rfl (by kernel_rfl) rfl (V.fieldAddr rfl fo_31_3) rfl rfl ?_
                    refine XQ.load (i := 16) (l' := #[true, true, true, true, true, true, true, true, false, true, true, true, true, true, true, true, true, false, false, false]) (.cells _ _ _ _) [17, 18] rfl (by kernel_rfl) rfl .here (V.load rfl inEnt (encAct.ld_C _) sc_3) rfl (by kernel_rfl) rfl ?_
                    refine XQ.call (i := 8) (l' := #[true, true, true, true, true, true, true, true, true, true, true, true, true, true, true, true, true, false, false, false]) rfl (by kernel_rfl) rfl rfl (g_move _ _ _ hO _ _ _ _ (1000 * x.2.2) (by omega) hS) (.cons (.there .here) .nil) cl_43 rfl (by rintro _ _ ⟨rfl, rfl⟩; all_goals (intro _ hw'; exact ⟨fun _ => inXM (.there .here) _ hw', fun _ => inXM (.there .here) _ hw', fun _ => inXM (.there .here) _ hw', fun hs => (hs 8 (by simp) rfl).elim, fun hs => (hs 8 (by simp) rfl).elim, fun hs => (hs 8 (by simp) rfl).elim, trivial⟩)) ?_
                    rintro _ _ ⟨rfl, rfl⟩
                    refine XQ.call (i := 17) (l' := #[true, true, true, true, true, true, true, true, true, true, true, true, true, true, true, true, true, true, false, false]) rfl (by kernel_rfl) rfl rfl (r_move _ _ _ hO2 _ _ _ _ (1000 * x.2.2) (by omega) hT) (.cons (.there (.there .here)) .nil) cl_44 rfl (by rintro _ _ ⟨rfl, rfl⟩; all_goals (intro _ hw'; exact ⟨fun hs => (hs 17 (by simp) rfl).elim, fun hs => (hs 17 (by simp) rfl).elim, fun hs => (hs 17 (by simp) rfl).elim, fun hs => (hs 8 (by simp) rfl).elim, fun hs => (hs 8 (by simp) rfl).elim, fun hs => (hs 8 (by simp) rfl).elim, trivial⟩)) ?_
                    rintro _ _ ⟨rfl, rfl⟩
                    refine XQ.call (i := 18) (l' := #[true, true, true, true, true, true, true, true, true, true, true, true, true, true, true, true, true, true, true, false]) rfl (by kernel_rfl) rfl rfl (same_any _ _ (TG.moveE_nn _ _ _ _ _)) .nil cl_15 rfl (by rintro _ _ ⟨rfl, rfl⟩; all_goals (intro _ hw'; exact ⟨fun hs => (hs 17 (by simp) rfl).elim, fun hs => (hs 17 (by simp) rfl).elim, fun hs => (hs 17 (by simp) rfl).elim, fun hs => (hs 8 (by simp) rfl).elim, fun hs => (hs 8 (by simp) rfl).elim, fun hs => (hs 8 (by simp) rfl).elim, trivial⟩)) ?_
                    rintro _ _ ⟨rfl, rfl⟩
                    refine XQ.pv (i := 19) (l' := #[true, true, true, true, true, true, true, true, true, true, true, true, true, true, true, true, true, true, true, true]) rfl (by kernel_rfl) rfl (V.assign rfl) rfl rfl ?_
                    refine XQ.done (by kernel_rfl) ?_
                    refine XE.blockNormal ?_
                    refine XE.meetG ((x.1.move (A x.2.2).a (IntKind.i64.wrap (A x.2.2).key) (A x.2.2).b (A x.2.2).c, x.2.1.move (A x.2.2).a (IntKind.i64.wrap (A x.2.2).key) (A x.2.2).b (A x.2.2).c)) ?_ (Sub.cons rfl (Sub.cons rfl (Sub.cons rfl (Sub.cons rfl (Sub.cons (eqb (by rw [hR.moveE hO]; simp)) (Sub.nil _)))))) (fun _ hw => XM.pick (.cons (.there .here) (.cons .here (.cons (.there .here) .nil))) hw)
                    · exact ⟨hI.move _ _ _ _, hR.move hO _ _ _ _, (hS.move hO _ _ _ _).mono (by omega), (hT.move hO2 _ _ _ _).mono (by omega)⟩
      intro y hy
      obtain ⟨hyI, hyR, hyS, hyT⟩ := hy
      refine XC.seq ?_
      refine XC.region ?_
      refine XO.v (V.move rfl) rfl ?_
      refine XO.v (V.not rfl) rfl ?_
      refine XO.v (V.move rfl) rfl ?_
      refine XO.guardRun rfl rfl rfl ?_
      refine XO.v (V.move rfl) rfl ?_
      refine XO.guardRun rfl rfl rfl ?_
      refine XO.v (V.rem rfl rfl (by first | decide | omega) _ (Int.tmod_eq_emod_of_nonneg (by omega))) rfl ?_
      refine XO.guardRun rfl rfl rfl ?_
      refine XO.v (V.cmp rfl rfl rfl) rfl ?_
      refine XO.guardRun rfl rfl rfl ?_
      refine XO.v (V.move rfl) rfl ?_
      refine XO.splitP (d := 206) rfl (fun h11 => ?_) (fun h11 => ?_)
      · skip
        refine XO.guardRun rfl rfl rfl ?_
        refine XO.v (V.move rfl) rfl ?_
        refine XO.guardRun rfl rfl rfl ?_
        refine XO.v (V.move rfl) rfl ?_
        refine XO.guardRun rfl rfl rfl ?_
        refine XO.call rfl (as_tree _ _ _ _ hyR) (.cons .here (.cons .here .nil)) cl_45 rfl ?_
        rintro _ _ ⟨rfl, rfl⟩
        refine XO.guardRun rfl rfl rfl ?_
        refine XO.v (V.not rfl) rfl ?_
        refine XO.guardRun rfl rfl rfl ?_
        refine XO.v (V.pick rfl rfl rfl rfl) rfl ?_
        refine XO.v (V.pick rfl rfl rfl rfl) rfl ?_
        refine XO.nil ?_
        refine XE.next ?_
        refine XC.keep [(0, _), (4, _), (5, _), (6, _), (212, _)] (Sub.cons rfl (Sub.cons rfl (Sub.cons rfl (Sub.cons rfl (Sub.cons rfl (Sub.nil _)))))) ?_
        refine XC.condF rfl rfl ?_
        refine XC.skip ?_
        refine XE.blockNormal ?_
        refine XE.next ?_
        refine XC.keep [(0, _), (4, _), (5, _), (6, _)] (Sub.cons rfl (Sub.cons rfl (Sub.cons rfl (Sub.cons rfl (Sub.nil _))))) ?_
        refine XC.region ?_
        refine XO.v (V.move rfl) rfl ?_
        refine XO.v (V.add rfl rfl _ (IntWalk.i64_in _ (by omega))) rfl ?_
        refine XO.v (V.assign rfl) rfl ?_
        refine XO.nil ?_
        refine XE.again ((y.1, y.2, x.2.2 + 1)) ?_ ?_ (Sub.cons rfl (Sub.cons rfl (Sub.cons rfl (Sub.cons rfl (Sub.nil _))))) (fun _ hw => XM.pick (.cons .here (.cons .here (.cons .here .nil))) hw)
        · skip
          (simp; omega)
        · skip
          exact ⟨hyI, hyR, hyS.mono (by simp; omega), hyT.mono (by simp; omega), by simp; omega, by simp; omega⟩
      · skip
        refine XO.guardSkip rfl rfl rfl rfl rfl ?_
        refine XO.guardSkip rfl rfl rfl rfl rfl ?_
        refine XO.guardSkip rfl rfl rfl rfl rfl ?_
        refine XO.guardSkip rfl rfl rfl rfl rfl ?_
        refine XO.guardRun rfl rfl rfl ?_
        refine XO.v (V.pick rfl rfl rfl rfl) rfl ?_
        refine XO.v (V.pick rfl rfl rfl rfl) rfl ?_
        refine XO.nil ?_
        refine XE.next ?_
        refine XC.keep [(0, _), (4, _), (5, _), (6, _), (212, _)] (Sub.cons rfl (Sub.cons rfl (Sub.cons rfl (Sub.cons rfl (Sub.cons rfl (Sub.nil _)))))) ?_
        refine XC.condF rfl rfl ?_
        refine XC.skip ?_
        refine XE.blockNormal ?_
        refine XE.next ?_
        refine XC.keep [(0, _), (4, _), (5, _), (6, _)] (Sub.cons rfl (Sub.cons rfl (Sub.cons rfl (Sub.cons rfl (Sub.nil _))))) ?_
        refine XC.region ?_
        refine XO.v (V.move rfl) rfl ?_
        refine XO.v (V.add rfl rfl _ (IntWalk.i64_in _ (by omega))) rfl ?_
        refine XO.v (V.assign rfl) rfl ?_
        refine XO.nil ?_
        refine XE.again ((y.1, y.2, x.2.2 + 1)) ?_ ?_ (Sub.cons rfl (Sub.cons rfl (Sub.cons rfl (Sub.cons rfl (Sub.nil _))))) (fun _ hw => XM.pick (.cons .here (.cons .here (.cons .here .nil))) hw)
        · skip
          (simp; omega)
        · skip
          exact ⟨hyI, hyR, hyS.mono (by simp; omega), hyT.mono (by simp; omega), by simp; omega, by simp; omega⟩
    · skip
      refine XC.exit ?_
      refine XE.thenExit ?_
      refine XE.thenExit ?_
      refine XE.blockExit ?_
      refine XE.next ?_
      refine XC.keep [(4, _), (5, _)] (Sub.cons rfl (Sub.cons rfl (Sub.nil _))) ?_
      refine XC.seq ?_
      refine XC.region ?_
      refine XO.v (V.move rfl) rfl ?_
      refine XO.v (V.move rfl) rfl ?_
      refine XO.call rfl (as_tree _ _ _ _ hR) (.cons .here (.cons .here .nil)) cl_45 rfl ?_
      rintro _ _ ⟨rfl, rfl⟩
      refine XO.v (V.assign rfl) rfl ?_
      refine XO.nil ?_
      refine XE.next ?_
      refine XC.keep [(2, _)] (Sub.cons rfl (Sub.nil _)) ?_
      refine XC.ret ?_
      refine XE.ret1 rfl rfl (post_of .nil rfl ?_)
      exact ⟨rfl, rfl⟩
end Go.X
