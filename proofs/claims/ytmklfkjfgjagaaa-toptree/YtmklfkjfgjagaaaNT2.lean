import Derived.Test.YtmklfkjfgjagaaaNT1
namespace Go.X
open Go Go.Proofs
theorem cl_30 : callable Try.prog 30 = true := by kernel_rfl
set_option maxRecDepth 10000 in
set_option maxHeartbeats 8000000 in
theorem top_some (bl ol len cap : Nat) (hlen : len ≤ cap) (A : Int → ActV) (hA : ∀ z : Int, 0 ≤ z → z < len → (A z).ok) : Spec Try.prog 5 [.slice (some ⟨bl, ol, none⟩) len cap]
    [.ro bl ol (8 * len) (encActs A)]
    (fun v H1 => v = .bool true ∧ H1 = []) := by
  refine Spec.intro Try.func5 rfl rfl ?_
  intro W
  refine XC.seq ?_
  refine XC.region ?_
  refine XO.v (V.assign rfl) rfl ?_
  refine XO.nil ?_
  refine XE.next ?_
  refine XC.keep [(0, _)] (Sub.cons rfl (Sub.nil _)) ?_
  refine XC.seq ?_
  refine XC.region ?_
  refine XO.call rfl (t_New) .nil cl_10 rfl ?_
  rintro _ _ ⟨bf, rfl, rfl⟩
  refine XO.v (V.assign rfl) rfl ?_
  refine XO.nil ?_
  refine XE.next ?_
  refine XC.keep [(0, _), (3, _)] (Sub.cons rfl (Sub.cons rfl (Sub.nil _))) ?_
  refine XC.seq ?_
  refine XC.seq ?_
  refine XC.region ?_
  refine XO.v (V.move rfl) rfl ?_
  refine XO.v (V.ptrNilP rfl Try.underlying25 rfl) rfl ?_
  refine XO.nil ?_
  refine XE.next ?_
  refine XC.keep [(0, _), (3, _), (11, _)] (Sub.cons rfl (Sub.cons rfl (Sub.cons rfl (Sub.nil _)))) ?_
  refine XC.condF rfl rfl ?_
  refine XC.skip ?_
  refine XE.next ?_
  refine XC.keep [(0, _), (3, _)] (Sub.cons rfl (Sub.cons rfl (Sub.nil _))) ?_
  refine XC.seq ?_
  refine XC.region ?_
  refine XO.v (V.move rfl) rfl ?_
  refine XO.call rfl (t_Plant _ _ _ (FF.inv_void.sh (by omega))) (.cons .here (.cons .here (.cons .here (.cons .here .nil)))) cl_15 rfl ?_
  rintro _ _ ⟨t0, rfl, ht0, rfl⟩
  obtain ⟨d1, o1⟩ := FF.inv_void.plant
  have o0 : t0.toFF.Ok d1 (0 + 1) := by rw [show t0.toFF = FF.void.plant from ht0]; exact o1
  refine XO.v (V.move rfl) rfl ?_
  refine XO.v (V.extract rfl rfl) rfl ?_
  refine XO.v (V.extract rfl rfl) rfl ?_
  refine XO.v (V.assign rfl) rfl ?_
  refine XO.v (V.assign rfl) rfl ?_
  refine XO.nil ?_
  refine XE.next ?_
  refine XC.keep [(0, _), (3, _), (4, _), (5, _)] (Sub.cons rfl (Sub.cons rfl (Sub.cons rfl (Sub.cons rfl (Sub.nil _))))) ?_
  refine XC.seq ?_
  refine XC.seq ?_
  refine XC.region ?_
  refine XO.v (V.move rfl) rfl ?_
  refine XO.v (V.errNil rfl Try.underlying43 rfl) rfl ?_
  refine XO.v (V.move rfl) rfl ?_
  refine XO.splitF (d := 19) rfl (by decide +kernel) ?_
  refine XO.guardRun rfl rfl rfl ?_
  refine XO.v (V.move rfl) rfl ?_
  refine XO.guardRun rfl rfl rfl ?_
  refine XO.v (V.cmp rfl rfl rfl) rfl ?_
  refine XO.v (V.pick rfl rfl rfl rfl) rfl ?_
  refine XO.nil ?_
  refine XE.next ?_
  refine XC.keep [(0, _), (3, _), (22, _)] (Sub.cons rfl (Sub.cons rfl (Sub.cons rfl (Sub.nil _)))) ?_
  refine XC.condFP rfl (by decide +kernel) ?_
  refine XC.skip ?_
  refine XE.next ?_
  refine XC.keep [(0, _), (3, _)] (Sub.cons rfl (Sub.cons rfl (Sub.nil _))) ?_
  refine XC.seq ?_
  refine XC.seq ?_
  refine XC.region ?_
  refine XO.v (V.move rfl) rfl ?_
  refine XO.call rfl (light_any _ _ _ _) .nil cl_8 rfl ?_
  rintro _ _ ⟨rfl, rfl⟩
  refine XO.v (V.notP rfl) rfl ?_
  refine XO.v (V.move rfl) rfl ?_
  refine XO.splitP (d := 26) rfl (fun h2 => ?_) (fun h2 => ?_)
  · skip
    refine XO.guardSkip rfl rfl rfl rfl rfl ?_
    refine XO.guardSkip rfl rfl rfl rfl rfl ?_
    refine XO.guardSkip rfl rfl rfl rfl rfl ?_
    refine XO.v (V.pick rfl rfl rfl rfl) rfl ?_
    refine XO.nil ?_
    refine XE.next ?_
    refine XC.keep [(0, _), (3, _), (30, _)] (Sub.cons rfl (Sub.cons rfl (Sub.cons rfl (Sub.nil _)))) ?_
    refine XC.condT rfl rfl ?_
    refine XC.seq ?_
    refine XC.region ?_
    refine XO.v (V.assign rfl) rfl ?_
    refine XO.nil ?_
    refine XE.next ?_
    refine XC.keep [(2, _)] (Sub.cons rfl (Sub.nil _)) ?_
    refine XC.ret ?_
    refine XE.thenRet ?_
    refine XE.ret1 rfl rfl (post_of .nil rfl ?_)
    exact ⟨rfl, rfl⟩
  · skip
    refine XO.guardRun rfl rfl rfl ?_
    refine XO.v (V.move rfl) rfl ?_
    refine XO.guardRun rfl rfl rfl ?_
    refine XO.callR 0 rfl (texts_any _ _ len cap hlen A hA (by omega) _) (.cons (.there (.there (.there (.there .here)))) .nil) rfl cl_9 rfl ?_
    rintro _ _ ⟨⟨bt, rfl, tx⟩, rfl⟩
    refine XO.guardRun rfl rfl rfl ?_
    refine XO.v (V.not rfl) rfl ?_
    refine XO.v (V.pick rfl rfl rfl rfl) rfl ?_
    refine XO.nil ?_
    refine XE.next ?_
    refine XC.keep [(0, _), (3, _), (30, _)] (Sub.cons rfl (Sub.cons rfl (Sub.cons rfl (Sub.nil _)))) ?_
    refine XC.cond rfl (fun h3 => ?_) (fun h3 => ?_)
    · try simp only [sb] at h3
      refine XC.seq ?_
      refine XC.region ?_
      refine XO.v (V.assign rfl) rfl ?_
      refine XO.nil ?_
      refine XE.next ?_
      refine XC.keep [(2, _)] (Sub.cons rfl (Sub.nil _)) ?_
      refine XC.ret ?_
      refine XE.thenRet ?_
      refine XE.ret1 rfl rfl (post_of .nil rfl ?_)
      exact ⟨rfl, rfl⟩
    · try simp only [sb] at h3
      have tx := tx (by simpa using h3)
      refine XC.skip ?_
      refine XE.next ?_
      refine XC.keep [(0, _), (3, _)] (Sub.cons rfl (Sub.cons rfl (Sub.nil _))) ?_
      refine XC.seq ?_
      refine XC.seq ?_
      refine XC.region ?_
      refine XO.v (V.assign rfl) rfl ?_
      refine XO.nil ?_
      refine XE.next ?_
      refine XC.keep [(0, _), (3, _), (6, _)] (Sub.cons rfl (Sub.cons rfl (Sub.cons rfl (Sub.nil _)))) ?_
      refine XC.block ?_
      refine XC.loop (σ := FC × Int) (fun x => (len - x.2).toNat) (fun x => (∃ d, x.1.toFF.Ok d (x.2 + 1)) ∧ 0 ≤ x.2 ∧ x.2 ≤ len) (fun x => [(6, .int .i64 x.2), (0, .slice (some ⟨bl, ol, none⟩) len cap), (3, ptr bf 0 0)]) (fun x => XM W (foot [.ro bl ol (8 * len) (encActs A)]) [.cells bf 0 321 (encF x.1), .fam fam40 (FC.rowsN 9 x.1), .fam fam40 (FC.rowsK 3 x.1), irow (FC.rP x.1) (FC.rC x.1) 3 (FC.toFF x.1).roots, .ro bl ol (8 * len) (encActs A)]) ((t0, 0)) ?_ (Sub.cons rfl (Sub.cons rfl (Sub.cons rfl (Sub.nil _)))) (fun _ hw => XM.pick (.cons (.there .here) (.cons (.there .here) (.cons (.there .here) (.cons (.there .here) (.cons .here .nil))))) hw) ?_
      · skip
        exact ⟨⟨d1, o0⟩, by simp, by simp⟩
      intro x hx
      obtain ⟨⟨d, hO⟩, hx0, hx1⟩ := hx
      refine XC.seq ?_
      refine XC.seq ?_
      refine XC.region ?_
      refine XO.v (V.move rfl) rfl ?_
      refine XO.v (V.move rfl) rfl ?_
      refine XO.v (V.lenSl rfl Try.underlying22) rfl ?_
      refine XO.v (V.cmp rfl rfl rfl) rfl ?_
      refine XO.nil ?_
      refine XE.next ?_
      refine XC.keep [(0, _), (3, _), (6, _), (34, _)] (Sub.cons rfl (Sub.cons rfl (Sub.cons rfl (Sub.cons rfl (Sub.nil _))))) ?_
      refine XC.condP rfl (fun h4 => ?_) (fun h4 => ?_)
      · skip
        refine XC.skip ?_
        refine XE.next ?_
        refine XC.keep [(0, _), (3, _), (6, _)] (Sub.cons rfl (Sub.cons rfl (Sub.cons rfl (Sub.nil _)))) ?_
        refine XC.seq ?_
        refine XC.block ?_
        refine XC.seq ?_
        refine XC.region ?_
        have hS := hO.sh (by omega)
        have tz := tx x.2 (by omega) (by omega)
        refine XO.v (V.move rfl) rfl ?_
        refine XO.v (V.move rfl) rfl ?_
        refine XO.v (V.indexSl rfl rfl sl_22 (by omega)) rfl ?_
        refine XO.v (V.loadAggRo rfl (inXM (.there (.there (.there (.there .here))))) (acts_load A len _ (by omega)) ag_38 sz_38_8) rfl ?_
        refine XO.allocZ (z := .agg actZero) (m := 8) (C := cellsOf actZero) (by kernel_rfl) rfl (fun _ _ => rfl) rfl ?_
        intro ba
        refine XO.storeAgg rfl rfl .here (acts_store _) ⟨rfl, rfl⟩ sz_38_8 ?_
        refine XO.nil ?_
        refine XE.next ?_
        refine XC.keep [(0, _), (3, _), (6, _), (7, _)] (Sub.cons rfl (Sub.cons rfl (Sub.cons rfl (Sub.cons rfl (Sub.nil _))))) ?_
        refine XC.seq ?_
        refine XC.seq ?_
        refine XC.region ?_
        refine XO.v (V.fieldAddr rfl fo_38_0) rfl ?_
        refine XO.v (V.load rfl (inXM .here) (encAct.ld_Kind _) sc_9) rfl ?_
        refine XO.nil ?_
        refine XE.next ?_
        refine XC.keep [(0, _), (3, _), (6, _), (7, _), (42, _)] (Sub.cons rfl (Sub.cons rfl (Sub.cons rfl (Sub.cons rfl (Sub.cons rfl (Sub.nil _)))))) ?_
        refine XC.block ?_
        refine XC.seq ?_
        refine XC.region ?_
        refine XO.v (V.strCmp rfl rfl rfl) rfl ?_
        refine XO.v (V.assign rfl) rfl ?_
        refine XO.nil ?_
        refine XE.next ?_
        refine XC.keep [(0, _), (3, _), (6, _), (7, _), (42, _), (43, _)] (Sub.cons rfl (Sub.cons rfl (Sub.cons rfl (Sub.cons rfl (Sub.cons rfl (Sub.cons rfl (Sub.nil _))))))) ?_
        refine XC.condP rfl (fun h5 => ?_) (fun h5 => ?_)
        · skip
          refine XC.region ?_
          refine XO.v (V.move rfl) rfl ?_
          refine XO.call rfl (t_Plant _ _ _ hS) (.cons (.there .here) (.cons (.there .here) (.cons (.there .here) (.cons (.there .here) .nil)))) cl_15 rfl ?_
          rintro _ _ ⟨t, rfl, ht, rfl⟩
          obtain ⟨d2, o2⟩ := hO.plant
          rw [← ht] at o2
          refine XO.v (V.move rfl) rfl ?_
          refine XO.v (V.extract rfl rfl) rfl ?_
          refine XO.v (V.extract rfl rfl) rfl ?_
          refine XO.nil ?_
          refine XE.blockNormal ?_
          refine XE.next ?_
          refine XC.keep [(0, _), (3, _), (6, _)] (Sub.cons rfl (Sub.cons rfl (Sub.cons rfl (Sub.nil _)))) ?_
          refine XC.seq ?_
          refine XC.region ?_
          refine XO.v (V.move rfl) rfl ?_
          refine XO.call rfl (rooted_any _ t _ _ o2 (by omega)) (.cons .here (.cons .here (.cons .here (.cons .here .nil)))) cl_30 rfl ?_
          rintro _ _ ⟨rfl, rfl⟩
          refine XO.v (V.assign rfl) rfl ?_
          refine XO.nil ?_
          refine XE.next ?_
          refine XC.keep [(0, _), (3, _), (6, _), (8, _)] (Sub.cons rfl (Sub.cons rfl (Sub.cons rfl (Sub.cons rfl (Sub.nil _))))) ?_
          refine XC.seq ?_
          refine XC.region ?_
          refine XO.v (V.move rfl) rfl ?_
          refine XO.v (V.not rfl) rfl ?_
          refine XO.nil ?_
          refine XE.next ?_
          refine XC.keep [(0, _), (3, _), (6, _), (118, _)] (Sub.cons rfl (Sub.cons rfl (Sub.cons rfl (Sub.cons rfl (Sub.nil _))))) ?_
          refine XC.condF rfl rfl ?_
          refine XC.skip ?_
          refine XE.blockNormal ?_
          refine XE.next ?_
          refine XC.keep [(0, _), (3, _), (6, _)] (Sub.cons rfl (Sub.cons rfl (Sub.cons rfl (Sub.nil _)))) ?_
          refine XC.region ?_
          refine XO.v (V.move rfl) rfl ?_
          refine XO.v (V.add rfl rfl _ (IntWalk.i64_in _ (by omega))) rfl ?_
          refine XO.v (V.assign rfl) rfl ?_
          refine XO.nil ?_
          refine XE.again ((t, x.2 + 1)) ?_ ?_ (Sub.cons rfl (Sub.cons rfl (Sub.cons rfl (Sub.nil _)))) (fun _ hw => XM.pick (.cons .here (.cons .here (.cons .here (.cons .here (.cons (.there .here) .nil))))) hw)
          · skip
            (simp; omega)
          · skip
            exact ⟨⟨_, o2⟩, by simp; omega, by simp; omega⟩
        · skip
          refine XC.seq ?_
          refine XC.region ?_
          refine XO.v (V.strCmp rfl rfl rfl) rfl ?_
          refine XO.v (V.assign rfl) rfl ?_
          refine XO.nil ?_
          refine XE.next ?_
          refine XC.keep [(0, _), (3, _), (6, _), (7, _), (42, _), (50, _)] (Sub.cons rfl (Sub.cons rfl (Sub.cons rfl (Sub.cons rfl (Sub.cons rfl (Sub.cons rfl (Sub.nil _))))))) ?_
          refine XC.condP rfl (fun h6 => ?_) (fun h6 => ?_)
          · skip
            refine XC.region ?_
            refine XO.v (V.move rfl) rfl ?_
            refine XO.v (V.fieldAddr rfl fo_38_1) rfl ?_
            refine XO.v (V.load rfl (inXM .here) (encAct.ld_A _) sc_3) rfl ?_
            refine XO.v (V.fieldAddr rfl fo_38_6) rfl ?_
            refine XO.v (V.load rfl (inXM .here) (encAct.ld_S _) sc_9) rfl ?_
            refine XO.v (V.fieldAddr rfl fo_38_2) rfl ?_
            refine XO.v (V.load rfl (inXM .here) (encAct.ld_B _) sc_3) rfl ?_
            refine XO.call rfl (t_Make _ _ _ hS _ _ _ (by omega)) (.cons (.there .here) (.cons (.there .here) (.cons (.there .here) .nil))) cl_17 rfl ?_
            rintro _ _ ⟨rfl, t, ht, tp, tc, rfl⟩
            obtain ⟨d2, o2⟩ := hO.make _ _ _
            rw [← ht] at o2
            have trr : (FC.toFF t).roots = x.1.toFF.roots := by rw [ht]; exact FF.make_roots _ _ _ _
            refine XO.v (V.move rfl) rfl ?_
            refine XO.v (V.extract rfl rfl) rfl ?_
            refine XO.v (V.extract rfl rfl) rfl ?_
            refine XO.nil ?_
            refine XE.blockNormal ?_
            refine XE.next ?_
            refine XC.keep [(0, _), (3, _), (6, _)] (Sub.cons rfl (Sub.cons rfl (Sub.cons rfl (Sub.nil _)))) ?_
            refine XC.seq ?_
            refine XC.region ?_
            refine XO.mono (fun _ hw3 => XM.rrSame (s := x.1) tp tc trr (.cons (.there (.there (.there (.there .here)))) .nil) hw3) ?_
            refine XO.v (V.move rfl) rfl ?_
            refine XO.call rfl (rooted_any _ t _ _ o2 (by omega)) (.cons (.there .here) (.cons (.there .here) (.cons (.there .here) (.cons .here .nil)))) cl_30 rfl ?_
            rintro _ _ ⟨rfl, rfl⟩
            refine XO.v (V.assign rfl) rfl ?_
            refine XO.nil ?_
            refine XE.next ?_
            refine XC.keep [(0, _), (3, _), (6, _), (8, _)] (Sub.cons rfl (Sub.cons rfl (Sub.cons rfl (Sub.cons rfl (Sub.nil _))))) ?_
            refine XC.seq ?_
            refine XC.region ?_
            refine XO.v (V.move rfl) rfl ?_
            refine XO.v (V.not rfl) rfl ?_
            refine XO.nil ?_
            refine XE.next ?_
            refine XC.keep [(0, _), (3, _), (6, _), (118, _)] (Sub.cons rfl (Sub.cons rfl (Sub.cons rfl (Sub.cons rfl (Sub.nil _))))) ?_
            refine XC.condF rfl rfl ?_
            refine XC.skip ?_
            refine XE.blockNormal ?_
            refine XE.next ?_
            refine XC.keep [(0, _), (3, _), (6, _)] (Sub.cons rfl (Sub.cons rfl (Sub.cons rfl (Sub.nil _)))) ?_
            refine XC.region ?_
            refine XO.v (V.move rfl) rfl ?_
            refine XO.v (V.add rfl rfl _ (IntWalk.i64_in _ (by omega))) rfl ?_
            refine XO.v (V.assign rfl) rfl ?_
            refine XO.nil ?_
            refine XE.again ((t, x.2 + 1)) ?_ ?_ (Sub.cons rfl (Sub.cons rfl (Sub.cons rfl (Sub.nil _)))) (fun _ hw => XM.pick (.cons .here (.cons .here (.cons .here (.cons .here (.cons (.there .here) .nil))))) hw)
            · skip
              (simp; omega)
            · skip
              exact ⟨⟨_, o2⟩, by simp; omega, by simp; omega⟩
          · skip
            refine XC.seq ?_
            refine XC.region ?_
            refine XO.v (V.strCmp rfl rfl rfl) rfl ?_
            refine XO.v (V.assign rfl) rfl ?_
            refine XO.nil ?_
            refine XE.next ?_
            refine XC.keep [(0, _), (3, _), (6, _), (7, _), (42, _), (63, _)] (Sub.cons rfl (Sub.cons rfl (Sub.cons rfl (Sub.cons rfl (Sub.cons rfl (Sub.cons rfl (Sub.nil _))))))) ?_
            refine XC.condP rfl (fun h7 => ?_) (fun h7 => ?_)
            · skip
              refine XC.region ?_
              refine XO.v (V.move rfl) rfl ?_
              refine XO.v (V.fieldAddr rfl fo_38_1) rfl ?_
              refine XO.v (V.load rfl (inXM .here) (encAct.ld_A _) sc_3) rfl ?_
              refine XO.v (V.fieldAddr rfl fo_38_2) rfl ?_
              refine XO.v (V.load rfl (inXM .here) (encAct.ld_B _) sc_3) rfl ?_
              refine XO.v (V.fieldAddr rfl fo_38_6) rfl ?_
              refine XO.v (V.load rfl (inXM .here) (encAct.ld_S _) sc_9) rfl ?_
              refine XO.call rfl (t_Link _ _ _ hS _ _ _ (by omega)) (.cons (.there .here) (.cons (.there .here) (.cons (.there .here) .nil))) cl_18 rfl ?_
              rintro _ _ ⟨rfl, t, ht, tp, tc, rfl⟩
              have o2 := (congrArg (fun q => FF.Ok q d _) ht).mpr (hO.link _ _ _)
              have trr : (FC.toFF t).roots = x.1.toFF.roots := by rw [ht]; exact FF.link_roots _ _ _ _
              refine XO.nil ?_
              refine XE.blockNormal ?_
              refine XE.next ?_
              refine XC.keep [(0, _), (3, _), (6, _)] (Sub.cons rfl (Sub.cons rfl (Sub.cons rfl (Sub.nil _)))) ?_
              refine XC.seq ?_
              refine XC.region ?_
              refine XO.mono (fun _ hw3 => XM.rrSame (s := x.1) tp tc trr (.cons (.there (.there (.there (.there .here)))) .nil) hw3) ?_
              refine XO.v (V.move rfl) rfl ?_
              refine XO.call rfl (rooted_any _ t _ _ o2 (by omega)) (.cons (.there .here) (.cons (.there .here) (.cons (.there .here) (.cons .here .nil)))) cl_30 rfl ?_
              rintro _ _ ⟨rfl, rfl⟩
              refine XO.v (V.assign rfl) rfl ?_
              refine XO.nil ?_
              refine XE.next ?_
              refine XC.keep [(0, _), (3, _), (6, _), (8, _)] (Sub.cons rfl (Sub.cons rfl (Sub.cons rfl (Sub.cons rfl (Sub.nil _))))) ?_
              refine XC.seq ?_
              refine XC.region ?_
              refine XO.v (V.move rfl) rfl ?_
              refine XO.v (V.not rfl) rfl ?_
              refine XO.nil ?_
              refine XE.next ?_
              refine XC.keep [(0, _), (3, _), (6, _), (118, _)] (Sub.cons rfl (Sub.cons rfl (Sub.cons rfl (Sub.cons rfl (Sub.nil _))))) ?_
              refine XC.condF rfl rfl ?_
              refine XC.skip ?_
              refine XE.blockNormal ?_
              refine XE.next ?_
              refine XC.keep [(0, _), (3, _), (6, _)] (Sub.cons rfl (Sub.cons rfl (Sub.cons rfl (Sub.nil _)))) ?_
              refine XC.region ?_
              refine XO.v (V.move rfl) rfl ?_
              refine XO.v (V.add rfl rfl _ (IntWalk.i64_in _ (by omega))) rfl ?_
              refine XO.v (V.assign rfl) rfl ?_
              refine XO.nil ?_
              refine XE.again ((t, x.2 + 1)) ?_ ?_ (Sub.cons rfl (Sub.cons rfl (Sub.cons rfl (Sub.nil _)))) (fun _ hw => XM.pick (.cons .here (.cons .here (.cons .here (.cons .here (.cons (.there .here) .nil))))) hw)
              · skip
                (simp; omega)
              · skip
                exact ⟨⟨_, o2⟩, by simp; omega, by simp; omega⟩
            · skip
              refine XC.seq ?_
              refine XC.region ?_
              refine XO.v (V.strCmp rfl rfl rfl) rfl ?_
              refine XO.v (V.assign rfl) rfl ?_
              refine XO.nil ?_
              refine XE.next ?_
              refine XC.keep [(0, _), (3, _), (6, _), (7, _), (42, _), (73, _)] (Sub.cons rfl (Sub.cons rfl (Sub.cons rfl (Sub.cons rfl (Sub.cons rfl (Sub.cons rfl (Sub.nil _))))))) ?_
              refine XC.condP rfl (fun h8 => ?_) (fun h8 => ?_)
              · skip
                refine XC.region ?_
                refine XO.v (V.move rfl) rfl ?_
                refine XO.v (V.fieldAddr rfl fo_38_1) rfl ?_
                refine XO.v (V.load rfl (inXM .here) (encAct.ld_A _) sc_3) rfl ?_
                refine XO.v (V.fieldAddr rfl fo_38_6) rfl ?_
                refine XO.v (V.load rfl (inXM .here) (encAct.ld_S _) sc_9) rfl ?_
                refine XO.call rfl (t_Remove _ _ _ hS _ _) (.cons (.there .here) (.cons (.there .here) (.cons (.there .here) .nil))) cl_27 rfl ?_
                rintro _ _ ⟨rfl, t, ht, tp, tc, rfl⟩
                have o2 := (congrArg (fun q => FF.Ok q d _) ht).mpr (hO.remove _ _)
                have trr : (FC.toFF t).roots = x.1.toFF.roots := by rw [ht]; exact FF.remove_roots _ _ _
                refine XO.nil ?_
                refine XE.blockNormal ?_
                refine XE.next ?_
                refine XC.keep [(0, _), (3, _), (6, _)] (Sub.cons rfl (Sub.cons rfl (Sub.cons rfl (Sub.nil _)))) ?_
                refine XC.seq ?_
                refine XC.region ?_
                refine XO.mono (fun _ hw3 => XM.rrSame (s := x.1) tp tc trr (.cons (.there (.there (.there (.there .here)))) .nil) hw3) ?_
                refine XO.v (V.move rfl) rfl ?_
                refine XO.call rfl (rooted_any _ t _ _ o2 (by omega)) (.cons (.there .here) (.cons (.there .here) (.cons (.there .here) (.cons .here .nil)))) cl_30 rfl ?_
                rintro _ _ ⟨rfl, rfl⟩
                refine XO.v (V.assign rfl) rfl ?_
                refine XO.nil ?_
                refine XE.next ?_
                refine XC.keep [(0, _), (3, _), (6, _), (8, _)] (Sub.cons rfl (Sub.cons rfl (Sub.cons rfl (Sub.cons rfl (Sub.nil _))))) ?_
                refine XC.seq ?_
                refine XC.region ?_
                refine XO.v (V.move rfl) rfl ?_
                refine XO.v (V.not rfl) rfl ?_
                refine XO.nil ?_
                refine XE.next ?_
                refine XC.keep [(0, _), (3, _), (6, _), (118, _)] (Sub.cons rfl (Sub.cons rfl (Sub.cons rfl (Sub.cons rfl (Sub.nil _))))) ?_
                refine XC.condF rfl rfl ?_
                refine XC.skip ?_
                refine XE.blockNormal ?_
                refine XE.next ?_
                refine XC.keep [(0, _), (3, _), (6, _)] (Sub.cons rfl (Sub.cons rfl (Sub.cons rfl (Sub.nil _)))) ?_
                refine XC.region ?_
                refine XO.v (V.move rfl) rfl ?_
                refine XO.v (V.add rfl rfl _ (IntWalk.i64_in _ (by omega))) rfl ?_
                refine XO.v (V.assign rfl) rfl ?_
                refine XO.nil ?_
                refine XE.again ((t, x.2 + 1)) ?_ ?_ (Sub.cons rfl (Sub.cons rfl (Sub.cons rfl (Sub.nil _)))) (fun _ hw => XM.pick (.cons .here (.cons .here (.cons .here (.cons .here (.cons (.there .here) .nil))))) hw)
                · skip
                  (simp; omega)
                · skip
                  exact ⟨⟨_, o2⟩, by simp; omega, by simp; omega⟩
              · skip
                refine XC.seq ?_
                refine XC.region ?_
                refine XO.v (V.strCmp rfl rfl rfl) rfl ?_
                refine XO.v (V.assign rfl) rfl ?_
                refine XO.nil ?_
                refine XE.next ?_
                refine XC.keep [(0, _), (3, _), (6, _), (7, _), (42, _), (81, _)] (Sub.cons rfl (Sub.cons rfl (Sub.cons rfl (Sub.cons rfl (Sub.cons rfl (Sub.cons rfl (Sub.nil _))))))) ?_
                refine XC.condP rfl (fun h9 => ?_) (fun h9 => ?_)
                · skip
                  refine XC.region ?_
                  refine XO.v (V.move rfl) rfl ?_
                  refine XO.v (V.fieldAddr rfl fo_38_1) rfl ?_
                  refine XO.v (V.load rfl (inXM .here) (encAct.ld_A _) sc_3) rfl ?_
                  refine XO.v (V.fieldAddr rfl fo_38_6) rfl ?_
                  refine XO.v (V.load rfl (inXM .here) (encAct.ld_S _) sc_9) rfl ?_
                  refine XO.v (V.fieldAddr rfl fo_38_2) rfl ?_
                  refine XO.v (V.load rfl (inXM .here) (encAct.ld_B _) sc_3) rfl ?_
                  refine XO.v (V.fieldAddr rfl fo_38_7) rfl ?_
                  refine XO.v (V.load rfl (inXM .here) (encAct.ld_T _) sc_9) rfl ?_
                  refine XO.call rfl (t_Move _ _ _ hS d (fun k => hO.inv.chI k) _ _ _ _ (by omega)) (.cons (.there .here) (.cons (.there .here) (.cons (.there .here) .nil))) cl_24 rfl ?_
                  rintro _ _ ⟨rfl, t, ht, tp, tc, rfl⟩
                  obtain ⟨d2, o2⟩ := hO.move _ _ _ _
                  rw [← ht] at o2
                  have trr : (FC.toFF t).roots = x.1.toFF.roots := by rw [ht]; exact FF.move_roots _ _ _ _ _ _
                  refine XO.nil ?_
                  refine XE.blockNormal ?_
                  refine XE.next ?_
                  refine XC.keep [(0, _), (3, _), (6, _)] (Sub.cons rfl (Sub.cons rfl (Sub.cons rfl (Sub.nil _)))) ?_
                  refine XC.seq ?_
                  refine XC.region ?_
                  refine XO.mono (fun _ hw3 => XM.rrSame (s := x.1) tp tc trr (.cons (.there (.there (.there (.there .here)))) .nil) hw3) ?_
                  refine XO.v (V.move rfl) rfl ?_
                  refine XO.call rfl (rooted_any _ t _ _ o2 (by omega)) (.cons (.there .here) (.cons (.there .here) (.cons (.there .here) (.cons .here .nil)))) cl_30 rfl ?_
                  rintro _ _ ⟨rfl, rfl⟩
                  refine XO.v (V.assign rfl) rfl ?_
                  refine XO.nil ?_
                  refine XE.next ?_
                  refine XC.keep [(0, _), (3, _), (6, _), (8, _)] (Sub.cons rfl (Sub.cons rfl (Sub.cons rfl (Sub.cons rfl (Sub.nil _))))) ?_
                  refine XC.seq ?_
                  refine XC.region ?_
                  refine XO.v (V.move rfl) rfl ?_
                  refine XO.v (V.not rfl) rfl ?_
                  refine XO.nil ?_
                  refine XE.next ?_
                  refine XC.keep [(0, _), (3, _), (6, _), (118, _)] (Sub.cons rfl (Sub.cons rfl (Sub.cons rfl (Sub.cons rfl (Sub.nil _))))) ?_
                  refine XC.condF rfl rfl ?_
                  refine XC.skip ?_
                  refine XE.blockNormal ?_
                  refine XE.next ?_
                  refine XC.keep [(0, _), (3, _), (6, _)] (Sub.cons rfl (Sub.cons rfl (Sub.cons rfl (Sub.nil _)))) ?_
                  refine XC.region ?_
                  refine XO.v (V.move rfl) rfl ?_
                  refine XO.v (V.add rfl rfl _ (IntWalk.i64_in _ (by omega))) rfl ?_
                  refine XO.v (V.assign rfl) rfl ?_
                  refine XO.nil ?_
                  refine XE.again ((t, x.2 + 1)) ?_ ?_ (Sub.cons rfl (Sub.cons rfl (Sub.cons rfl (Sub.nil _)))) (fun _ hw => XM.pick (.cons .here (.cons .here (.cons .here (.cons .here (.cons (.there .here) .nil))))) hw)
                  · skip
                    (simp; omega)
                  · skip
                    exact ⟨⟨_, o2⟩, by simp; omega, by simp; omega⟩
                · skip
                  refine XC.seq ?_
                  refine XC.region ?_
                  refine XO.v (V.strCmp rfl rfl rfl) rfl ?_
                  refine XO.v (V.assign rfl) rfl ?_
                  refine XO.nil ?_
                  refine XE.next ?_
                  refine XC.keep [(0, _), (3, _), (6, _), (7, _), (42, _), (93, _)] (Sub.cons rfl (Sub.cons rfl (Sub.cons rfl (Sub.cons rfl (Sub.cons rfl (Sub.cons rfl (Sub.nil _))))))) ?_
                  refine XC.condP rfl (fun h10 => ?_) (fun h10 => ?_)
                  · skip
                    refine XC.region ?_
                    refine XO.v (V.move rfl) rfl ?_
                    refine XO.v (V.fieldAddr rfl fo_38_1) rfl ?_
                    refine XO.v (V.load rfl (inXM .here) (encAct.ld_A _) sc_3) rfl ?_
                    refine XO.call rfl (t_Hold _ _ _ hS _) (.cons (.there .here) (.cons (.there .here) (.cons (.there .here) .nil))) cl_28 rfl ?_
                    rintro _ _ ⟨rfl, t, ht, tp, tc, rfl⟩
                    have o2 := (congrArg (fun q => FF.Ok q d _) ht).mpr (hO.hold _)
                    have trr : (FC.toFF t).roots = x.1.toFF.roots := by rw [ht]; exact FF.hold_roots _ _
                    refine XO.nil ?_
                    refine XE.blockNormal ?_
                    refine XE.next ?_
                    refine XC.keep [(0, _), (3, _), (6, _)] (Sub.cons rfl (Sub.cons rfl (Sub.cons rfl (Sub.nil _)))) ?_
                    refine XC.seq ?_
                    refine XC.region ?_
                    refine XO.mono (fun _ hw3 => XM.rrSame (s := x.1) tp tc trr (.cons (.there (.there (.there (.there .here)))) .nil) hw3) ?_
                    refine XO.v (V.move rfl) rfl ?_
                    refine XO.call rfl (rooted_any _ t _ _ o2 (by omega)) (.cons (.there .here) (.cons (.there .here) (.cons (.there .here) (.cons .here .nil)))) cl_30 rfl ?_
                    rintro _ _ ⟨rfl, rfl⟩
                    refine XO.v (V.assign rfl) rfl ?_
                    refine XO.nil ?_
                    refine XE.next ?_
                    refine XC.keep [(0, _), (3, _), (6, _), (8, _)] (Sub.cons rfl (Sub.cons rfl (Sub.cons rfl (Sub.cons rfl (Sub.nil _))))) ?_
                    refine XC.seq ?_
                    refine XC.region ?_
                    refine XO.v (V.move rfl) rfl ?_
                    refine XO.v (V.not rfl) rfl ?_
                    refine XO.nil ?_
                    refine XE.next ?_
                    refine XC.keep [(0, _), (3, _), (6, _), (118, _)] (Sub.cons rfl (Sub.cons rfl (Sub.cons rfl (Sub.cons rfl (Sub.nil _))))) ?_
                    refine XC.condF rfl rfl ?_
                    refine XC.skip ?_
                    refine XE.blockNormal ?_
                    refine XE.next ?_
                    refine XC.keep [(0, _), (3, _), (6, _)] (Sub.cons rfl (Sub.cons rfl (Sub.cons rfl (Sub.nil _)))) ?_
                    refine XC.region ?_
                    refine XO.v (V.move rfl) rfl ?_
                    refine XO.v (V.add rfl rfl _ (IntWalk.i64_in _ (by omega))) rfl ?_
                    refine XO.v (V.assign rfl) rfl ?_
                    refine XO.nil ?_
                    refine XE.again ((t, x.2 + 1)) ?_ ?_ (Sub.cons rfl (Sub.cons rfl (Sub.cons rfl (Sub.nil _)))) (fun _ hw => XM.pick (.cons .here (.cons .here (.cons .here (.cons .here (.cons (.there .here) .nil))))) hw)
                    · skip
                      (simp; omega)
                    · skip
                      exact ⟨⟨_, o2⟩, by simp; omega, by simp; omega⟩
                  · skip
                    refine XC.seq ?_
                    refine XC.region ?_
                    refine XO.v (V.strCmp rfl rfl rfl) rfl ?_
                    refine XO.v (V.assign rfl) rfl ?_
                    refine XO.nil ?_
                    refine XE.next ?_
                    refine XC.keep [(0, _), (3, _), (6, _), (7, _), (42, _), (99, _)] (Sub.cons rfl (Sub.cons rfl (Sub.cons rfl (Sub.cons rfl (Sub.cons rfl (Sub.cons rfl (Sub.nil _))))))) ?_
                    refine XC.condP rfl (fun h11 => ?_) (fun h11 => ?_)
                    · skip
                      refine XC.region ?_
                      refine XO.v (V.move rfl) rfl ?_
                      refine XO.v (V.fieldAddr rfl fo_38_1) rfl ?_
                      refine XO.v (V.load rfl (inXM .here) (encAct.ld_A _) sc_3) rfl ?_
                      refine XO.call rfl (t_Let _ _ _ hS _) (.cons (.there .here) (.cons (.there .here) (.cons (.there .here) .nil))) cl_29 rfl ?_
                      rintro _ _ ⟨rfl, t, ht, tp, tc, rfl⟩
                      have o2 := (congrArg (fun q => FF.Ok q d _) ht).mpr (hO.letF _)
                      have trr : (FC.toFF t).roots = x.1.toFF.roots := by rw [ht]; exact FF.letF_roots _ _
                      refine XO.nil ?_
                      refine XE.blockNormal ?_
                      refine XE.next ?_
                      refine XC.keep [(0, _), (3, _), (6, _)] (Sub.cons rfl (Sub.cons rfl (Sub.cons rfl (Sub.nil _)))) ?_
                      refine XC.seq ?_
                      refine XC.region ?_
                      refine XO.mono (fun _ hw3 => XM.rrSame (s := x.1) tp tc trr (.cons (.there (.there (.there (.there .here)))) .nil) hw3) ?_
                      refine XO.v (V.move rfl) rfl ?_
                      refine XO.call rfl (rooted_any _ t _ _ o2 (by omega)) (.cons (.there .here) (.cons (.there .here) (.cons (.there .here) (.cons .here .nil)))) cl_30 rfl ?_
                      rintro _ _ ⟨rfl, rfl⟩
                      refine XO.v (V.assign rfl) rfl ?_
                      refine XO.nil ?_
                      refine XE.next ?_
                      refine XC.keep [(0, _), (3, _), (6, _), (8, _)] (Sub.cons rfl (Sub.cons rfl (Sub.cons rfl (Sub.cons rfl (Sub.nil _))))) ?_
                      refine XC.seq ?_
                      refine XC.region ?_
                      refine XO.v (V.move rfl) rfl ?_
                      refine XO.v (V.not rfl) rfl ?_
                      refine XO.nil ?_
                      refine XE.next ?_
                      refine XC.keep [(0, _), (3, _), (6, _), (118, _)] (Sub.cons rfl (Sub.cons rfl (Sub.cons rfl (Sub.cons rfl (Sub.nil _))))) ?_
                      refine XC.condF rfl rfl ?_
                      refine XC.skip ?_
                      refine XE.blockNormal ?_
                      refine XE.next ?_
                      refine XC.keep [(0, _), (3, _), (6, _)] (Sub.cons rfl (Sub.cons rfl (Sub.cons rfl (Sub.nil _)))) ?_
                      refine XC.region ?_
                      refine XO.v (V.move rfl) rfl ?_
                      refine XO.v (V.add rfl rfl _ (IntWalk.i64_in _ (by omega))) rfl ?_
                      refine XO.v (V.assign rfl) rfl ?_
                      refine XO.nil ?_
                      refine XE.again ((t, x.2 + 1)) ?_ ?_ (Sub.cons rfl (Sub.cons rfl (Sub.cons rfl (Sub.nil _)))) (fun _ hw => XM.pick (.cons .here (.cons .here (.cons .here (.cons .here (.cons (.there .here) .nil))))) hw)
                      · skip
                        (simp; omega)
                      · skip
                        exact ⟨⟨_, o2⟩, by simp; omega, by simp; omega⟩
                    · skip
                      refine XC.seq ?_
                      refine XC.region ?_
                      refine XO.v (V.strCmp rfl rfl rfl) rfl ?_
                      refine XO.v (V.assign rfl) rfl ?_
                      refine XO.nil ?_
                      refine XE.next ?_
                      refine XC.keep [(0, _), (3, _), (6, _), (7, _), (105, _)] (Sub.cons rfl (Sub.cons rfl (Sub.cons rfl (Sub.cons rfl (Sub.cons rfl (Sub.nil _)))))) ?_
                      refine XC.condP rfl (fun h12 => ?_) (fun h12 => ?_)
                      · skip
                        refine XC.region ?_
                        refine XO.v (V.move rfl) rfl ?_
                        refine XO.v (V.fieldAddr rfl fo_38_1) rfl ?_
                        refine XO.v (V.load rfl (inXM .here) (encAct.ld_A _) sc_3) rfl ?_
                        refine XO.v (V.fieldAddr rfl fo_38_2) rfl ?_
                        refine XO.v (V.load rfl (inXM .here) (encAct.ld_B _) sc_3) rfl ?_
                        refine XO.v (V.fieldAddr rfl fo_38_6) rfl ?_
                        refine XO.v (V.load rfl (inXM .here) (encAct.ld_S _) sc_9) rfl ?_
                        refine XO.call rfl (t_Write _ _ _ hS _ _ _ (by omega)) (.cons (.there .here) (.cons (.there .here) (.cons (.there .here) .nil))) cl_19 rfl ?_
                        rintro _ _ ⟨rfl, t, ht, tp, tc, rfl⟩
                        have o2 := (congrArg (fun q => FF.Ok q d _) ht).mpr (hO.write _ _ _)
                        have trr : (FC.toFF t).roots = x.1.toFF.roots := by rw [ht]; exact FF.write_roots _ _ _ _
                        refine XO.nil ?_
                        refine XE.blockNormal ?_
                        refine XE.next ?_
                        refine XC.keep [(0, _), (3, _), (6, _)] (Sub.cons rfl (Sub.cons rfl (Sub.cons rfl (Sub.nil _)))) ?_
                        refine XC.seq ?_
                        refine XC.region ?_
                        refine XO.mono (fun _ hw3 => XM.rrSame (s := x.1) tp tc trr (.cons (.there (.there (.there (.there .here)))) .nil) hw3) ?_
                        refine XO.v (V.move rfl) rfl ?_
                        refine XO.call rfl (rooted_any _ t _ _ o2 (by omega)) (.cons (.there .here) (.cons (.there .here) (.cons (.there .here) (.cons .here .nil)))) cl_30 rfl ?_
                        rintro _ _ ⟨rfl, rfl⟩
                        refine XO.v (V.assign rfl) rfl ?_
                        refine XO.nil ?_
                        refine XE.next ?_
                        refine XC.keep [(0, _), (3, _), (6, _), (8, _)] (Sub.cons rfl (Sub.cons rfl (Sub.cons rfl (Sub.cons rfl (Sub.nil _))))) ?_
                        refine XC.seq ?_
                        refine XC.region ?_
                        refine XO.v (V.move rfl) rfl ?_
                        refine XO.v (V.not rfl) rfl ?_
                        refine XO.nil ?_
                        refine XE.next ?_
                        refine XC.keep [(0, _), (3, _), (6, _), (118, _)] (Sub.cons rfl (Sub.cons rfl (Sub.cons rfl (Sub.cons rfl (Sub.nil _))))) ?_
                        refine XC.condF rfl rfl ?_
                        refine XC.skip ?_
                        refine XE.blockNormal ?_
                        refine XE.next ?_
                        refine XC.keep [(0, _), (3, _), (6, _)] (Sub.cons rfl (Sub.cons rfl (Sub.cons rfl (Sub.nil _)))) ?_
                        refine XC.region ?_
                        refine XO.v (V.move rfl) rfl ?_
                        refine XO.v (V.add rfl rfl _ (IntWalk.i64_in _ (by omega))) rfl ?_
                        refine XO.v (V.assign rfl) rfl ?_
                        refine XO.nil ?_
                        refine XE.again ((t, x.2 + 1)) ?_ ?_ (Sub.cons rfl (Sub.cons rfl (Sub.cons rfl (Sub.nil _)))) (fun _ hw => XM.pick (.cons .here (.cons .here (.cons .here (.cons .here (.cons (.there .here) .nil))))) hw)
                        · skip
                          (simp; omega)
                        · skip
                          exact ⟨⟨_, o2⟩, by simp; omega, by simp; omega⟩
                      · skip
                        refine XC.skip ?_
                        refine XE.blockNormal ?_
                        refine XE.next ?_
                        refine XC.keep [(0, _), (3, _), (6, _)] (Sub.cons rfl (Sub.cons rfl (Sub.cons rfl (Sub.nil _)))) ?_
                        refine XC.seq ?_
                        refine XC.region ?_
                        refine XO.v (V.move rfl) rfl ?_
                        refine XO.call rfl (rooted_any _ x.1 d _ hO (by omega)) (.cons (.there .here) (.cons (.there .here) (.cons (.there .here) (.cons (.there .here) .nil)))) cl_30 rfl ?_
                        rintro _ _ ⟨rfl, rfl⟩
                        refine XO.v (V.assign rfl) rfl ?_
                        refine XO.nil ?_
                        refine XE.next ?_
                        refine XC.keep [(0, _), (3, _), (6, _), (8, _)] (Sub.cons rfl (Sub.cons rfl (Sub.cons rfl (Sub.cons rfl (Sub.nil _))))) ?_
                        refine XC.seq ?_
                        refine XC.region ?_
                        refine XO.v (V.move rfl) rfl ?_
                        refine XO.v (V.not rfl) rfl ?_
                        refine XO.nil ?_
                        refine XE.next ?_
                        refine XC.keep [(0, _), (3, _), (6, _), (118, _)] (Sub.cons rfl (Sub.cons rfl (Sub.cons rfl (Sub.cons rfl (Sub.nil _))))) ?_
                        refine XC.condF rfl rfl ?_
                        refine XC.skip ?_
                        refine XE.blockNormal ?_
                        refine XE.next ?_
                        refine XC.keep [(0, _), (3, _), (6, _)] (Sub.cons rfl (Sub.cons rfl (Sub.cons rfl (Sub.nil _)))) ?_
                        refine XC.region ?_
                        refine XO.v (V.move rfl) rfl ?_
                        refine XO.v (V.add rfl rfl _ (IntWalk.i64_in _ (by omega))) rfl ?_
                        refine XO.v (V.assign rfl) rfl ?_
                        refine XO.nil ?_
                        refine XE.again ((x.1, x.2 + 1)) ?_ ?_ (Sub.cons rfl (Sub.cons rfl (Sub.cons rfl (Sub.nil _)))) (fun _ hw => XM.pick (.cons .here (.cons .here (.cons .here (.cons .here (.cons (.there .here) .nil))))) hw)
                        · skip
                          (simp; omega)
                        · skip
                          exact ⟨⟨d, hO.up1⟩, by simp; omega, by simp; omega⟩
      · skip
        refine XC.exit ?_
        refine XE.thenExit ?_
        refine XE.thenExit ?_
        refine XE.blockExit ?_
        refine XE.next ?_
        refine XC.keep [] (Sub.nil _) ?_
        refine XC.seq ?_
        refine XC.region ?_
        refine XO.v (V.assign rfl) rfl ?_
        refine XO.nil ?_
        refine XE.next ?_
        refine XC.keep [(2, _)] (Sub.cons rfl (Sub.nil _)) ?_
        refine XC.ret ?_
        refine XE.ret1 rfl rfl (post_of .nil rfl ?_)
        exact ⟨rfl, rfl⟩
end Go.X
