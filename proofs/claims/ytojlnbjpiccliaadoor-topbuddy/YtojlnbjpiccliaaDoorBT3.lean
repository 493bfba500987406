import Derived.Test.YtojlnbjpiccliaaDoorBT2
namespace Go.X
open Go Go.Proofs

set_option maxRecDepth 10000 in
set_option maxHeartbeats 4000000 in
theorem top_nil' (p : Option Addr) (cap : Nat) : Spec Tryd.prog 4 [.slice p 0 cap]
    [.ro 0 0 64 tab64]
    (fun v H1 => v = .bool true ∧ H1 = []) := by
  refine Spec.intro Tryd.func4 rfl rfl ?_
  intro W
  refine XC.seq ?_
  refine XC.region ?_
  refine XO.v (V.assign rfl) rfl ?_
  refine XO.nil ?_
  refine XE.next ?_
  refine XC.keep [(0, _)] (Sub.cons rfl (Sub.nil _)) ?_
  refine XC.seq ?_
  refine XC.region ?_
  refine XO.call rfl (p_New) .nil cl_7 rfl ?_
  rintro _ _ ⟨bs, rfl, rfl⟩
  refine XO.v (V.assign rfl) rfl ?_
  refine XO.nil ?_
  refine XE.next ?_
  refine XC.keep [(0, _), (3, _)] (Sub.cons rfl (Sub.cons rfl (Sub.nil _))) ?_
  refine XC.seq ?_
  refine XC.seq ?_
  refine XC.region ?_
  refine XO.v (V.move rfl) rfl ?_
  refine XO.v (V.ptrNilP rfl Tryd.underlying25 rfl) rfl ?_
  refine XO.v (V.move rfl) rfl ?_
  refine XO.guardRun rfl rfl rfl ?_
  refine XO.v (V.move rfl) rfl ?_
  refine XO.guardRun rfl rfl rfl ?_
  refine XO.call rfl (p_Left _ _ _ BB.Inv.init) (.cons .here .nil) cl_15 rfl ?_
  rintro _ _ ⟨rfl, rfl⟩
  refine XO.guardRun rfl rfl rfl ?_
  refine XO.v (V.cmp rfl rfl rfl) rfl ?_
  refine XO.v (V.pick rfl rfl rfl rfl) rfl ?_
  refine XO.nil ?_
  refine XE.next ?_
  refine XC.keep [(0, _), (3, _), (28, _)] (Sub.cons rfl (Sub.cons rfl (Sub.cons rfl (Sub.nil _)))) ?_
  refine XC.condFP rfl (by decide +kernel) ?_
  refine XC.skip ?_
  refine XE.next ?_
  refine XC.keep [(0, _), (3, _)] (Sub.cons rfl (Sub.cons rfl (Sub.nil _))) ?_
  refine XC.seq ?_
  refine XC.seq ?_
  refine XC.region ?_
  refine XO.v (V.move rfl) rfl ?_
  refine XO.call rfl (light_any _ _ _ _) .nil cl_6 rfl ?_
  rintro _ _ ⟨rfl, rfl⟩
  refine XO.v (V.notP rfl) rfl ?_
  refine XO.nil ?_
  refine XE.next ?_
  refine XC.keep [(0, _), (3, _), (31, _)] (Sub.cons rfl (Sub.cons rfl (Sub.cons rfl (Sub.nil _)))) ?_
  refine XC.condP rfl (fun h1 => ?_) (fun h1 => ?_)
  · skip
    refine XC.seq ?_
    refine XC.region ?_
    refine XO.v (V.assign rfl) rfl ?_
    refine XO.nil ?_
    refine XE.next ?_
    refine XC.keep [(2, _)] (Sub.cons rfl (Sub.nil _)) ?_
    refine XC.ret ?_
    refine XE.thenRet ?_
    refine XE.ret1 rfl rfl (post_of .nil rfl ?_)
    first | exact ⟨rfl, rfl⟩ | exact ⟨congrArg Value.bool (by rw [hw9]; decide +kernel), rfl⟩
  · skip
    refine XC.skip ?_
    refine XE.next ?_
    refine XC.keep [(0, _), (3, _)] (Sub.cons rfl (Sub.cons rfl (Sub.nil _))) ?_
    refine XC.seq ?_
    refine XC.region ?_
    refine XO.allocZ (z := .agg (arrV (fun _ => 0) 64)) (m := 64) (C := encI BB.init.usedOf 64) (by kernel_rfl) (arrV_size (fun _ => 0) 64) (by rw [show BB.init.usedOf = fun _ => 0 from rfl]; exact encI.box (fun _ => 0) 64) rfl ?_
    intro bt
    refine XO.nil ?_
    refine XE.next ?_
    refine XC.keep [(0, _), (3, _), (4, _)] (Sub.cons rfl (Sub.cons rfl (Sub.cons rfl (Sub.nil _)))) ?_
    refine XC.seq ?_
    refine XC.seq ?_
    refine XC.region ?_
    refine XO.v (V.assign rfl) rfl ?_
    refine XO.nil ?_
    refine XE.next ?_
    refine XC.keep [(0, _), (3, _), (4, _), (5, _)] (Sub.cons rfl (Sub.cons rfl (Sub.cons rfl (Sub.cons rfl (Sub.nil _))))) ?_
    refine XC.block ?_
    refine XC.loop (σ := BB × Int) (fun x => 0) (fun x => x.1.Full ∧ 0 ≤ x.2 ∧ x.2 ≤ (0 : Nat)) (fun x => [(5, .int .i64 x.2), (0, .slice p 0 cap), (3, ptr bs 0 0), (4, ptr bt 0 0)]) (fun x => XM W (foot [.ro 0 0 64 tab64]) [.cells bs 0 71 (encP x.1.pool), .cells bt 0 64 (encI x.1.usedOf 64), .ro 0 0 64 tab64]) ((BB.init, 0)) ?_ (Sub.cons rfl (Sub.cons rfl (Sub.cons rfl (Sub.cons rfl (Sub.nil _))))) (fun _ hw => XM.pick (.cons (.there .here) (.cons .here (.cons .here .nil))) hw) ?_
    · skip
      exact ⟨BB.Full.init, by simp, by simp⟩
    intro x hx
    obtain ⟨hx, hx0, hx1⟩ := hx
    refine XC.seq ?_
    refine XC.seq ?_
    refine XC.region ?_
    refine XO.v (V.move rfl) rfl ?_
    refine XO.v (V.move rfl) rfl ?_
    refine XO.v (V.lenSl rfl Tryd.underlying22) rfl ?_
    refine XO.v (V.cmp rfl rfl rfl) rfl ?_
    refine XO.nil ?_
    refine XE.next ?_
    refine XC.keep [(0, _), (3, _), (4, _), (5, _), (35, _)] (Sub.cons rfl (Sub.cons rfl (Sub.cons rfl (Sub.cons rfl (Sub.cons rfl (Sub.nil _)))))) ?_
    refine XC.condFP rfl (by simp; omega) ?_
    refine XC.exit ?_
    refine XE.thenExit ?_
    refine XE.thenExit ?_
    refine XE.blockExit ?_
    refine XE.next ?_
    refine XC.keep [(3, _), (4, _)] (Sub.cons rfl (Sub.cons rfl (Sub.nil _))) ?_
    refine XC.seq ?_
    refine XC.seq ?_
    refine XC.region ?_
    refine XO.v (V.assign rfl) rfl ?_
    refine XO.nil ?_
    refine XE.next ?_
    refine XC.keep [(3, _), (4, _), (18, _)] (Sub.cons rfl (Sub.cons rfl (Sub.cons rfl (Sub.nil _)))) ?_
    refine XC.block ?_
    refine XC.loop (σ := BB × Int) (fun w => (64 - w.2).toNat) (fun w => w.1.Full ∧ (0 ≤ w.2 ∧ w.2 ≤ 64) ∧ (∀ j, w.2 ≤ j → j < 64 → w.1.tk j = x.1.tk j) ∧ (∀ j, 0 ≤ j → j < w.2 → w.1.tk j = false)) (fun w => [(18, .int .i64 w.2), (3, ptr bs 0 0), (4, ptr bt 0 0)]) (fun w => XM W (foot [.ro 0 0 64 tab64]) [.cells bs 0 71 (encP w.1.pool), .cells bt 0 64 (encI x.1.usedOf 64), .ro 0 0 64 tab64]) ((x.1, 0)) ?_ (Sub.cons rfl (Sub.cons rfl (Sub.cons rfl (Sub.nil _)))) (fun _ hw => XM.pick (.cons .here (.cons .here (.cons .here .nil))) hw) ?_
    · skip
      exact ⟨hx, by simp, fun _ _ _ => rfl, fun j h0 h1 => by simp at h1; omega⟩
    intro w hw
    obtain ⟨hw, hwr, hw2, hw3⟩ := hw
    refine XC.seq ?_
    refine XC.seq ?_
    refine XC.region ?_
    refine XO.v (V.move rfl) rfl ?_
    refine XO.v (V.cmp rfl rfl rfl) rfl ?_
    refine XO.nil ?_
    refine XE.next ?_
    refine XC.keep [(3, _), (4, _), (18, _), (189, _)] (Sub.cons rfl (Sub.cons rfl (Sub.cons rfl (Sub.cons rfl (Sub.nil _))))) ?_
    refine XC.condP rfl (fun h2 => ?_) (fun h2 => ?_)
    · skip
      refine XC.skip ?_
      refine XE.next ?_
      refine XC.keep [(3, _), (4, _), (18, _)] (Sub.cons rfl (Sub.cons rfl (Sub.cons rfl (Sub.nil _)))) ?_
      refine XC.seq ?_
      refine XC.block ?_
      refine XC.seq ?_
      refine XC.region ?_
      refine XO.v (V.move rfl) rfl ?_
      refine XO.v (V.indexArr rfl rfl ar_44 (by omega)) rfl ?_
      refine XO.v (V.load rfl (inXM (.there .here)) (encI.ld _ _ _ (by omega)) sc_3) rfl ?_
      refine XO.v (V.cmp rfl rfl rfl) rfl ?_
      refine XO.v (V.move rfl) rfl ?_
      refine XO.splitP (d := 196) rfl (fun h3 => ?_) (fun h3 => ?_)
      · skip
        have ht : x.1.tk w.2 = true := ((hx.inv.used_zero w.2).2 (by omega)).1
        have hw4 : w.1.tk w.2 = true := by rw [hw2 w.2 (by omega) (by omega)]; exact ht
        have his : w.1.is w.2 = 0 := BB.is_ok (by omega) hw4
        have hgw := (hw.inv.give_win (a := w.2) (by rw [BB.give_ok his])).2.2.2
        refine XO.guardRun rfl rfl rfl ?_
        refine XO.v (V.move rfl) rfl ?_
        refine XO.guardRun rfl rfl rfl ?_
        refine XO.v (V.move rfl) rfl ?_
        refine XO.guardRun rfl rfl rfl ?_
        refine XO.call rfl (p_Give _ _ _ hw.inv _) (.cons .here .nil) cl_12 rfl ?_
        rintro _ _ ⟨rfl, rfl⟩
        refine XO.guardRun rfl rfl rfl ?_
        refine XO.v (V.errNil rfl Tryd.underlying33 rfl) rfl ?_
        refine XO.v (V.pick rfl rfl rfl rfl) rfl ?_
        refine XO.nil ?_
        refine XE.next ?_
        refine XC.keep [(3, _), (4, _), (18, _), (201, _)] (Sub.cons rfl (Sub.cons rfl (Sub.cons rfl (Sub.cons rfl (Sub.nil _))))) ?_
        refine XC.condFP rfl (by rw [BB.give_ok his]; simp) ?_
        refine XC.skip ?_
        refine XE.blockNormal ?_
        refine XE.next ?_
        refine XC.keep [(3, _), (4, _), (18, _)] (Sub.cons rfl (Sub.cons rfl (Sub.cons rfl (Sub.nil _)))) ?_
        refine XC.region ?_
        refine XO.v (V.move rfl) rfl ?_
        refine XO.v (V.add rfl rfl _ (IntWalk.i64_in _ (by omega))) rfl ?_
        refine XO.v (V.assign rfl) rfl ?_
        refine XO.nil ?_
        refine XE.again (((w.1.give w.2).2, w.2 + 1)) ?_ ?_ (Sub.cons rfl (Sub.cons rfl (Sub.cons rfl (Sub.nil _)))) (fun _ hw => XM.pick (.cons .here (.cons .here (.cons .here .nil))) hw)
        · skip
          (simp; omega)
        · skip
          refine ⟨hw.give _, by simp; omega, fun j j0 j1 => ?_, fun j j0 j1 => ?_⟩
          · show (w.1.give w.2).2.tk j = _
            simp at j0
            rw [hgw, fset_ne _ _ (by omega)]; exact hw2 j (by omega) j1
          · show (w.1.give w.2).2.tk j = _
            simp at j1
            rw [hgw]
            by_cases c : j = w.2
            · rw [c, fset_eq]
            · rw [fset_ne _ _ c]; exact hw3 j j0 (by omega)
      · skip
        have hun := hx.inv.used_nn w.2
        have ht : x.1.tk w.2 = false := (hx.inv.used_zero w.2).1 (by omega)
        refine XO.guardSkip rfl rfl rfl rfl rfl ?_
        refine XO.guardSkip rfl rfl rfl rfl rfl ?_
        refine XO.guardSkip rfl rfl rfl rfl rfl ?_
        refine XO.guardSkip rfl rfl rfl rfl rfl ?_
        refine XO.v (V.pick rfl rfl rfl rfl) rfl ?_
        refine XO.nil ?_
        refine XE.next ?_
        refine XC.keep [(3, _), (4, _), (18, _), (201, _)] (Sub.cons rfl (Sub.cons rfl (Sub.cons rfl (Sub.cons rfl (Sub.nil _))))) ?_
        refine XC.condF rfl rfl ?_
        refine XC.skip ?_
        refine XE.blockNormal ?_
        refine XE.next ?_
        refine XC.keep [(3, _), (4, _), (18, _)] (Sub.cons rfl (Sub.cons rfl (Sub.cons rfl (Sub.nil _)))) ?_
        refine XC.region ?_
        refine XO.v (V.move rfl) rfl ?_
        refine XO.v (V.add rfl rfl _ (IntWalk.i64_in _ (by omega))) rfl ?_
        refine XO.v (V.assign rfl) rfl ?_
        refine XO.nil ?_
        refine XE.again ((w.1, w.2 + 1)) ?_ ?_ (Sub.cons rfl (Sub.cons rfl (Sub.cons rfl (Sub.nil _)))) (fun _ hw => XM.pick (.cons .here (.cons .here (.cons .here .nil))) hw)
        · skip
          (simp; omega)
        · skip
          refine ⟨hw, by simp; omega, fun j j0 j1 => ?_, fun j j0 j1 => ?_⟩
          · simp at j0
            exact hw2 j (by omega) j1
          · simp at j1
            by_cases c : j = w.2
            · rw [c]; show w.1.tk w.2 = false; rw [hw2 w.2 (by omega) (by omega)]; exact ht
            · exact hw3 j j0 (by omega)
    · skip
      refine XC.exit ?_
      refine XE.thenExit ?_
      refine XE.thenExit ?_
      refine XE.blockExit ?_
      refine XE.next ?_
      refine XC.keep [(3, _)] (Sub.cons rfl (Sub.nil _)) ?_
      refine XC.seq ?_
      refine XC.region ?_
      have hall : ∀ i, w.1.tk i = false := fun i => by
        cases q : w.1.tk i with
        | false => rfl
        | true =>
          have h1 := hw.inv.in_rng (hw.inv.tk i q)
          have h2 := hw3 i h1.1 (by omega)
          rw [q] at h2; exact h2
      have hw9 : w.1 = BB.init := hw.single hall
      have hlen : (w.1.frees 6).1.length = 1 := by rw [hw9]; decide +kernel
      refine XO.v (V.move rfl) rfl ?_
      refine XO.callR 1 rfl (p_Free _ _ _ hw.inv _) (.cons .here (.cons (.there .here) .nil)) rfl cl_16 rfl ?_
      rintro _ _ ⟨pl, cl, rfl, rfl⟩
      refine XO.v (V.move rfl) rfl ?_
      refine XO.v (V.extract rfl rfl) rfl ?_
      refine XO.v (V.extract rfl rfl) rfl ?_
      refine XO.v (V.assign rfl) rfl ?_
      refine XO.v (V.assign rfl) rfl ?_
      refine XO.nil ?_
      refine XE.next ?_
      refine XC.keep [(3, _), (19, _), (20, _)] (Sub.cons rfl (Sub.cons rfl (Sub.cons rfl (Sub.nil _)))) ?_
      refine XC.seq ?_
      refine XC.openRow .here (by omega) ?_
      intro gB h4
      subst h4
      refine XC.region ?_
      refine XO.v (V.move rfl) rfl ?_
      refine XO.v (V.errNil rfl Tryd.underlying33 rfl) rfl ?_
      refine XO.v (V.move rfl) rfl ?_
      refine XO.splitT (d := 209) rfl (by rw [hw9]; decide +kernel) ?_
      refine XO.guardRun rfl rfl rfl ?_
      refine XO.v (V.move rfl) rfl ?_
      refine XO.guardRun rfl rfl rfl ?_
      refine XO.v (V.lenSl rfl Tryd.underlying45) rfl ?_
      refine XO.guardRun rfl rfl rfl ?_
      refine XO.v (V.cmp rfl rfl rfl) rfl ?_
      refine XO.v (V.pick rfl rfl rfl rfl) rfl ?_
      refine XO.v (V.move rfl) rfl ?_
      refine XO.splitT (d := 214) rfl (by omega) ?_
      refine XO.guardRun rfl rfl rfl ?_
      refine XO.v (V.move rfl) rfl ?_
      refine XO.guardRun rfl rfl rfl ?_
      refine XO.v (V.indexSl rfl rfl sl_45 (by omega)) rfl ?_
      refine XO.guardRun rfl rfl rfl ?_
      refine XO.v (V.loadRow rfl (inXM .here) (ints_at (by omega)) sc_3) rfl ?_
      refine XO.guardRun rfl rfl rfl ?_
      refine XO.v (V.cmp rfl rfl rfl) rfl ?_
      refine XO.v (V.pick rfl rfl rfl rfl) rfl ?_
      refine XO.v (V.move rfl) rfl ?_
      refine XO.splitT (d := 220) rfl (by rw [hw9]; decide +kernel) ?_
      refine XO.guardRun rfl rfl rfl ?_
      refine XO.v (V.move rfl) rfl ?_
      refine XO.guardRun rfl rfl rfl ?_
      refine XO.call rfl (p_Left _ _ _ hw.inv) (.cons (.there .here) .nil) cl_15 rfl ?_
      rintro _ _ ⟨rfl, rfl⟩
      refine XO.guardRun rfl rfl rfl ?_
      refine XO.v (V.cmp rfl rfl rfl) rfl ?_
      refine XO.v (V.pick rfl rfl rfl rfl) rfl ?_
      refine XO.v (V.assign rfl) rfl ?_
      refine XO.nil ?_
      refine XE.next ?_
      refine XC.keep [(2, _)] (Sub.cons rfl (Sub.nil _)) ?_
      refine XC.ret ?_
      refine XE.ret1 rfl rfl (post_of .nil rfl ?_)
      first | exact ⟨rfl, rfl⟩ | exact ⟨congrArg Value.bool (by rw [hw9]; decide +kernel), rfl⟩
theorem top_nil : Spec Tryd.prog 4 [.slice none 0 0] [.ro 0 0 64 tab64] (fun v H1 => v = .bool true ∧ H1 = []) := top_nil' none 0

end Go.X
