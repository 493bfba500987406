import Derived.Test.YtfpdkhncfkefhaaFL2
namespace Go.X
open Go Go.Proofs

set_option maxRecDepth 10000 in
set_option maxHeartbeats 4000000 in
theorem law_nil' (p : Option Addr) (cap : Nat) : Spec Try.prog 3 [.slice p 0 cap]
    []
    (fun v H1 => v = .bool true ∧ H1 = []) := by
  refine Spec.intro Try.func3 rfl rfl ?_
  intro W
  refine XC.seq ?_
  refine XC.region ?_
  refine XO.v (V.assign rfl) rfl ?_
  refine XO.nil ?_
  refine XE.next ?_
  refine XC.keep [(0, _)] (Sub.cons rfl (Sub.nil _)) ?_
  refine XC.seq ?_
  refine XC.region ?_
  refine XO.call rfl (runs_any) .nil cl_7 rfl ?_
  rintro _ _ ⟨rfl, rfl⟩
  refine XO.v (V.assign rfl) rfl ?_
  refine XO.nil ?_
  refine XE.next ?_
  refine XC.keep [(0, _), (3, _)] (Sub.cons rfl (Sub.cons rfl (Sub.nil _))) ?_
  refine XC.seq ?_
  refine XC.seq ?_
  refine XC.region ?_
  refine XO.v (V.move rfl) rfl ?_
  refine XO.v (V.not rfl) rfl ?_
  refine XO.v (V.move rfl) rfl ?_
  refine XO.guardRun rfl rfl rfl ?_
  refine XO.v (V.move rfl) rfl ?_
  refine XO.guardRun rfl rfl rfl ?_
  refine XO.call rfl (light_any _ _ _ _) .nil cl_8 rfl ?_
  rintro _ _ ⟨rfl, rfl⟩
  refine XO.guardRun rfl rfl rfl ?_
  refine XO.v (V.notP rfl) rfl ?_
  refine XO.v (V.pick rfl rfl rfl rfl) rfl ?_
  refine XO.nil ?_
  refine XE.next ?_
  refine XC.keep [(0, _), (3, _), (19, _)] (Sub.cons rfl (Sub.cons rfl (Sub.cons rfl (Sub.nil _)))) ?_
  refine XC.condP rfl (fun h1 => ?_) (fun h1 => ?_)
  · skip
    refine XC.seq ?_
    refine XC.region ?_
    refine XO.v (V.move rfl) rfl ?_
    refine XO.v (V.assign rfl) rfl ?_
    refine XO.nil ?_
    refine XE.next ?_
    refine XC.keep [(2, _)] (Sub.cons rfl (Sub.nil _)) ?_
    refine XC.ret ?_
    refine XE.thenRet ?_
    refine XE.ret1 rfl rfl (post_of .nil rfl ?_)
    exact ⟨rfl, rfl⟩
  · skip
    refine XC.skip ?_
    refine XE.next ?_
    refine XC.keep [(0, _)] (Sub.cons rfl (Sub.nil _)) ?_
    refine XC.seq ?_
    refine XC.region ?_
    refine XO.call rfl (f_New) .nil cl_9 rfl ?_
    rintro _ _ ⟨bs, rfl, t0, t0l, t0R, rfl⟩
    refine XO.v (V.assign rfl) rfl ?_
    refine XO.nil ?_
    refine XE.next ?_
    refine XC.keep [(0, _), (4, _)] (Sub.cons rfl (Sub.cons rfl (Sub.nil _))) ?_
    refine XC.seq ?_
    refine XC.region ?_
    refine XO.call rfl (r_New) .nil cl_10 rfl ?_
    rintro _ _ ⟨bm, rfl, rfl⟩
    refine XO.v (V.assign rfl) rfl ?_
    refine XO.nil ?_
    refine XE.next ?_
    refine XC.keep [(0, _), (4, _), (5, _)] (Sub.cons rfl (Sub.cons rfl (Sub.cons rfl (Sub.nil _)))) ?_
    refine XC.seq ?_
    refine XC.seq ?_
    refine XC.region ?_
    refine XO.v (V.assign rfl) rfl ?_
    refine XO.nil ?_
    refine XE.next ?_
    refine XC.keep [(0, _), (4, _), (5, _), (6, _)] (Sub.cons rfl (Sub.cons rfl (Sub.cons rfl (Sub.cons rfl (Sub.nil _))))) ?_
    refine XC.block ?_
    refine XC.loop (σ := SC × Int) (fun x => 0) (fun x => x.1.Rep ∧ (∃ d, x.1.toSF.Ok d x.2.toNat (50 * x.2)) ∧ 0 ≤ x.2 ∧ x.2 ≤ (0 : Nat)) (fun x => [(6, .int .i64 x.2), (0, .slice p 0 cap), (4, ptr bs 0 0), (5, ptr bm 0 0)]) (fun x => XM W (foot []) [.cells bs 0 2281 (encS x.1), .fam fam30 (SC.rows 86 x.1), .cells bm 0 361 (encR (SC.toSF x.1))]) ((t0, 0)) ?_ (Sub.cons rfl (Sub.cons rfl (Sub.cons rfl (Sub.cons rfl (Sub.nil _))))) (fun _ hw => by rw [show (t0, (0 : Int)).1.toSF = _ from t0l]; exact XM.pick (.cons (.there .here) (.cons (.there .here) (.cons .here .nil))) hw) ?_
    · skip
      exact ⟨t0R, ⟨_, by rw [show (t0, (0 : Int)).1.toSF = _ from t0l]; exact SF.init_ok⟩, by simp, by simp⟩
    intro x hx
    obtain ⟨hR, ⟨d, hO⟩, hx0, hx1⟩ := hx
    refine XC.seq ?_
    refine XC.seq ?_
    refine XC.region ?_
    refine XO.v (V.move rfl) rfl ?_
    refine XO.v (V.move rfl) rfl ?_
    refine XO.v (V.lenSl rfl Try.underlying22) rfl ?_
    refine XO.v (V.cmp rfl rfl rfl) rfl ?_
    refine XO.nil ?_
    refine XE.next ?_
    refine XC.keep [(0, _), (4, _), (5, _), (6, _), (26, _)] (Sub.cons rfl (Sub.cons rfl (Sub.cons rfl (Sub.cons rfl (Sub.cons rfl (Sub.nil _)))))) ?_
    refine XC.condFP rfl (by simp; omega) ?_
    refine XC.exit ?_
    refine XE.thenExit ?_
    refine XE.thenExit ?_
    refine XE.blockExit ?_
    refine XE.next ?_
    refine XC.keep [(4, _), (5, _)] (Sub.cons rfl (Sub.cons rfl (Sub.nil _))) ?_
    refine XC.seq ?_
    refine XC.seq ?_
    refine XC.region ?_
    refine XO.v (V.assign rfl) rfl ?_
    refine XO.nil ?_
    refine XE.next ?_
    refine XC.keep [(4, _), (5, _), (8, _)] (Sub.cons rfl (Sub.cons rfl (Sub.cons rfl (Sub.nil _)))) ?_
    refine XC.block ?_
    refine XC.loop (σ := Int) (fun n => (21 - n).toNat) (fun n => -1 ≤ n ∧ n ≤ 21) (fun n => [(8, .int .i64 n), (4, ptr bs 0 0), (5, ptr bm 0 0)]) (fun n => XM W (foot []) [.cells bs 0 2281 (encS x.1), .fam fam30 (SC.rows 86 x.1), .cells bm 0 361 (encR (SC.toSF x.1))]) (-1) ?_ (Sub.cons rfl (Sub.cons rfl (Sub.cons rfl (Sub.nil _)))) (fun _ hw => XM.pick (.cons .here (.cons .here (.cons .here .nil))) hw) ?_
    · skip
      omega
    intro n hn
    have hk0 := fun q => SF.tkE_0 (s := x.1.toSF) (n := n) q
    have hk1 : x.1.toSF.tkE n = 0 → 0 ≤ n ∧ n < 20 := fun q => ⟨(hk0 q).1, (hk0 q).2.1⟩
    have hk2 := x.1.toSF.tkE_nn n
    refine XC.seq ?_
    refine XC.seq ?_
    refine XC.region ?_
    refine XO.v (V.move rfl) rfl ?_
    refine XO.v (V.cmp rfl rfl rfl) rfl ?_
    refine XO.nil ?_
    refine XE.next ?_
    refine XC.keep [(4, _), (5, _), (8, _), (48, _)] (Sub.cons rfl (Sub.cons rfl (Sub.cons rfl (Sub.cons rfl (Sub.nil _))))) ?_
    refine XC.condP rfl (fun h2 => ?_) (fun h2 => ?_)
    · skip
      refine XC.skip ?_
      refine XE.next ?_
      refine XC.keep [(4, _), (5, _), (8, _)] (Sub.cons rfl (Sub.cons rfl (Sub.cons rfl (Sub.nil _)))) ?_
      refine XC.seq ?_
      refine XC.block ?_
      refine XC.seq ?_
      refine XC.region ?_
      refine XO.v (V.move rfl) rfl ?_
      refine XO.v (V.move rfl) rfl ?_
      refine XO.call rfl (f_ran _ _ _ _) (.cons .here .nil) cl_13 rfl ?_
      rintro _ _ ⟨rfl, rfl⟩
      refine XO.v (V.move rfl) rfl ?_
      refine XO.v (V.extract rfl rfl) rfl ?_
      refine XO.v (V.extract rfl rfl) rfl ?_
      refine XO.v (V.assign rfl) rfl ?_
      refine XO.v (V.assign rfl) rfl ?_
      refine XO.nil ?_
      refine XE.next ?_
      refine XC.keep [(4, _), (5, _), (8, _), (9, _), (10, _)] (Sub.cons rfl (Sub.cons rfl (Sub.cons rfl (Sub.cons rfl (Sub.cons rfl (Sub.nil _)))))) ?_
      refine XC.seq ?_
      refine XC.region ?_
      refine XO.v (V.move rfl) rfl ?_
      refine XO.v (V.move rfl) rfl ?_
      refine XO.call rfl (r_Task _ _ _ _) (.cons (.there (.there .here)) .nil) cl_14 rfl ?_
      rintro _ _ ⟨rfl, rfl⟩
      refine XO.v (V.assign rfl) rfl ?_
      refine XO.nil ?_
      refine XE.next ?_
      refine XC.keep [(4, _), (5, _), (8, _), (9, _), (10, _), (11, _)] (Sub.cons rfl (Sub.cons rfl (Sub.cons rfl (Sub.cons rfl (Sub.cons rfl (Sub.cons rfl (Sub.nil _))))))) ?_
      refine XC.seq ?_
      refine XC.region ?_
      refine XO.v (V.move rfl) rfl ?_
      refine XO.v (V.move rfl) rfl ?_
      refine XO.call rfl (same_any _ _ (SF.tkE_nn _ _)) .nil cl_15 rfl ?_
      rintro _ _ ⟨rfl, rfl⟩
      refine XO.v (V.notP rfl) rfl ?_
      refine XO.v (V.move rfl) rfl ?_
      refine XO.splitF (d := 64) rfl (by simp) ?_
      refine XO.guardRun rfl rfl rfl ?_
      refine XO.v (V.move rfl) rfl ?_
      refine XO.guardRun rfl rfl rfl ?_
      refine XO.v (V.cmp rfl rfl rfl) rfl ?_
      refine XO.guardRun rfl rfl rfl ?_
      refine XO.v (V.move rfl) rfl ?_
      refine XO.splitP (d := 67) rfl (fun h4 => ?_) (fun h4 => ?_)
      · skip
        refine XO.guardRun rfl rfl rfl ?_
        refine XO.v (V.move rfl) rfl ?_
        refine XO.guardRun rfl rfl rfl ?_
        refine XO.v (V.cmp rfl rfl rfl) rfl ?_
        refine XO.guardRun rfl rfl rfl ?_
        refine XO.v (V.pick rfl rfl rfl rfl) rfl ?_
        refine XO.v (V.pick rfl rfl rfl rfl) rfl ?_
        refine XO.v (V.move rfl) rfl ?_
        refine XO.splitF (d := 72) rfl (by rw [if_neg (by omega)]; simp) ?_
        refine XO.guardRun rfl rfl rfl ?_
        refine XO.v (V.move rfl) rfl ?_
        refine XO.guardRun rfl rfl rfl ?_
        refine XO.v (V.cmp rfl rfl rfl) rfl ?_
        refine XO.guardRun rfl rfl rfl ?_
        refine XO.v (V.move rfl) rfl ?_
        refine XO.splitF (d := 75) rfl (by omega) ?_
        refine XO.guardSkip rfl rfl rfl rfl rfl ?_
        refine XO.guardSkip rfl rfl rfl rfl rfl ?_
        refine XO.guardSkip rfl rfl rfl rfl rfl ?_
        refine XO.guardSkip rfl rfl rfl rfl rfl ?_
        refine XO.guardSkip rfl rfl rfl rfl rfl ?_
        refine XO.guardSkip rfl rfl rfl rfl rfl ?_
        refine XO.guardSkip rfl rfl rfl rfl rfl ?_
        refine XO.guardSkip rfl rfl rfl rfl rfl ?_
        refine XO.guardSkip rfl rfl rfl rfl rfl ?_
        refine XO.guardSkip rfl rfl rfl rfl rfl ?_
        refine XO.guardRun rfl rfl rfl ?_
        refine XO.v (V.pick rfl rfl rfl rfl) rfl ?_
        refine XO.v (V.pick rfl rfl rfl rfl) rfl ?_
        refine XO.nil ?_
        refine XE.next ?_
        refine XC.keep [(4, _), (5, _), (8, _), (87, _)] (Sub.cons rfl (Sub.cons rfl (Sub.cons rfl (Sub.cons rfl (Sub.nil _))))) ?_
        refine XC.condF rfl rfl ?_
        refine XC.skip ?_
        refine XE.blockNormal ?_
        refine XE.next ?_
        refine XC.keep [(4, _), (5, _), (8, _)] (Sub.cons rfl (Sub.cons rfl (Sub.cons rfl (Sub.nil _)))) ?_
        refine XC.region ?_
        refine XO.v (V.move rfl) rfl ?_
        refine XO.v (V.add rfl rfl _ (IntWalk.i64_in _ (by omega))) rfl ?_
        refine XO.v (V.assign rfl) rfl ?_
        refine XO.nil ?_
        refine XE.again (n + 1) ?_ ?_ (Sub.cons rfl (Sub.cons rfl (Sub.cons rfl (Sub.nil _)))) (fun _ hw => XM.pick (.cons (.there .here) (.cons (.there .here) (.cons .here .nil))) hw)
        · skip
          (first | omega | (simp; done) | (simp; omega))
        · skip
          (first | omega | (simp; done) | (simp; omega))
      · skip
        refine XO.guardSkip rfl rfl rfl rfl rfl ?_
        refine XO.guardSkip rfl rfl rfl rfl rfl ?_
        refine XO.guardRun rfl rfl rfl ?_
        refine XO.v (V.pick rfl rfl rfl rfl) rfl ?_
        refine XO.v (V.pick rfl rfl rfl rfl) rfl ?_
        refine XO.v (V.move rfl) rfl ?_
        refine XO.guardRun rfl rfl rfl ?_
        refine XO.v (V.move rfl) rfl ?_
        refine XO.guardRun rfl rfl rfl ?_
        refine XO.v (V.cmp rfl rfl rfl) rfl ?_
        refine XO.guardRun rfl rfl rfl ?_
        refine XO.v (V.move rfl) rfl ?_
        refine XO.splitT (d := 75) rfl (by omega) ?_
        refine XO.guardRun rfl rfl rfl ?_
        refine XO.v (V.move rfl) rfl ?_
        refine XO.guardRun rfl rfl rfl ?_
        refine XO.v (V.move rfl) rfl ?_
        refine XO.guardRun rfl rfl rfl ?_
        refine XO.v (V.move rfl) rfl ?_
        refine XO.guardRun rfl rfl rfl ?_
        refine XO.v (V.add rfl rfl _ (IntWalk.i64_in _ (by omega))) rfl ?_
        refine XO.guardRun rfl rfl rfl ?_
        refine XO.v (V.nilCheckP rfl) rfl ?_
        refine XO.guardRun rfl rfl rfl ?_
        refine XO.v (V.fieldAddr rfl fo_38_0) rfl ?_
        refine XO.guardRun rfl rfl rfl ?_
        refine XO.v (V.indexArr rfl rfl ar_36 (by omega)) rfl ?_
        refine XO.guardRun rfl rfl rfl ?_
        refine XO.v (V.fieldAddr rfl fo_35_6) rfl ?_
        refine XO.guardRun rfl rfl rfl ?_
        refine XO.v (V.load rfl (inXM .here) (encR.ld_U_Ran _ _ (by omega)) sc_3) rfl ?_
        refine XO.guardRun rfl rfl rfl ?_
        refine XO.v (V.cmp rfl rfl rfl) rfl ?_
        refine XO.guardRun rfl rfl rfl ?_
        refine XO.v (V.pick rfl rfl rfl rfl) rfl ?_
        refine XO.v (V.pick rfl rfl rfl rfl) rfl ?_
        refine XO.nil ?_
        refine XE.next ?_
        refine XC.keep [(4, _), (5, _), (8, _), (87, _)] (Sub.cons rfl (Sub.cons rfl (Sub.cons rfl (Sub.cons rfl (Sub.nil _))))) ?_
        refine XC.condFP rfl (by rw [if_pos (by omega)]; exact fun q => q rfl) ?_
        refine XC.skip ?_
        refine XE.blockNormal ?_
        refine XE.next ?_
        refine XC.keep [(4, _), (5, _), (8, _)] (Sub.cons rfl (Sub.cons rfl (Sub.cons rfl (Sub.nil _)))) ?_
        refine XC.region ?_
        refine XO.v (V.move rfl) rfl ?_
        refine XO.v (V.add rfl rfl _ (IntWalk.i64_in _ (by omega))) rfl ?_
        refine XO.v (V.assign rfl) rfl ?_
        refine XO.nil ?_
        refine XE.again (n + 1) ?_ ?_ (Sub.cons rfl (Sub.cons rfl (Sub.cons rfl (Sub.nil _)))) (fun _ hw => XM.pick (.cons (.there .here) (.cons (.there .here) (.cons .here .nil))) hw)
        · skip
          (first | omega | (simp; done) | (simp; omega))
        · skip
          (first | omega | (simp; done) | (simp; omega))
    · skip
      refine XC.exit ?_
      refine XE.thenExit ?_
      refine XE.thenExit ?_
      refine XE.blockExit ?_
      refine XE.next ?_
      refine XC.keep [] (Sub.nil _) ?_
      refine XC.seq ?_
      refine XC.region ?_
      refine XO.v (V.assign rfl) rfl ?_
      refine XO.nil ?_
      refine XE.next ?_
      refine XC.keep [(2, _)] (Sub.cons rfl (Sub.nil _)) ?_
      refine XC.ret ?_
      refine XE.ret1 rfl rfl (post_of .nil rfl ?_)
      exact ⟨rfl, rfl⟩
theorem law_nil : Spec Try.prog 3 [.slice none 0 0] [] (fun v H1 => v = .bool true ∧ H1 = []) := law_nil' none 0

end Go.X
