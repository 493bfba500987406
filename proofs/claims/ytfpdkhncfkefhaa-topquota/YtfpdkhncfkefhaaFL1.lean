import Derived.Test.YtfpdkhncfkefhaaLWf
namespace Go.X
open Go Go.Proofs
theorem cl_12 : callable Try.prog 12 = true := by kernel_rfl
theorem cl_13 : callable Try.prog 13 = true := by kernel_rfl
theorem cl_15 : callable Try.prog 15 = true := by kernel_rfl
theorem cl_16 : callable Try.prog 16 = true := by kernel_rfl
theorem cl_17 : callable Try.prog 17 = true := by kernel_rfl
theorem cl_18 : callable Try.prog 18 = true := by kernel_rfl
theorem cl_19 : callable Try.prog 19 = true := by kernel_rfl
theorem cl_20 : callable Try.prog 20 = true := by kernel_rfl
theorem cl_21 : callable Try.prog 21 = true := by kernel_rfl
theorem cl_22 : callable Try.prog 22 = true := by kernel_rfl
theorem cl_23 : callable Try.prog 23 = true := by kernel_rfl
theorem cl_24 : callable Try.prog 24 = true := by kernel_rfl
theorem cl_25 : callable Try.prog 25 = true := by kernel_rfl
theorem cl_26 : callable Try.prog 26 = true := by kernel_rfl
theorem cl_27 : callable Try.prog 27 = true := by kernel_rfl
theorem cl_28 : callable Try.prog 28 = true := by kernel_rfl
theorem cl_29 : callable Try.prog 29 = true := by kernel_rfl
theorem cl_31 : callable Try.prog 31 = true := by kernel_rfl
theorem cl_32 : callable Try.prog 32 = true := by kernel_rfl
theorem cl_33 : callable Try.prog 33 = true := by kernel_rfl
theorem cl_9 : callable Try.prog 9 = true := by kernel_rfl
theorem fo_32_0 : fieldOff Try.prog 32 0 = some 0 := by kernel_rfl
theorem fo_32_1 : fieldOff Try.prog 32 1 = some 1 := by kernel_rfl
theorem fo_32_2 : fieldOff Try.prog 32 2 = some 2 := by kernel_rfl
theorem fo_32_3 : fieldOff Try.prog 32 3 = some 3 := by kernel_rfl
theorem fo_32_5 : fieldOff Try.prog 32 5 = some 5 := by kernel_rfl
theorem sc_9 : scal Try.prog 9 = true := by kernel_rfl
set_option maxRecDepth 10000 in
set_option maxHeartbeats 1000000 in
theorem runs_any  : Spec Try.prog 7 []
    []
    (fun v H1 => v = .bool true ∧ H1 = []) := by
  refine Spec.intro Try.func7 rfl rfl ?_
  intro W
  refine XC.seq ?_
  refine XC.region ?_
  refine XO.v (V.assign rfl) rfl ?_
  refine XO.nil ?_
  refine XE.next ?_
  refine XC.keep [] (Sub.nil _) ?_
  refine XC.seq ?_
  refine XC.region ?_
  refine XO.call rfl (f_New) .nil cl_9 rfl ?_
  rintro _ _ ⟨bs, rfl, t0, t0l, t0R, rfl⟩
  refine XO.v (V.assign rfl) rfl ?_
  refine XO.nil ?_
  refine XE.next ?_
  refine XC.keep [(1, _)] (Sub.cons rfl (Sub.nil _)) ?_
  refine XC.seq ?_
  refine XC.seq ?_
  refine XC.region ?_
  have hO0 : t0.toSF.Ok (fun _ => 0) 0 0 := by rw [t0l]; exact SF.init_ok
  refine XO.v (V.move rfl) rfl ?_
  refine XO.v (V.ptrNilP rfl Try.underlying25 rfl) rfl ?_
  refine XO.v (V.move rfl) rfl ?_
  refine XO.guardRun rfl rfl rfl ?_
  refine XO.v (V.move rfl) rfl ?_
  refine XO.guardRun rfl rfl rfl ?_
  refine XO.call rfl (f_AddTask _ _ t0 (fun _ => 0) hO0.inv t0R _ _ _) (.cons .here (.cons .here .nil)) cl_16 rfl ?_
  rintro _ _ ⟨rfl, t1, t1l, t1R, rfl⟩
  have e1 : t1.toSF = R1 := by rw [t1l, t0l]; rfl
  have hA : t0.toSF.addTE 4 0 10 = 0 := by rw [t0l]; exact rA
  have hO1 : t1.toSF.Ok dR 1 0 := by rw [e1]; exact R1_ok
  have hB : t1.toSF.tkE 4 = 0 := by rw [e1]; exact rB
  refine XO.guardRun rfl rfl rfl ?_
  refine XO.v (V.errNil rfl Try.underlying40 rfl) rfl ?_
  refine XO.v (V.pick rfl rfl rfl rfl) rfl ?_
  refine XO.v (V.move rfl) rfl ?_
  refine XO.splitF (d := 13) rfl (by simp [hA]) ?_
  refine XO.guardRun rfl rfl rfl ?_
  refine XO.v (V.move rfl) rfl ?_
  refine XO.guardRun rfl rfl rfl ?_
  refine XO.call rfl (f_wake _ _ t1 dR hO1.inv t1R _ _) (.cons .here (.cons .here .nil)) cl_17 rfl ?_
  rintro _ _ ⟨rfl, t2, t2l, t2R, rfl⟩
  have e2 : t2.toSF = R2 := by rw [t2l, e1]; rfl
  have hO2 : t2.toSF.Ok dR 1 0 := by rw [e2]; exact R2_ok
  refine XO.guardRun rfl rfl rfl ?_
  refine XO.v (V.errNil rfl Try.underlying40 rfl) rfl ?_
  refine XO.v (V.pick rfl rfl rfl rfl) rfl ?_
  refine XO.nil ?_
  refine XE.next ?_
  refine XC.keep [(1, _), (17, _)] (Sub.cons rfl (Sub.cons rfl (Sub.nil _))) ?_
  refine XC.condFP rfl (by simp [hB]) ?_
  refine XC.skip ?_
  refine XE.next ?_
  refine XC.keep [(1, _)] (Sub.cons rfl (Sub.nil _)) ?_
  refine XC.seq ?_
  refine XC.region ?_
  refine XO.v (V.move rfl) rfl ?_
  refine XO.call rfl (f_Tick _ _ t2 dR hO2.inv t2R (fun n a b => by have := hO2.dep n a b; omega) (2000000000 * 0) ⟨by omega, by omega⟩ hO2.small ⟨hO2.now.1, by have := hO2.now; omega⟩ (hO2.tick0 (by omega)).set) (.cons .here (.cons .here .nil)) cl_18 rfl ?_
  rintro _ _ ⟨rfl, t3, t3l, t3R, rfl⟩
  have hC : (t2.toSF.tick dR).1 = 4 := by rw [e2]; exact rC
  have hD : t3.ran (10 + 4) = 1 := by show t3.toSF.ran (10 + 4) = 1; rw [t3l, e2]; exact rD
  have hE : t3.toSF.tkE 4 = 0 := by rw [t3l, e2]; exact rE
  have hF : t3.now = 1 := by show t3.toSF.now = 1; rw [t3l, e2]; exact rF
  refine XO.v (V.assign rfl) rfl ?_
  refine XO.nil ?_
  refine XE.next ?_
  refine XC.keep [(1, _), (2, _)] (Sub.cons rfl (Sub.cons rfl (Sub.nil _))) ?_
  refine XC.seq ?_
  refine XC.region ?_
  refine XO.v (V.move rfl) rfl ?_
  refine XO.call rfl (f_ran _ _ _ _) (.cons .here .nil) cl_13 rfl ?_
  rintro _ _ ⟨rfl, rfl⟩
  refine XO.v (V.move rfl) rfl ?_
  refine XO.v (V.extract rfl rfl) rfl ?_
  refine XO.v (V.extract rfl rfl) rfl ?_
  refine XO.v (V.assign rfl) rfl ?_
  refine XO.v (V.assign rfl) rfl ?_
  refine XO.nil ?_
  refine XE.next ?_
  refine XC.keep [(1, _), (2, _), (3, _), (4, _)] (Sub.cons rfl (Sub.cons rfl (Sub.cons rfl (Sub.cons rfl (Sub.nil _))))) ?_
  refine XC.seq ?_
  refine XC.region ?_
  refine XO.v (V.move rfl) rfl ?_
  refine XO.v (V.cmp rfl rfl rfl) rfl ?_
  refine XO.v (V.move rfl) rfl ?_
  refine XO.splitT (d := 27) rfl (hC) ?_
  refine XO.guardRun rfl rfl rfl ?_
  refine XO.v (V.move rfl) rfl ?_
  refine XO.guardRun rfl rfl rfl ?_
  refine XO.call rfl (same_any _ _ (SF.tkE_nn _ _)) .nil cl_15 rfl ?_
  rintro _ _ ⟨rfl, rfl⟩
  refine XO.v (V.pick rfl rfl rfl rfl) rfl ?_
  refine XO.v (V.move rfl) rfl ?_
  refine XO.splitT (d := 31) rfl (hE) ?_
  refine XO.guardRun rfl rfl rfl ?_
  refine XO.v (V.move rfl) rfl ?_
  refine XO.guardRun rfl rfl rfl ?_
  refine XO.v (V.cmp rfl rfl rfl) rfl ?_
  refine XO.v (V.pick rfl rfl rfl rfl) rfl ?_
  refine XO.v (V.move rfl) rfl ?_
  refine XO.splitT (d := 35) rfl (by rw [if_pos hE]; exact hD) ?_
  refine XO.guardRun rfl rfl rfl ?_
  refine XO.v (V.move rfl) rfl ?_
  refine XO.guardRun rfl rfl rfl ?_
  refine XO.call rfl (f_now _ _ _) (.cons .here .nil) cl_12 rfl ?_
  rintro _ _ ⟨rfl, rfl⟩
  refine XO.guardRun rfl rfl rfl ?_
  refine XO.v (V.cmp rfl rfl rfl) rfl ?_
  refine XO.v (V.pick rfl rfl rfl rfl) rfl ?_
  refine XO.v (V.assign rfl) rfl ?_
  refine XO.nil ?_
  refine XE.next ?_
  refine XC.keep [(0, _)] (Sub.cons rfl (Sub.nil _)) ?_
  refine XC.ret ?_
  refine XE.ret1 rfl rfl (post_of .nil rfl ?_)
  exact ⟨congrArg Value.bool (decide_eq_true hF), rfl⟩
set_option maxRecDepth 10000 in
set_option maxHeartbeats 4000000 in
theorem sched_any (bs bm : Nat) (s : SC) (a : ActV) (d : Int → Nat) (m : Nat) (T : Int) (hR : s.Rep) (hO : s.toSF.Ok d m T) (hm : m ≤ 900) (hT : 0 ≤ T ∧ T ≤ 10000) : Spec Try.prog 11 [ptr bs 0 0, ptr bm 0 0, .agg #[.string a.kind, .int .i64 a.a, .int .i64 a.b, .int .i64 a.c, .int .u64 a.key, .bool a.on, .string a.s, .string a.t]]
    [.cells bs 0 2281 (encS s), .fam fam30 (SC.rows 86 s), .cells bm 0 361 (encR (SC.toSF s))]
    (fun v H1 => v = .bool true ∧ ∃ (t : SC) (d2 : Int → Nat), t.Rep ∧ t.toSF.Ok d2 (m + 1) (T + 50) ∧ H1 = [.cells bs 0 2281 (encS t), .fam fam30 (SC.rows 86 t), .cells bm 0 361 (encR (SC.toSF t))]) := by
  refine Spec.intro Try.func11 rfl rfl ?_
  intro W
  refine XC.seq ?_
  refine XC.region ?_
  refine XO.box (m := 8) (C := encAct a) rfl rfl (act_box a) rfl ?_
  intro ba
  refine XO.v (V.assign rfl) rfl ?_
  refine XO.nil ?_
  refine XE.next ?_
  refine XC.keep [(0, _), (1, _), (5, _)] (Sub.cons rfl (Sub.cons rfl (Sub.cons rfl (Sub.nil _)))) ?_
  refine XC.seq ?_
  refine XC.seq ?_
  refine XC.region ?_
  refine XO.v (V.fieldAddr rfl fo_32_0) rfl ?_
  refine XO.v (V.load rfl (inXM .here) (encAct.ld_Kind _) sc_9) rfl ?_
  refine XO.nil ?_
  refine XE.next ?_
  refine XC.keep [(0, _), (1, _), (5, _), (11, _)] (Sub.cons rfl (Sub.cons rfl (Sub.cons rfl (Sub.cons rfl (Sub.nil _))))) ?_
  refine XC.block ?_
  refine XC.seq ?_
  refine XC.region ?_
  refine XO.v (V.strCmp rfl rfl rfl) rfl ?_
  refine XO.v (V.assign rfl) rfl ?_
  refine XO.nil ?_
  refine XE.next ?_
  refine XC.keep [(0, _), (1, _), (5, _), (11, _), (12, _)] (Sub.cons rfl (Sub.cons rfl (Sub.cons rfl (Sub.cons rfl (Sub.cons rfl (Sub.nil _)))))) ?_
  refine XC.condP rfl (fun h1 => ?_) (fun h1 => ?_)
  · skip
    refine XC.seq ?_
    refine XC.regionQ mixed (f := 18) (l := #[false, false, false, false, false, false, false, false, false, false, false, false, false, false, false, false, false, false]) rfl rfl XM.drawn' ?_
    refine XQ.pv (i := 0) (l' := #[true, false, false, false, false, false, false, false, false, false, false, false, false, false, false, false, false, false]) rfl (by kernel_rfl) rfl (V.move rfl) rfl rfl ?_
    refine XQ.pv (i := 1) (l' := #[true, true, false, false, false, false, false, false, false, false, false, false, false, false, false, false, false, false]) rfl (by kernel_rfl) rfl (V.fieldAddr rfl fo_32_1) rfl rfl ?_
    refine XQ.load (i := 2) (l' := #[true, true, true, false, false, false, false, false, false, false, false, false, false, false, false, false, false, false]) (.cells _ _ _ _) [7, 15, 16] rfl (by kernel_rfl) rfl .here (V.load rfl inEnt (encAct.ld_A _) sc_3) rfl (by kernel_rfl) rfl ?_
    refine XQ.pv (i := 3) (l' := #[true, true, true, true, false, false, false, false, false, false, false, false, false, false, false, false, false, false]) rfl (by kernel_rfl) rfl (V.fieldAddr rfl fo_32_2) rfl rfl ?_
    refine XQ.load (i := 4) (l' := #[true, true, true, true, true, false, false, false, false, false, false, false, false, false, false, false, false, false]) (.cells _ _ _ _) [7, 15, 16] rfl (by kernel_rfl) rfl .here (V.load rfl inEnt (encAct.ld_B _) sc_3) rfl (by kernel_rfl) rfl ?_
    refine XQ.pv (i := 5) (l' := #[true, true, true, true, true, true, false, false, false, false, false, false, false, false, false, false, false, false]) rfl (by kernel_rfl) rfl (V.fieldAddr rfl fo_32_3) rfl rfl ?_
    refine XQ.load (i := 6) (l' := #[true, true, true, true, true, true, true, false, false, false, false, false, false, false, false, false, false, false]) (.cells _ _ _ _) [7, 15, 16] rfl (by kernel_rfl) rfl .here (V.load rfl inEnt (encAct.ld_C _) sc_3) rfl (by kernel_rfl) rfl ?_
    refine XQ.pv (i := 8) (l' := #[true, true, true, true, true, true, true, false, true, false, false, false, false, false, false, false, false, false]) rfl (by kernel_rfl) rfl (V.move rfl) rfl rfl ?_
    refine XQ.pv (i := 9) (l' := #[true, true, true, true, true, true, true, false, true, true, false, false, false, false, false, false, false, false]) rfl (by kernel_rfl) rfl (V.fieldAddr rfl fo_32_1) rfl rfl ?_
    refine XQ.load (i := 10) (l' := #[true, true, true, true, true, true, true, false, true, true, true, false, false, false, false, false, false, false]) (.cells _ _ _ _) [15, 16] rfl (by kernel_rfl) rfl .here (V.load rfl inEnt (encAct.ld_A _) sc_3) rfl (by kernel_rfl) rfl ?_
    refine XQ.pv (i := 11) (l' := #[true, true, true, true, true, true, true, false, true, true, true, true, false, false, false, false, false, false]) rfl (by kernel_rfl) rfl (V.fieldAddr rfl fo_32_2) rfl rfl ?_
    refine XQ.load (i := 12) (l' := #[true, true, true, true, true, true, true, false, true, true, true, true, true, false, false, false, false, false]) (.cells _ _ _ _) [15, 16] rfl (by kernel_rfl) rfl .here (V.load rfl inEnt (encAct.ld_B _) sc_3) rfl (by kernel_rfl) rfl ?_
    refine XQ.pv (i := 13) (l' := #[true, true, true, true, true, true, true, false, true, true, true, true, true, true, false, false, false, false]) rfl (by kernel_rfl) rfl (V.fieldAddr rfl fo_32_3) rfl rfl ?_
    refine XQ.load (i := 14) (l' := #[true, true, true, true, true, true, true, false, true, true, true, true, true, true, true, false, false, false]) (.cells _ _ _ _) [15, 16] rfl (by kernel_rfl) rfl .here (V.load rfl inEnt (encAct.ld_C _) sc_3) rfl (by kernel_rfl) rfl ?_
    refine XQ.call (i := 7) (l' := #[true, true, true, true, true, true, true, true, true, true, true, true, true, true, true, false, false, false]) rfl (by kernel_rfl) rfl rfl (f_AddGroup _ _ s d hO.inv hR _ _ _) (.cons (.there .here) (.cons (.there .here) .nil)) cl_19 rfl (by rintro _ _ ⟨rfl, t, tl, tR, rfl⟩; all_goals (intro _ hw'; exact ⟨fun _ => inXM (.there (.there .here)) _ hw', fun _ => inXM (.there (.there .here)) _ hw', fun _ => inXM (.there (.there .here)) _ hw', fun hs => (hs 7 (by simp) rfl).elim, fun hs => (hs 7 (by simp) rfl).elim, fun hs => (hs 7 (by simp) rfl).elim, trivial⟩)) ?_
    rintro _ _ ⟨rfl, t, tl, tR, rfl⟩
    refine XQ.call (i := 15) (l' := #[true, true, true, true, true, true, true, true, true, true, true, true, true, true, true, true, false, false]) rfl (by kernel_rfl) rfl rfl (r_AddGroup _ _ _ _ _ _) (.cons (.there (.there (.there .here))) .nil) cl_22 rfl (by rintro _ _ ⟨rfl, rfl⟩; all_goals (intro _ hw'; exact ⟨fun hs => (hs 15 (by simp) rfl).elim, fun hs => (hs 15 (by simp) rfl).elim, fun hs => (hs 15 (by simp) rfl).elim, fun hs => (hs 7 (by simp) rfl).elim, fun hs => (hs 7 (by simp) rfl).elim, fun hs => (hs 7 (by simp) rfl).elim, trivial⟩)) ?_
    rintro _ _ ⟨rfl, rfl⟩
    refine XQ.call (i := 16) (l' := #[true, true, true, true, true, true, true, true, true, true, true, true, true, true, true, true, true, false]) rfl (by kernel_rfl) rfl rfl (same_any _ _ (SF.addGE_nn _ _ _ _)) .nil cl_15 rfl (by rintro _ _ ⟨rfl, rfl⟩; all_goals (intro _ hw'; exact ⟨fun hs => (hs 15 (by simp) rfl).elim, fun hs => (hs 15 (by simp) rfl).elim, fun hs => (hs 15 (by simp) rfl).elim, fun hs => (hs 7 (by simp) rfl).elim, fun hs => (hs 7 (by simp) rfl).elim, fun hs => (hs 7 (by simp) rfl).elim, trivial⟩)) ?_
    rintro _ _ ⟨rfl, rfl⟩
    refine XQ.pv (i := 17) (l' := #[true, true, true, true, true, true, true, true, true, true, true, true, true, true, true, true, true, true]) rfl (by kernel_rfl) rfl (V.assign rfl) rfl rfl ?_
    refine XQ.done (by kernel_rfl) ?_
    refine XE.next ?_
    refine XC.keep [(6, _)] (Sub.cons rfl (Sub.nil _)) ?_
    refine XC.ret ?_
    refine XE.blockRet ?_
    refine XE.thenRet ?_
    refine XE.ret1 rfl rfl (post_of (.cons (.there .here) (.cons (.there .here) (.cons .here .nil))) rfl ?_)
    obtain ⟨d2, h2⟩ := hO.addG hT.1 a.a a.b a.c
    exact ⟨congrArg Value.bool (decide_eq_true rfl), t, d2, tR, by rw [tl]; exact h2.mono (Nat.le_refl _) (by omega), by rw [tl]⟩
  · skip
    refine XC.seq ?_
    refine XC.region ?_
    refine XO.v (V.strCmp rfl rfl rfl) rfl ?_
    refine XO.v (V.assign rfl) rfl ?_
    refine XO.nil ?_
    refine XE.next ?_
    refine XC.keep [(0, _), (1, _), (5, _), (11, _), (31, _)] (Sub.cons rfl (Sub.cons rfl (Sub.cons rfl (Sub.cons rfl (Sub.cons rfl (Sub.nil _)))))) ?_
    refine XC.condP rfl (fun h2 => ?_) (fun h2 => ?_)
    · skip
      refine XC.seq ?_
      refine XC.regionQ mixed (f := 18) (l := #[false, false, false, false, false, false, false, false, false, false, false, false, false, false, false, false, false, false]) rfl rfl XM.drawn' ?_
      refine XQ.pv (i := 0) (l' := #[true, false, false, false, false, false, false, false, false, false, false, false, false, false, false, false, false, false]) rfl (by kernel_rfl) rfl (V.move rfl) rfl rfl ?_
      refine XQ.pv (i := 1) (l' := #[true, true, false, false, false, false, false, false, false, false, false, false, false, false, false, false, false, false]) rfl (by kernel_rfl) rfl (V.fieldAddr rfl fo_32_1) rfl rfl ?_
      refine XQ.load (i := 2) (l' := #[true, true, true, false, false, false, false, false, false, false, false, false, false, false, false, false, false, false]) (.cells _ _ _ _) [7, 15, 16] rfl (by kernel_rfl) rfl .here (V.load rfl inEnt (encAct.ld_A _) sc_3) rfl (by kernel_rfl) rfl ?_
      refine XQ.pv (i := 3) (l' := #[true, true, true, true, false, false, false, false, false, false, false, false, false, false, false, false, false, false]) rfl (by kernel_rfl) rfl (V.fieldAddr rfl fo_32_2) rfl rfl ?_
      refine XQ.load (i := 4) (l' := #[true, true, true, true, true, false, false, false, false, false, false, false, false, false, false, false, false, false]) (.cells _ _ _ _) [7, 15, 16] rfl (by kernel_rfl) rfl .here (V.load rfl inEnt (encAct.ld_B _) sc_3) rfl (by kernel_rfl) rfl ?_
      refine XQ.pv (i := 5) (l' := #[true, true, true, true, true, true, false, false, false, false, false, false, false, false, false, false, false, false]) rfl (by kernel_rfl) rfl (V.fieldAddr rfl fo_32_3) rfl rfl ?_
      refine XQ.load (i := 6) (l' := #[true, true, true, true, true, true, true, false, false, false, false, false, false, false, false, false, false, false]) (.cells _ _ _ _) [7, 15, 16] rfl (by kernel_rfl) rfl .here (V.load rfl inEnt (encAct.ld_C _) sc_3) rfl (by kernel_rfl) rfl ?_
      refine XQ.pv (i := 8) (l' := #[true, true, true, true, true, true, true, false, true, false, false, false, false, false, false, false, false, false]) rfl (by kernel_rfl) rfl (V.move rfl) rfl rfl ?_
      refine XQ.pv (i := 9) (l' := #[true, true, true, true, true, true, true, false, true, true, false, false, false, false, false, false, false, false]) rfl (by kernel_rfl) rfl (V.fieldAddr rfl fo_32_1) rfl rfl ?_
      refine XQ.load (i := 10) (l' := #[true, true, true, true, true, true, true, false, true, true, true, false, false, false, false, false, false, false]) (.cells _ _ _ _) [15, 16] rfl (by kernel_rfl) rfl .here (V.load rfl inEnt (encAct.ld_A _) sc_3) rfl (by kernel_rfl) rfl ?_
      refine XQ.pv (i := 11) (l' := #[true, true, true, true, true, true, true, false, true, true, true, true, false, false, false, false, false, false]) rfl (by kernel_rfl) rfl (V.fieldAddr rfl fo_32_2) rfl rfl ?_
      refine XQ.load (i := 12) (l' := #[true, true, true, true, true, true, true, false, true, true, true, true, true, false, false, false, false, false]) (.cells _ _ _ _) [15, 16] rfl (by kernel_rfl) rfl .here (V.load rfl inEnt (encAct.ld_B _) sc_3) rfl (by kernel_rfl) rfl ?_
      refine XQ.pv (i := 13) (l' := #[true, true, true, true, true, true, true, false, true, true, true, true, true, true, false, false, false, false]) rfl (by kernel_rfl) rfl (V.fieldAddr rfl fo_32_3) rfl rfl ?_
      refine XQ.load (i := 14) (l' := #[true, true, true, true, true, true, true, false, true, true, true, true, true, true, true, false, false, false]) (.cells _ _ _ _) [15, 16] rfl (by kernel_rfl) rfl .here (V.load rfl inEnt (encAct.ld_C _) sc_3) rfl (by kernel_rfl) rfl ?_
      refine XQ.call (i := 7) (l' := #[true, true, true, true, true, true, true, true, true, true, true, true, true, true, true, false, false, false]) rfl (by kernel_rfl) rfl rfl (f_AddTask _ _ s d hO.inv hR _ _ _) (.cons (.there .here) (.cons (.there .here) .nil)) cl_16 rfl (by rintro _ _ ⟨rfl, t, tl, tR, rfl⟩; all_goals (intro _ hw'; exact ⟨fun _ => inXM (.there (.there .here)) _ hw', fun _ => inXM (.there (.there .here)) _ hw', fun _ => inXM (.there (.there .here)) _ hw', fun hs => (hs 7 (by simp) rfl).elim, fun hs => (hs 7 (by simp) rfl).elim, fun hs => (hs 7 (by simp) rfl).elim, trivial⟩)) ?_
      rintro _ _ ⟨rfl, t, tl, tR, rfl⟩
      refine XQ.call (i := 15) (l' := #[true, true, true, true, true, true, true, true, true, true, true, true, true, true, true, true, false, false]) rfl (by kernel_rfl) rfl rfl (r_AddTask _ _ _ _ _ _) (.cons (.there (.there (.there .here))) .nil) cl_23 rfl (by rintro _ _ ⟨rfl, rfl⟩; all_goals (intro _ hw'; exact ⟨fun hs => (hs 15 (by simp) rfl).elim, fun hs => (hs 15 (by simp) rfl).elim, fun hs => (hs 15 (by simp) rfl).elim, fun hs => (hs 7 (by simp) rfl).elim, fun hs => (hs 7 (by simp) rfl).elim, fun hs => (hs 7 (by simp) rfl).elim, trivial⟩)) ?_
      rintro _ _ ⟨rfl, rfl⟩
      refine XQ.call (i := 16) (l' := #[true, true, true, true, true, true, true, true, true, true, true, true, true, true, true, true, true, false]) rfl (by kernel_rfl) rfl rfl (same_any _ _ (SF.addTE_nn _ _ _ _)) .nil cl_15 rfl (by rintro _ _ ⟨rfl, rfl⟩; all_goals (intro _ hw'; exact ⟨fun hs => (hs 15 (by simp) rfl).elim, fun hs => (hs 15 (by simp) rfl).elim, fun hs => (hs 15 (by simp) rfl).elim, fun hs => (hs 7 (by simp) rfl).elim, fun hs => (hs 7 (by simp) rfl).elim, fun hs => (hs 7 (by simp) rfl).elim, trivial⟩)) ?_
      rintro _ _ ⟨rfl, rfl⟩
      refine XQ.pv (i := 17) (l' := #[true, true, true, true, true, true, true, true, true, true, true, true, true, true, true, true, true, true]) rfl (by kernel_rfl) rfl (V.assign rfl) rfl rfl ?_
      refine XQ.done (by kernel_rfl) ?_
      refine XE.next ?_
      refine XC.keep [(6, _)] (Sub.cons rfl (Sub.nil _)) ?_
      refine XC.ret ?_
      refine XE.blockRet ?_
      refine XE.thenRet ?_
      refine XE.ret1 rfl rfl (post_of (.cons (.there .here) (.cons (.there .here) (.cons .here .nil))) rfl ?_)
      obtain ⟨d2, h2⟩ := hO.addT hT.1 a.a a.b a.c
      exact ⟨congrArg Value.bool (decide_eq_true rfl), t, d2, tR, by rw [tl]; exact h2.mono (Nat.le_refl _) (by omega), by rw [tl]⟩
    · skip
      refine XC.seq ?_
      refine XC.region ?_
      refine XO.v (V.strCmp rfl rfl rfl) rfl ?_
      refine XO.v (V.assign rfl) rfl ?_
      refine XO.nil ?_
      refine XE.next ?_
      refine XC.keep [(0, _), (1, _), (5, _), (11, _), (50, _)] (Sub.cons rfl (Sub.cons rfl (Sub.cons rfl (Sub.cons rfl (Sub.cons rfl (Sub.nil _)))))) ?_
      refine XC.condP rfl (fun h3 => ?_) (fun h3 => ?_)
      · skip
        refine XC.seq ?_
        refine XC.regionQ mixed (f := 10) (l := #[false, false, false, false, false, false, false, false, false, false]) rfl rfl XM.drawn' ?_
        refine XQ.pv (i := 0) (l' := #[true, false, false, false, false, false, false, false, false, false]) rfl (by kernel_rfl) rfl (V.move rfl) rfl rfl ?_
        refine XQ.pv (i := 1) (l' := #[true, true, false, false, false, false, false, false, false, false]) rfl (by kernel_rfl) rfl (V.fieldAddr rfl fo_32_1) rfl rfl ?_
        refine XQ.load (i := 2) (l' := #[true, true, true, false, false, false, false, false, false, false]) (.cells _ _ _ _) [3, 7, 8] rfl (by kernel_rfl) rfl .here (V.load rfl inEnt (encAct.ld_A _) sc_3) rfl (by kernel_rfl) rfl ?_
        refine XQ.pv (i := 4) (l' := #[true, true, true, false, true, false, false, false, false, false]) rfl (by kernel_rfl) rfl (V.move rfl) rfl rfl ?_
        refine XQ.pv (i := 5) (l' := #[true, true, true, false, true, true, false, false, false, false]) rfl (by kernel_rfl) rfl (V.fieldAddr rfl fo_32_1) rfl rfl ?_
        refine XQ.load (i := 6) (l' := #[true, true, true, false, true, true, true, false, false, false]) (.cells _ _ _ _) [7, 8] rfl (by kernel_rfl) rfl .here (V.load rfl inEnt (encAct.ld_A _) sc_3) rfl (by kernel_rfl) rfl ?_
        refine XQ.call (i := 3) (l' := #[true, true, true, true, true, true, true, false, false, false]) rfl (by kernel_rfl) rfl rfl (f_DropGroup _ _ s d hO.inv hR _ hO.hset) (.cons (.there .here) (.cons (.there .here) .nil)) cl_24 rfl (by rintro _ _ ⟨rfl, t, tl, tR, rfl⟩; all_goals (intro _ hw'; exact ⟨fun _ => inXM (.there (.there .here)) _ hw', fun hs => (hs 3 (by simp) rfl).elim, trivial⟩)) ?_
        rintro _ _ ⟨rfl, t, tl, tR, rfl⟩
        refine XQ.call (i := 7) (l' := #[true, true, true, true, true, true, true, true, false, false]) rfl (by kernel_rfl) rfl rfl (r_DropGroup _ _ _ _) (.cons (.there (.there (.there .here))) .nil) cl_25 rfl (by rintro _ _ ⟨rfl, rfl⟩; all_goals (intro _ hw'; exact ⟨fun hs => (hs 7 (by simp) rfl).elim, fun hs => (hs 3 (by simp) rfl).elim, trivial⟩)) ?_
        rintro _ _ ⟨rfl, rfl⟩
        refine XQ.call (i := 8) (l' := #[true, true, true, true, true, true, true, true, true, false]) rfl (by kernel_rfl) rfl rfl (same_any _ _ (SF.dropGE_nn _ _)) .nil cl_15 rfl (by rintro _ _ ⟨rfl, rfl⟩; all_goals (intro _ hw'; exact ⟨fun hs => (hs 7 (by simp) rfl).elim, fun hs => (hs 3 (by simp) rfl).elim, trivial⟩)) ?_
        rintro _ _ ⟨rfl, rfl⟩
        refine XQ.pv (i := 9) (l' := #[true, true, true, true, true, true, true, true, true, true]) rfl (by kernel_rfl) rfl (V.assign rfl) rfl rfl ?_
        refine XQ.done (by kernel_rfl) ?_
        refine XE.next ?_
        refine XC.keep [(6, _)] (Sub.cons rfl (Sub.nil _)) ?_
        refine XC.ret ?_
        refine XE.blockRet ?_
        refine XE.thenRet ?_
        refine XE.ret1 rfl rfl (post_of (.cons (.there .here) (.cons (.there .here) (.cons .here .nil))) rfl ?_)
        exact ⟨congrArg Value.bool (decide_eq_true rfl), t, _, tR, by rw [tl]; exact (hO.dropG hT.1 _).mono (by omega) (by omega), by rw [tl]⟩
      · skip
        refine XC.seq ?_
        refine XC.region ?_
        refine XO.v (V.strCmp rfl rfl rfl) rfl ?_
        refine XO.v (V.assign rfl) rfl ?_
        refine XO.nil ?_
        refine XE.next ?_
        refine XC.keep [(0, _), (1, _), (5, _), (11, _), (61, _)] (Sub.cons rfl (Sub.cons rfl (Sub.cons rfl (Sub.cons rfl (Sub.cons rfl (Sub.nil _)))))) ?_
        refine XC.condP rfl (fun h4 => ?_) (fun h4 => ?_)
        · skip
          refine XC.seq ?_
          refine XC.regionQ mixed (f := 10) (l := #[false, false, false, false, false, false, false, false, false, false]) rfl rfl XM.drawn' ?_
          refine XQ.pv (i := 0) (l' := #[true, false, false, false, false, false, false, false, false, false]) rfl (by kernel_rfl) rfl (V.move rfl) rfl rfl ?_
          refine XQ.pv (i := 1) (l' := #[true, true, false, false, false, false, false, false, false, false]) rfl (by kernel_rfl) rfl (V.fieldAddr rfl fo_32_1) rfl rfl ?_
          refine XQ.load (i := 2) (l' := #[true, true, true, false, false, false, false, false, false, false]) (.cells _ _ _ _) [3, 7, 8] rfl (by kernel_rfl) rfl .here (V.load rfl inEnt (encAct.ld_A _) sc_3) rfl (by kernel_rfl) rfl ?_
          refine XQ.pv (i := 4) (l' := #[true, true, true, false, true, false, false, false, false, false]) rfl (by kernel_rfl) rfl (V.move rfl) rfl rfl ?_
          refine XQ.pv (i := 5) (l' := #[true, true, true, false, true, true, false, false, false, false]) rfl (by kernel_rfl) rfl (V.fieldAddr rfl fo_32_1) rfl rfl ?_
          refine XQ.load (i := 6) (l' := #[true, true, true, false, true, true, true, false, false, false]) (.cells _ _ _ _) [7, 8] rfl (by kernel_rfl) rfl .here (V.load rfl inEnt (encAct.ld_A _) sc_3) rfl (by kernel_rfl) rfl ?_
          refine XQ.call (i := 3) (l' := #[true, true, true, true, true, true, true, false, false, false]) rfl (by kernel_rfl) rfl rfl (f_DropTask _ _ s d hO.inv hR _) (.cons (.there .here) (.cons (.there .here) .nil)) cl_26 rfl (by rintro _ _ ⟨rfl, t, tl, tR, rfl⟩; all_goals (intro _ hw'; exact ⟨fun _ => inXM (.there (.there .here)) _ hw', fun hs => (hs 3 (by simp) rfl).elim, trivial⟩)) ?_
          rintro _ _ ⟨rfl, t, tl, tR, rfl⟩
          refine XQ.call (i := 7) (l' := #[true, true, true, true, true, true, true, true, false, false]) rfl (by kernel_rfl) rfl rfl (r_DropTask _ _ _ d hO.inv _) (.cons (.there (.there (.there .here))) .nil) cl_27 rfl (by rintro _ _ ⟨rfl, rfl⟩; all_goals (intro _ hw'; exact ⟨fun hs => (hs 7 (by simp) rfl).elim, fun hs => (hs 3 (by simp) rfl).elim, trivial⟩)) ?_
          rintro _ _ ⟨rfl, rfl⟩
          refine XQ.call (i := 8) (l' := #[true, true, true, true, true, true, true, true, true, false]) rfl (by kernel_rfl) rfl rfl (same_any _ _ (SF.tkE_nn _ _)) .nil cl_15 rfl (by rintro _ _ ⟨rfl, rfl⟩; all_goals (intro _ hw'; exact ⟨fun hs => (hs 7 (by simp) rfl).elim, fun hs => (hs 3 (by simp) rfl).elim, trivial⟩)) ?_
          rintro _ _ ⟨rfl, rfl⟩
          refine XQ.pv (i := 9) (l' := #[true, true, true, true, true, true, true, true, true, true]) rfl (by kernel_rfl) rfl (V.assign rfl) rfl rfl ?_
          refine XQ.done (by kernel_rfl) ?_
          refine XE.next ?_
          refine XC.keep [(6, _)] (Sub.cons rfl (Sub.nil _)) ?_
          refine XC.ret ?_
          refine XE.blockRet ?_
          refine XE.thenRet ?_
          refine XE.ret1 rfl rfl (post_of (.cons (.there .here) (.cons (.there .here) (.cons .here .nil))) rfl ?_)
          exact ⟨congrArg Value.bool (decide_eq_true rfl), t, _, tR, by rw [tl]; exact (hO.dropT hT.1 _).mono (by omega) (by omega), by rw [tl]⟩
        · skip
          refine XC.seq ?_
          refine XC.region ?_
          refine XO.v (V.strCmp rfl rfl rfl) rfl ?_
          refine XO.v (V.assign rfl) rfl ?_
          refine XO.nil ?_
          refine XE.next ?_
          refine XC.keep [(0, _), (1, _), (5, _), (11, _), (72, _)] (Sub.cons rfl (Sub.cons rfl (Sub.cons rfl (Sub.cons rfl (Sub.cons rfl (Sub.nil _)))))) ?_
          refine XC.condP rfl (fun h5 => ?_) (fun h5 => ?_)
          · skip
            refine XC.seq ?_
            refine XC.regionQ mixed (f := 14) (l := #[false, false, false, false, false, false, false, false, false, false, false, false, false, false]) rfl rfl XM.drawn' ?_
            refine XQ.pv (i := 0) (l' := #[true, false, false, false, false, false, false, false, false, false, false, false, false, false]) rfl (by kernel_rfl) rfl (V.move rfl) rfl rfl ?_
            refine XQ.pv (i := 1) (l' := #[true, true, false, false, false, false, false, false, false, false, false, false, false, false]) rfl (by kernel_rfl) rfl (V.fieldAddr rfl fo_32_1) rfl rfl ?_
            refine XQ.load (i := 2) (l' := #[true, true, true, false, false, false, false, false, false, false, false, false, false, false]) (.cells _ _ _ _) [5, 11, 12] rfl (by kernel_rfl) rfl .here (V.load rfl inEnt (encAct.ld_A _) sc_3) rfl (by kernel_rfl) rfl ?_
            refine XQ.pv (i := 3) (l' := #[true, true, true, true, false, false, false, false, false, false, false, false, false, false]) rfl (by kernel_rfl) rfl (V.fieldAddr rfl fo_32_2) rfl rfl ?_
            refine XQ.load (i := 4) (l' := #[true, true, true, true, true, false, false, false, false, false, false, false, false, false]) (.cells _ _ _ _) [5, 11, 12] rfl (by kernel_rfl) rfl .here (V.load rfl inEnt (encAct.ld_B _) sc_3) rfl (by kernel_rfl) rfl ?_
            refine XQ.pv (i := 6) (l' := #[true, true, true, true, true, false, true, false, false, false, false, false, false, false]) rfl (by kernel_rfl) rfl (V.move rfl) rfl rfl ?_
            refine XQ.pv (i := 7) (l' := #[true, true, true, true, true, false, true, true, false, false, false, false, false, false]) rfl (by kernel_rfl) rfl (V.fieldAddr rfl fo_32_1) rfl rfl ?_
            refine XQ.load (i := 8) (l' := #[true, true, true, true, true, false, true, true, true, false, false, false, false, false]) (.cells _ _ _ _) [11, 12] rfl (by kernel_rfl) rfl .here (V.load rfl inEnt (encAct.ld_A _) sc_3) rfl (by kernel_rfl) rfl ?_
            refine XQ.pv (i := 9) (l' := #[true, true, true, true, true, false, true, true, true, true, false, false, false, false]) rfl (by kernel_rfl) rfl (V.fieldAddr rfl fo_32_2) rfl rfl ?_
            refine XQ.load (i := 10) (l' := #[true, true, true, true, true, false, true, true, true, true, true, false, false, false]) (.cells _ _ _ _) [11, 12] rfl (by kernel_rfl) rfl .here (V.load rfl inEnt (encAct.ld_B _) sc_3) rfl (by kernel_rfl) rfl ?_
            refine XQ.call (i := 5) (l' := #[true, true, true, true, true, true, true, true, true, true, true, false, false, false]) rfl (by kernel_rfl) rfl rfl (f_MoveTask _ _ s d hO.inv hR _ _) (.cons (.there .here) (.cons (.there .here) .nil)) cl_28 rfl (by rintro _ _ ⟨rfl, t, tl, tR, rfl⟩; all_goals (intro _ hw'; exact ⟨fun _ => inXM (.there (.there .here)) _ hw', fun _ => inXM (.there (.there .here)) _ hw', fun hs => (hs 5 (by simp) rfl).elim, fun hs => (hs 5 (by simp) rfl).elim, trivial⟩)) ?_
            rintro _ _ ⟨rfl, t, tl, tR, rfl⟩
            refine XQ.call (i := 11) (l' := #[true, true, true, true, true, true, true, true, true, true, true, true, false, false]) rfl (by kernel_rfl) rfl rfl (r_MoveTask _ _ _ d hO.inv hO.tk _ _) (.cons (.there (.there (.there .here))) .nil) cl_29 rfl (by rintro _ _ ⟨rfl, rfl⟩; all_goals (intro _ hw'; exact ⟨fun hs => (hs 11 (by simp) rfl).elim, fun hs => (hs 11 (by simp) rfl).elim, fun hs => (hs 5 (by simp) rfl).elim, fun hs => (hs 5 (by simp) rfl).elim, trivial⟩)) ?_
            rintro _ _ ⟨rfl, rfl⟩
            refine XQ.call (i := 12) (l' := #[true, true, true, true, true, true, true, true, true, true, true, true, true, false]) rfl (by kernel_rfl) rfl rfl (same_any _ _ (SF.moveE_nn _ _ _)) .nil cl_15 rfl (by rintro _ _ ⟨rfl, rfl⟩; all_goals (intro _ hw'; exact ⟨fun hs => (hs 11 (by simp) rfl).elim, fun hs => (hs 11 (by simp) rfl).elim, fun hs => (hs 5 (by simp) rfl).elim, fun hs => (hs 5 (by simp) rfl).elim, trivial⟩)) ?_
            rintro _ _ ⟨rfl, rfl⟩
            refine XQ.pv (i := 13) (l' := #[true, true, true, true, true, true, true, true, true, true, true, true, true, true]) rfl (by kernel_rfl) rfl (V.assign rfl) rfl rfl ?_
            refine XQ.done (by kernel_rfl) ?_
            refine XE.next ?_
            refine XC.keep [(6, _)] (Sub.cons rfl (Sub.nil _)) ?_
            refine XC.ret ?_
            refine XE.blockRet ?_
            refine XE.thenRet ?_
            refine XE.ret1 rfl rfl (post_of (.cons (.there .here) (.cons (.there .here) (.cons .here .nil))) rfl ?_)
            obtain ⟨d2, h2⟩ := hO.move hT.1 a.a a.b
            exact ⟨congrArg Value.bool (decide_eq_true rfl), t, d2, tR, by rw [tl]; exact h2.mono (Nat.le_refl _) (by omega), by rw [tl]⟩
          · skip
            refine XC.seq ?_
            refine XC.region ?_
            refine XO.v (V.strCmp rfl rfl rfl) rfl ?_
            refine XO.v (V.assign rfl) rfl ?_
            refine XO.nil ?_
            refine XE.next ?_
            refine XC.keep [(0, _), (1, _), (5, _), (11, _), (87, _)] (Sub.cons rfl (Sub.cons rfl (Sub.cons rfl (Sub.cons rfl (Sub.cons rfl (Sub.nil _)))))) ?_
            refine XC.condP rfl (fun h6 => ?_) (fun h6 => ?_)
            · skip
              refine XC.seq ?_
              refine XC.regionQ mixed (f := 14) (l := #[false, false, false, false, false, false, false, false, false, false, false, false, false, false]) rfl rfl XM.drawn' ?_
              refine XQ.pv (i := 0) (l' := #[true, false, false, false, false, false, false, false, false, false, false, false, false, false]) rfl (by kernel_rfl) rfl (V.move rfl) rfl rfl ?_
              refine XQ.pv (i := 1) (l' := #[true, true, false, false, false, false, false, false, false, false, false, false, false, false]) rfl (by kernel_rfl) rfl (V.fieldAddr rfl fo_32_1) rfl rfl ?_
              refine XQ.load (i := 2) (l' := #[true, true, true, false, false, false, false, false, false, false, false, false, false, false]) (.cells _ _ _ _) [5, 11, 12] rfl (by kernel_rfl) rfl .here (V.load rfl inEnt (encAct.ld_A _) sc_3) rfl (by kernel_rfl) rfl ?_
              refine XQ.pv (i := 3) (l' := #[true, true, true, true, false, false, false, false, false, false, false, false, false, false]) rfl (by kernel_rfl) rfl (V.fieldAddr rfl fo_32_5) rfl rfl ?_
              refine XQ.load (i := 4) (l' := #[true, true, true, true, true, false, false, false, false, false, false, false, false, false]) (.cells _ _ _ _) [5, 11, 12] rfl (by kernel_rfl) rfl .here (V.load rfl inEnt (encAct.ld_On _) sc_4) rfl (by kernel_rfl) rfl ?_
              refine XQ.pv (i := 6) (l' := #[true, true, true, true, true, false, true, false, false, false, false, false, false, false]) rfl (by kernel_rfl) rfl (V.move rfl) rfl rfl ?_
              refine XQ.pv (i := 7) (l' := #[true, true, true, true, true, false, true, true, false, false, false, false, false, false]) rfl (by kernel_rfl) rfl (V.fieldAddr rfl fo_32_1) rfl rfl ?_
              refine XQ.load (i := 8) (l' := #[true, true, true, true, true, false, true, true, true, false, false, false, false, false]) (.cells _ _ _ _) [11, 12] rfl (by kernel_rfl) rfl .here (V.load rfl inEnt (encAct.ld_A _) sc_3) rfl (by kernel_rfl) rfl ?_
              refine XQ.pv (i := 9) (l' := #[true, true, true, true, true, false, true, true, true, true, false, false, false, false]) rfl (by kernel_rfl) rfl (V.fieldAddr rfl fo_32_5) rfl rfl ?_
              refine XQ.load (i := 10) (l' := #[true, true, true, true, true, false, true, true, true, true, true, false, false, false]) (.cells _ _ _ _) [11, 12] rfl (by kernel_rfl) rfl .here (V.load rfl inEnt (encAct.ld_On _) sc_4) rfl (by kernel_rfl) rfl ?_
              refine XQ.call (i := 5) (l' := #[true, true, true, true, true, true, true, true, true, true, true, false, false, false]) rfl (by kernel_rfl) rfl rfl (f_wake _ _ s d hO.inv hR _ _) (.cons (.there .here) (.cons (.there .here) .nil)) cl_17 rfl (by rintro _ _ ⟨rfl, t, tl, tR, rfl⟩; all_goals (intro _ hw'; exact ⟨fun _ => inXM (.there (.there .here)) _ hw', fun _ => inXM (.there (.there .here)) _ hw', fun hs => (hs 5 (by simp) rfl).elim, fun hs => (hs 5 (by simp) rfl).elim, trivial⟩)) ?_
              rintro _ _ ⟨rfl, t, tl, tR, rfl⟩
              refine XQ.call (i := 11) (l' := #[true, true, true, true, true, true, true, true, true, true, true, true, false, false]) rfl (by kernel_rfl) rfl rfl (r_Wake _ _ _ d hO.inv _ _) (.cons (.there (.there (.there .here))) .nil) cl_30 rfl (by rintro _ _ ⟨rfl, rfl⟩; all_goals (intro _ hw'; exact ⟨fun hs => (hs 11 (by simp) rfl).elim, fun hs => (hs 11 (by simp) rfl).elim, fun hs => (hs 5 (by simp) rfl).elim, fun hs => (hs 5 (by simp) rfl).elim, trivial⟩)) ?_
              rintro _ _ ⟨rfl, rfl⟩
              refine XQ.call (i := 12) (l' := #[true, true, true, true, true, true, true, true, true, true, true, true, true, false]) rfl (by kernel_rfl) rfl rfl (same_any _ _ (SF.tkE_nn _ _)) .nil cl_15 rfl (by rintro _ _ ⟨rfl, rfl⟩; all_goals (intro _ hw'; exact ⟨fun hs => (hs 11 (by simp) rfl).elim, fun hs => (hs 11 (by simp) rfl).elim, fun hs => (hs 5 (by simp) rfl).elim, fun hs => (hs 5 (by simp) rfl).elim, trivial⟩)) ?_
              rintro _ _ ⟨rfl, rfl⟩
              refine XQ.pv (i := 13) (l' := #[true, true, true, true, true, true, true, true, true, true, true, true, true, true]) rfl (by kernel_rfl) rfl (V.assign rfl) rfl rfl ?_
              refine XQ.done (by kernel_rfl) ?_
              refine XE.next ?_
              refine XC.keep [(6, _)] (Sub.cons rfl (Sub.nil _)) ?_
              refine XC.ret ?_
              refine XE.blockRet ?_
              refine XE.thenRet ?_
              refine XE.ret1 rfl rfl (post_of (.cons (.there .here) (.cons (.there .here) (.cons .here .nil))) rfl ?_)
              exact ⟨congrArg Value.bool (decide_eq_true rfl), t, _, tR, by rw [tl]; exact (hO.wake _ _).mono (by omega) (by omega), by rw [tl]⟩
            · skip
              refine XC.seq ?_
              refine XC.region ?_
              refine XO.v (V.strCmp rfl rfl rfl) rfl ?_
              refine XO.v (V.assign rfl) rfl ?_
              refine XO.nil ?_
              refine XE.next ?_
              refine XC.keep [(0, _), (1, _), (5, _), (11, _), (102, _)] (Sub.cons rfl (Sub.cons rfl (Sub.cons rfl (Sub.cons rfl (Sub.cons rfl (Sub.nil _)))))) ?_
              refine XC.condP rfl (fun h7 => ?_) (fun h7 => ?_)
              · skip
                refine XC.seq ?_
                refine XC.regionQ mixed (f := 14) (l := #[false, false, false, false, false, false, false, false, false, false, false, false, false, false]) rfl rfl XM.drawn' ?_
                refine XQ.pv (i := 0) (l' := #[true, false, false, false, false, false, false, false, false, false, false, false, false, false]) rfl (by kernel_rfl) rfl (V.move rfl) rfl rfl ?_
                refine XQ.pv (i := 1) (l' := #[true, true, false, false, false, false, false, false, false, false, false, false, false, false]) rfl (by kernel_rfl) rfl (V.fieldAddr rfl fo_32_1) rfl rfl ?_
                refine XQ.load (i := 2) (l' := #[true, true, true, false, false, false, false, false, false, false, false, false, false, false]) (.cells _ _ _ _) [5, 11, 12] rfl (by kernel_rfl) rfl .here (V.load rfl inEnt (encAct.ld_A _) sc_3) rfl (by kernel_rfl) rfl ?_
                refine XQ.pv (i := 3) (l' := #[true, true, true, true, false, false, false, false, false, false, false, false, false, false]) rfl (by kernel_rfl) rfl (V.fieldAddr rfl fo_32_5) rfl rfl ?_
                refine XQ.load (i := 4) (l' := #[true, true, true, true, true, false, false, false, false, false, false, false, false, false]) (.cells _ _ _ _) [5, 11, 12] rfl (by kernel_rfl) rfl .here (V.load rfl inEnt (encAct.ld_On _) sc_4) rfl (by kernel_rfl) rfl ?_
                refine XQ.pv (i := 6) (l' := #[true, true, true, true, true, false, true, false, false, false, false, false, false, false]) rfl (by kernel_rfl) rfl (V.move rfl) rfl rfl ?_
                refine XQ.pv (i := 7) (l' := #[true, true, true, true, true, false, true, true, false, false, false, false, false, false]) rfl (by kernel_rfl) rfl (V.fieldAddr rfl fo_32_1) rfl rfl ?_
                refine XQ.load (i := 8) (l' := #[true, true, true, true, true, false, true, true, true, false, false, false, false, false]) (.cells _ _ _ _) [11, 12] rfl (by kernel_rfl) rfl .here (V.load rfl inEnt (encAct.ld_A _) sc_3) rfl (by kernel_rfl) rfl ?_
                refine XQ.pv (i := 9) (l' := #[true, true, true, true, true, false, true, true, true, true, false, false, false, false]) rfl (by kernel_rfl) rfl (V.fieldAddr rfl fo_32_5) rfl rfl ?_
                refine XQ.load (i := 10) (l' := #[true, true, true, true, true, false, true, true, true, true, true, false, false, false]) (.cells _ _ _ _) [11, 12] rfl (by kernel_rfl) rfl .here (V.load rfl inEnt (encAct.ld_On _) sc_4) rfl (by kernel_rfl) rfl ?_
                refine XQ.call (i := 5) (l' := #[true, true, true, true, true, true, true, true, true, true, true, false, false, false]) rfl (by kernel_rfl) rfl rfl (f_freeze _ _ s d hO.inv hR _ _) (.cons (.there .here) (.cons (.there .here) .nil)) cl_21 rfl (by rintro _ _ ⟨rfl, t, tl, tR, rfl⟩; all_goals (intro _ hw'; exact ⟨fun _ => inXM (.there (.there .here)) _ hw', fun _ => inXM (.there (.there .here)) _ hw', fun hs => (hs 5 (by simp) rfl).elim, fun hs => (hs 5 (by simp) rfl).elim, trivial⟩)) ?_
                rintro _ _ ⟨rfl, t, tl, tR, rfl⟩
                refine XQ.call (i := 11) (l' := #[true, true, true, true, true, true, true, true, true, true, true, true, false, false]) rfl (by kernel_rfl) rfl rfl (r_Freeze _ _ _ d hO.inv _ _) (.cons (.there (.there (.there .here))) .nil) cl_31 rfl (by rintro _ _ ⟨rfl, rfl⟩; all_goals (intro _ hw'; exact ⟨fun hs => (hs 11 (by simp) rfl).elim, fun hs => (hs 11 (by simp) rfl).elim, fun hs => (hs 5 (by simp) rfl).elim, fun hs => (hs 5 (by simp) rfl).elim, trivial⟩)) ?_
                rintro _ _ ⟨rfl, rfl⟩
                refine XQ.call (i := 12) (l' := #[true, true, true, true, true, true, true, true, true, true, true, true, true, false]) rfl (by kernel_rfl) rfl rfl (same_any _ _ (SF.frzE_nn _ _)) .nil cl_15 rfl (by rintro _ _ ⟨rfl, rfl⟩; all_goals (intro _ hw'; exact ⟨fun hs => (hs 11 (by simp) rfl).elim, fun hs => (hs 11 (by simp) rfl).elim, fun hs => (hs 5 (by simp) rfl).elim, fun hs => (hs 5 (by simp) rfl).elim, trivial⟩)) ?_
                rintro _ _ ⟨rfl, rfl⟩
                refine XQ.pv (i := 13) (l' := #[true, true, true, true, true, true, true, true, true, true, true, true, true, true]) rfl (by kernel_rfl) rfl (V.assign rfl) rfl rfl ?_
                refine XQ.done (by kernel_rfl) ?_
                refine XE.next ?_
                refine XC.keep [(6, _)] (Sub.cons rfl (Sub.nil _)) ?_
                refine XC.ret ?_
                refine XE.blockRet ?_
                refine XE.thenRet ?_
                refine XE.ret1 rfl rfl (post_of (.cons (.there .here) (.cons (.there .here) (.cons .here .nil))) rfl ?_)
                exact ⟨congrArg Value.bool (decide_eq_true rfl), t, _, tR, by rw [tl]; exact (hO.freeze _ _).mono (by omega) (by omega), by rw [tl]⟩
              · skip
                refine XC.seq ?_
                refine XC.region ?_
                refine XO.v (V.strCmp rfl rfl rfl) rfl ?_
                refine XO.v (V.assign rfl) rfl ?_
                refine XO.nil ?_
                refine XE.next ?_
                refine XC.keep [(0, _), (1, _), (5, _), (117, _)] (Sub.cons rfl (Sub.cons rfl (Sub.cons rfl (Sub.cons rfl (Sub.nil _))))) ?_
                refine XC.condP rfl (fun h8 => ?_) (fun h8 => ?_)
                · skip
                  refine XC.seq ?_
                  refine XC.regionQ mixed (f := 18) (l := #[false, false, false, false, false, false, false, false, false, false, false, false, false, false, false, false, false, false]) rfl rfl XM.drawn' ?_
                  refine XQ.pv (i := 0) (l' := #[true, false, false, false, false, false, false, false, false, false, false, false, false, false, false, false, false, false]) rfl (by kernel_rfl) rfl (V.move rfl) rfl rfl ?_
                  refine XQ.pv (i := 1) (l' := #[true, true, false, false, false, false, false, false, false, false, false, false, false, false, false, false, false, false]) rfl (by kernel_rfl) rfl (V.fieldAddr rfl fo_32_1) rfl rfl ?_
                  refine XQ.load (i := 2) (l' := #[true, true, true, false, false, false, false, false, false, false, false, false, false, false, false, false, false, false]) (.cells _ _ _ _) [7, 15, 16] rfl (by kernel_rfl) rfl .here (V.load rfl inEnt (encAct.ld_A _) sc_3) rfl (by kernel_rfl) rfl ?_
                  refine XQ.pv (i := 3) (l' := #[true, true, true, true, false, false, false, false, false, false, false, false, false, false, false, false, false, false]) rfl (by kernel_rfl) rfl (V.fieldAddr rfl fo_32_2) rfl rfl ?_
                  refine XQ.load (i := 4) (l' := #[true, true, true, true, true, false, false, false, false, false, false, false, false, false, false, false, false, false]) (.cells _ _ _ _) [7, 15, 16] rfl (by kernel_rfl) rfl .here (V.load rfl inEnt (encAct.ld_B _) sc_3) rfl (by kernel_rfl) rfl ?_
                  refine XQ.pv (i := 5) (l' := #[true, true, true, true, true, true, false, false, false, false, false, false, false, false, false, false, false, false]) rfl (by kernel_rfl) rfl (V.fieldAddr rfl fo_32_3) rfl rfl ?_
                  refine XQ.load (i := 6) (l' := #[true, true, true, true, true, true, true, false, false, false, false, false, false, false, false, false, false, false]) (.cells _ _ _ _) [7, 15, 16] rfl (by kernel_rfl) rfl .here (V.load rfl inEnt (encAct.ld_C _) sc_3) rfl (by kernel_rfl) rfl ?_
                  refine XQ.pv (i := 8) (l' := #[true, true, true, true, true, true, true, false, true, false, false, false, false, false, false, false, false, false]) rfl (by kernel_rfl) rfl (V.move rfl) rfl rfl ?_
                  refine XQ.pv (i := 9) (l' := #[true, true, true, true, true, true, true, false, true, true, false, false, false, false, false, false, false, false]) rfl (by kernel_rfl) rfl (V.fieldAddr rfl fo_32_1) rfl rfl ?_
                  refine XQ.load (i := 10) (l' := #[true, true, true, true, true, true, true, false, true, true, true, false, false, false, false, false, false, false]) (.cells _ _ _ _) [15, 16] rfl (by kernel_rfl) rfl .here (V.load rfl inEnt (encAct.ld_A _) sc_3) rfl (by kernel_rfl) rfl ?_
                  refine XQ.pv (i := 11) (l' := #[true, true, true, true, true, true, true, false, true, true, true, true, false, false, false, false, false, false]) rfl (by kernel_rfl) rfl (V.fieldAddr rfl fo_32_2) rfl rfl ?_
                  refine XQ.load (i := 12) (l' := #[true, true, true, true, true, true, true, false, true, true, true, true, true, false, false, false, false, false]) (.cells _ _ _ _) [15, 16] rfl (by kernel_rfl) rfl .here (V.load rfl inEnt (encAct.ld_B _) sc_3) rfl (by kernel_rfl) rfl ?_
                  refine XQ.pv (i := 13) (l' := #[true, true, true, true, true, true, true, false, true, true, true, true, true, true, false, false, false, false]) rfl (by kernel_rfl) rfl (V.fieldAddr rfl fo_32_3) rfl rfl ?_
                  refine XQ.load (i := 14) (l' := #[true, true, true, true, true, true, true, false, true, true, true, true, true, true, true, false, false, false]) (.cells _ _ _ _) [15, 16] rfl (by kernel_rfl) rfl .here (V.load rfl inEnt (encAct.ld_C _) sc_3) rfl (by kernel_rfl) rfl ?_
                  refine XQ.call (i := 7) (l' := #[true, true, true, true, true, true, true, true, true, true, true, true, true, true, true, false, false, false]) rfl (by kernel_rfl) rfl rfl (f_quota _ _ s d hO.inv hR _ _ _) (.cons (.there .here) (.cons (.there .here) .nil)) cl_20 rfl (by rintro _ _ ⟨rfl, t, tl, tR, rfl⟩; all_goals (intro _ hw'; exact ⟨fun _ => inXM (.there (.there .here)) _ hw', fun _ => inXM (.there (.there .here)) _ hw', fun _ => inXM (.there (.there .here)) _ hw', fun hs => (hs 7 (by simp) rfl).elim, fun hs => (hs 7 (by simp) rfl).elim, fun hs => (hs 7 (by simp) rfl).elim, trivial⟩)) ?_
                  rintro _ _ ⟨rfl, t, tl, tR, rfl⟩
                  refine XQ.call (i := 15) (l' := #[true, true, true, true, true, true, true, true, true, true, true, true, true, true, true, true, false, false]) rfl (by kernel_rfl) rfl rfl (r_Quota _ _ _ d hO.inv _ _ _) (.cons (.there (.there (.there .here))) .nil) cl_32 rfl (by rintro _ _ ⟨rfl, rfl⟩; all_goals (intro _ hw'; exact ⟨fun hs => (hs 15 (by simp) rfl).elim, fun hs => (hs 15 (by simp) rfl).elim, fun hs => (hs 15 (by simp) rfl).elim, fun hs => (hs 7 (by simp) rfl).elim, fun hs => (hs 7 (by simp) rfl).elim, fun hs => (hs 7 (by simp) rfl).elim, trivial⟩)) ?_
                  rintro _ _ ⟨rfl, rfl⟩
                  refine XQ.call (i := 16) (l' := #[true, true, true, true, true, true, true, true, true, true, true, true, true, true, true, true, true, false]) rfl (by kernel_rfl) rfl rfl (same_any _ _ (SF.quoE_nn _ _ _ _)) .nil cl_15 rfl (by rintro _ _ ⟨rfl, rfl⟩; all_goals (intro _ hw'; exact ⟨fun hs => (hs 15 (by simp) rfl).elim, fun hs => (hs 15 (by simp) rfl).elim, fun hs => (hs 15 (by simp) rfl).elim, fun hs => (hs 7 (by simp) rfl).elim, fun hs => (hs 7 (by simp) rfl).elim, fun hs => (hs 7 (by simp) rfl).elim, trivial⟩)) ?_
                  rintro _ _ ⟨rfl, rfl⟩
                  refine XQ.pv (i := 17) (l' := #[true, true, true, true, true, true, true, true, true, true, true, true, true, true, true, true, true, true]) rfl (by kernel_rfl) rfl (V.assign rfl) rfl rfl ?_
                  refine XQ.done (by kernel_rfl) ?_
                  refine XE.next ?_
                  refine XC.keep [(6, _)] (Sub.cons rfl (Sub.nil _)) ?_
                  refine XC.ret ?_
                  refine XE.blockRet ?_
                  refine XE.thenRet ?_
                  refine XE.ret1 rfl rfl (post_of (.cons (.there .here) (.cons (.there .here) (.cons .here .nil))) rfl ?_)
                  exact ⟨congrArg Value.bool (decide_eq_true rfl), t, _, tR, by rw [tl]; exact (hO.setQ hT.1 _ _ _).mono (by omega) (by omega), by rw [tl]⟩
                · skip
                  refine XC.skip ?_
                  refine XE.blockNormal ?_
                  refine XE.next ?_
                  refine XC.keep [(0, _), (1, _), (5, _)] (Sub.cons rfl (Sub.cons rfl (Sub.cons rfl (Sub.nil _)))) ?_
                  refine XC.seq ?_
                  refine XC.seq ?_
                  refine XC.region ?_
                  refine XO.v (V.assign rfl) rfl ?_
                  refine XO.nil ?_
                  refine XE.next ?_
                  refine XC.keep [(0, _), (1, _), (5, _), (7, _)] (Sub.cons rfl (Sub.cons rfl (Sub.cons rfl (Sub.cons rfl (Sub.nil _))))) ?_
                  refine XC.block ?_
                  refine XC.loop (σ := SC × Int) (fun y => (50 - y.2).toNat) (fun y => y.1.Rep ∧ y.1.toSF.Ok d m (T + y.2) ∧ 0 ≤ y.2 ∧ y.2 ≤ 50) (fun y => [(7, .int .i64 y.2), (0, ptr bs 0 0), (1, ptr bm 0 0), (5, ptr ba 0 0)]) (fun y => XM W (foot [.cells bs 0 2281 (encS s), .fam fam30 (SC.rows 86 s), .cells bm 0 361 (encR (SC.toSF s))]) [.cells bs 0 2281 (encS y.1), .fam fam30 (SC.rows 86 y.1), .cells bm 0 361 (encR (SC.toSF y.1)), .cells ba 0 8 (encAct a)]) ((s, 0)) ?_ (Sub.cons rfl (Sub.cons rfl (Sub.cons rfl (Sub.cons rfl (Sub.nil _))))) (fun _ hw => XM.pick (.cons (.there .here) (.cons (.there .here) (.cons (.there .here) (.cons .here .nil)))) hw) ?_
                  · skip
                    exact ⟨hR, hO.mono (Nat.le_refl _) (by simp), by simp, by simp⟩
                  intro y hy
                  obtain ⟨yR, yO, y0, y1⟩ := hy
                  refine XC.seq ?_
                  refine XC.seq ?_
                  refine XC.region ?_
                  refine XO.v (V.move rfl) rfl ?_
                  refine XO.v (V.fieldAddr rfl fo_32_2) rfl ?_
                  refine XO.v (V.load rfl (inXM (.there (.there (.there .here)))) (encAct.ld_B _) sc_3) rfl ?_
                  refine XO.v (V.min2 rfl rfl) rfl ?_
                  refine XO.v (V.cmp rfl rfl rfl) rfl ?_
                  refine XO.nil ?_
                  refine XE.next ?_
                  refine XC.keep [(0, _), (1, _), (5, _), (7, _), (140, _)] (Sub.cons rfl (Sub.cons rfl (Sub.cons rfl (Sub.cons rfl (Sub.cons rfl (Sub.nil _)))))) ?_
                  refine XC.condP rfl (fun h9 => ?_) (fun h9 => ?_)
                  · skip
                    refine XC.skip ?_
                    refine XE.next ?_
                    refine XC.keep [(0, _), (1, _), (5, _), (7, _)] (Sub.cons rfl (Sub.cons rfl (Sub.cons rfl (Sub.cons rfl (Sub.nil _))))) ?_
                    refine XC.seq ?_
                    refine XC.block ?_
                    refine XC.seq ?_
                    refine XC.region ?_
                    refine XO.v (V.move rfl) rfl ?_
                    refine XO.call rfl (f_Tick _ _ y.1 d yO.inv yR (fun n a b => by have := yO.dep n a b; omega) (2000000000 * (T + y.2)) ⟨by omega, by omega⟩ yO.small ⟨yO.now.1, by have := yO.now; omega⟩ (yO.tick0 (by omega)).set) (.cons .here (.cons .here .nil)) cl_18 rfl ?_
                    rintro _ _ ⟨rfl, t, tl, tR, rfl⟩
                    refine XO.v (V.assign rfl) rfl ?_
                    refine XO.nil ?_
                    refine XE.next ?_
                    refine XC.keep [(0, _), (1, _), (5, _), (7, _), (8, _)] (Sub.cons rfl (Sub.cons rfl (Sub.cons rfl (Sub.cons rfl (Sub.cons rfl (Sub.nil _)))))) ?_
                    refine XC.seq ?_
                    refine XC.region ?_
                    refine XO.v (V.move rfl) rfl ?_
                    refine XO.call rfl (r_Tick _ _ _ d yO.inv (fun n a b => by have := yO.dep n a b; omega) (2000000000 * (T + y.2)) ⟨by omega, by omega⟩ yO.small ⟨yO.now.1, by have := yO.now; omega⟩) (.cons (.there (.there .here)) .nil) cl_33 rfl ?_
                    rintro _ _ ⟨rfl, rfl⟩
                    refine XO.v (V.assign rfl) rfl ?_
                    refine XO.nil ?_
                    refine XE.next ?_
                    refine XC.keep [(0, _), (1, _), (5, _), (7, _), (8, _), (9, _)] (Sub.cons rfl (Sub.cons rfl (Sub.cons rfl (Sub.cons rfl (Sub.cons rfl (Sub.cons rfl (Sub.nil _))))))) ?_
                    refine XC.seq ?_
                    refine XC.region ?_
                    refine XO.v (V.move rfl) rfl ?_
                    refine XO.v (V.move rfl) rfl ?_
                    refine XO.v (V.cmp rfl rfl rfl) rfl ?_
                    refine XO.nil ?_
                    refine XE.next ?_
                    refine XC.keep [(0, _), (1, _), (5, _), (7, _), (149, _)] (Sub.cons rfl (Sub.cons rfl (Sub.cons rfl (Sub.cons rfl (Sub.cons rfl (Sub.nil _)))))) ?_
                    refine XC.condFP rfl (by simp) ?_
                    refine XC.skip ?_
                    refine XE.blockNormal ?_
                    refine XE.next ?_
                    refine XC.keep [(0, _), (1, _), (5, _), (7, _)] (Sub.cons rfl (Sub.cons rfl (Sub.cons rfl (Sub.cons rfl (Sub.nil _))))) ?_
                    refine XC.region ?_
                    refine XO.v (V.move rfl) rfl ?_
                    refine XO.v (V.add rfl rfl _ (IntWalk.i64_in _ (by omega))) rfl ?_
                    refine XO.v (V.assign rfl) rfl ?_
                    refine XO.nil ?_
                    refine XE.again ((t, y.2 + 1)) ?_ ?_ (Sub.cons rfl (Sub.cons rfl (Sub.cons rfl (Sub.cons rfl (Sub.nil _))))) (fun _ hw => by rw [show (t, y.2 + 1).1.toSF = _ from tl]; exact XM.pick (.cons (.there .here) (.cons (.there .here) (.cons .here (.cons .here .nil)))) hw)
                    · skip
                      (simp; omega)
                    · skip
                      refine ⟨tR, ?_, by simp; omega, by simp; omega⟩
                      show t.toSF.Ok d m (T + (y.2 + 1))
                      rw [tl, show T + (y.2 + 1) = T + y.2 + 1 by omega]
                      exact yO.tick (by omega) hm
                  · skip
                    refine XC.exit ?_
                    refine XE.thenExit ?_
                    refine XE.thenExit ?_
                    refine XE.blockExit ?_
                    refine XE.next ?_
                    refine XC.keep [] (Sub.nil _) ?_
                    refine XC.seq ?_
                    refine XC.region ?_
                    refine XO.v (V.assign rfl) rfl ?_
                    refine XO.nil ?_
                    refine XE.next ?_
                    refine XC.keep [(6, _)] (Sub.cons rfl (Sub.nil _)) ?_
                    refine XC.ret ?_
                    refine XE.ret1 rfl rfl (post_of (.cons .here (.cons .here (.cons .here .nil))) rfl ?_)
                    exact ⟨rfl, y.1, d, yR, yO.mono (by omega) (by omega), rfl⟩
end Go.X
