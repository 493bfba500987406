import Derived.Test.YthdinakloheinaaGreatDoorkKW4
import Derived.Test.YthdinakloheinaaGreatDoorkGPl
import Derived.Test.YthdinakloheinaaGreatDoorKB
import Derived.Test.YthdinakloheinaaGreatDoorXClose
namespace Go.X.Kn
open Go Go.Proofs Go.X
set_option maxRecDepth 20000
set_option maxHeartbeats 4000000
theorem ag_83 : aggT Tryz.prog 83 = true := by kernel_rfl
theorem ag_87 : aggT Tryz.prog 87 = true := by kernel_rfl
theorem cl_57 : callable Tryz.prog 57 = true := by kernel_rfl
theorem cl_58 : callable Tryz.prog 58 = true := by kernel_rfl
theorem fo_89_2 : fieldOff Tryz.prog 89 2 = some 2 := by kernel_rfl
theorem fo_89_4 : fieldOff Tryz.prog 89 4 = some 4 := by kernel_rfl
theorem fo_89_5 : fieldOff Tryz.prog 89 5 = some 5 := by kernel_rfl
theorem fo_89_6 : fieldOff Tryz.prog 89 6 = some 11 := by kernel_rfl
theorem sc_82 : scal Tryz.prog 82 = true := by kernel_rfl
theorem sz_83_6 : szOf Tryz.prog 83 = some 6 := by kernel_rfl
theorem sz_87_11 : szOf Tryz.prog 87 = some 11 := by kernel_rfl
theorem sz_89_22 : szOf Tryz.prog 89 = some 22 := by kernel_rfl
theorem kid_build (n g : Int) (nb : Nat) (f : Int → Int) (b : Sg.BS) : ∀ w, (Instr.build 89 #[(0, .int .i64 1), (1, .int .i64 n), (2, .int .i64 g), (4, ptr nb 0 0), (5, .agg (fdA f)), (6, .agg (bxA b))]).run Tryz.prog w = .ok (.agg (PU.arr ⟨1, n, g, 0, ptr nb 0 0, f, b⟩)) w := fun w => by kernel_rfl
set_option maxHeartbeats 16000000 in
theorem k_ForkK (kb : Nat) (k : KP) (mb : Nat → Nat) (hK : Kid k mb) (n : Int) (g : Gr.TG) (hO : g.Ok) (Bd : Int) (hB : 0 ≤ Bd ∧ Bd ≤ 1000000000000) (hS : g.Small Bd) (s : Sp.SS) (dep : Int → Nat) (hI : s.Inv dep) (q : Fa.SC) (d : Int → Nat) (mq : Nat) (T : Int) (hT : 0 ≤ T) (hQ : q.toSF.Ok d mq T) (hR : q.Rep) (vp : Nat) (ps : Nat → Option Addr) (cs : Nat → Nat) (hz : ∀ t, (s.in_ t).1 = 0) : Spec Tryz.prog 14 [ptr kb 0 0, .int .i64 n, .bool false]
 [.cells kb 0 453 (encKn k), .cells k.gb 0 60 (Gr.encGt g), .cells k.sb 0 158 (Sp.encT s), .cells k.qb 0 2281 (Fa.encS q), .fam Fa.fam30 (Fa.SC.rows 254 q), .cells k.bb 0 577 (Vm.encK vp Vm.VB.init.by_ Vm.VB.init.rf), .cells vp 0 71 (Vm.encP Vm.VB.init.bb.pool), .cfam (lv k) mb 34 (cN k.bb (fun _ => Vm.MS.nil) ps cs), .fam (lv k) (rN 171 (fun _ => Vm.MS.nil) ps cs)]
 (fun v H1 => (∃ e : Int, e ≠ 0 ∧ v = .tuple #[.int .i64 0, .iface 102 (.int .i64 e)] ∧ ∃ g1 : Gr.TG, (g1 = g ∨ g1 = (g.charge (k.u n).grp 1 Vm.MS.nil.res)) ∧ H1 = [.cells kb 0 453 (encKn k), .cells k.gb 0 60 (Gr.encGt g1), .cells k.sb 0 158 (Sp.encT s), .cells k.qb 0 2281 (Fa.encS q), .fam Fa.fam30 (Fa.SC.rows 254 q), .cells k.bb 0 577 (Vm.encK vp Vm.VB.init.by_ Vm.VB.init.rf), .cells vp 0 71 (Vm.encP Vm.VB.init.bb.pool), .cfam (lv k) mb 34 (cN k.bb (fun _ => Vm.MS.nil) ps cs), .fam (lv k) (rN 171 (fun _ => Vm.MS.nil) ps cs)]) ∨ (k.live n = 0 ∧ ∃ c : Int, (0 ≤ c ∧ c < 20) ∧ (k.u c).st = 0 ∧ v = .tuple #[.int .i64 ((s.enter dep 0 c).2.2.pid c 0).1, errv 102 ((s.enter dep 0 c).2.2.pid c 0).2] ∧ ∃ (q2 : Fa.SC) (d2 : Int → Nat), q2.toSF.Ok d2 (mq + 1) T ∧ q2.Rep ∧ ∃ nb p1 c1, H1 = [.cells kb 0 453 (encKn (k.put c (k.kid n nb))), .cells k.gb 0 60 (Gr.encGt (g.charge (k.u n).grp 1 Vm.MS.nil.res)), .cells k.sb 0 158 (Sp.encT (s.enter dep 0 c).2.2), .cells k.qb 0 2281 (Fa.encS q2), .fam Fa.fam30 (Fa.SC.rows 254 q2), .cells k.bb 0 577 (Vm.encK vp (Vm.VB.init.fork Vm.MS.nil).by_ (Vm.VB.init.fork Vm.MS.nil).rf), .cells vp 0 71 (Vm.encP (Vm.VB.init.fork Vm.MS.nil).bb.pool), .cfam (inP (lv k) c.toNat) (fupd mb c.toNat nb) 34 (cN k.bb (fun _ => Vm.MS.nil) (fupd (fupd ps n.toNat (ps n.toNat)) c.toNat p1) (fupd (fupd cs n.toNat (cs n.toNat)) c.toNat c1)), .fam (inP (lv k) c.toNat) (rN 171 (fun _ => Vm.MS.nil) (fupd (fupd ps n.toNat (ps n.toNat)) c.toNat p1) (fupd (fupd cs n.toNat (cs n.toNat)) c.toNat c1))])) := by
  refine Spec.go 177 [0, 1, 2, 6, 7, 8, 9, 10, 11, 12, 13, 14, 16, 24, 37, 41, 59, 65, 132, 133, 134, 137] [(22, 0)] Tryz.func14 rfl rfl rfl ?_
  intro W
  refine ca (k_live kb _ _) .h1 ?_
  rintro _ _ ⟨⟨hl, rfl⟩ | ⟨hl, rfl⟩, rfl⟩
  · skip
    try dsimp only [errvL0, errvL1, errvL2, errvL3, errvL4, errvL5, errvL6, errvL7, errvL8, errvL9, errvL10, errvL11, errvL12, errvL13]
    obtain ⟨hlr, hls⟩ := KP.live_rng hl
    have hmem := hK.mem n hlr.1 hlr.2 (by omega)
    refine gO ?_
    refine lp (σ := Int) (fun c => (20 - c).toNat) (fun c => 0 ≤ c ∧ c ≤ 20) (fun c => [(10, .int .i64 c), (0, ptr kb 0 0), (1, .int .i64 n), (2, .bool false), (8, ptr kb 0 (0 + 0 + n.toNat * 22))]) (fun c => XM W (foot [.cells kb 0 453 (encKn k), .cells k.gb 0 60 (Gr.encGt g), .cells k.sb 0 158 (Sp.encT s), .cells k.qb 0 2281 (Fa.encS q), .fam Fa.fam30 (Fa.SC.rows 254 q), .cells k.bb 0 577 (Vm.encK vp Vm.VB.init.by_ Vm.VB.init.rf), .cells vp 0 71 (Vm.encP Vm.VB.init.bb.pool), .cfam (lv k) mb 34 (cN k.bb (fun _ => Vm.MS.nil) ps cs), .fam (lv k) (rN 171 (fun _ => Vm.MS.nil) ps cs)]) [.cells kb 0 453 (encKn k), .cells k.gb 0 60 (Gr.encGt g), .cells k.sb 0 158 (Sp.encT s), .cells k.qb 0 2281 (Fa.encS q), .fam Fa.fam30 (Fa.SC.rows 254 q), .cells k.bb 0 577 (Vm.encK vp Vm.VB.init.by_ Vm.VB.init.rf), .cells vp 0 71 (Vm.encP Vm.VB.init.bb.pool), .cfam (lv k) mb 34 (cN k.bb (fun _ => Vm.MS.nil) ps cs), .fam (lv k) (rN 171 (fun _ => Vm.MS.nil) ps cs)]) (0) ?_ (S5 rfl rfl rfl rfl rfl) (fun _ hw => XM.pick .h9 hw) ?_
    · skip
      omega
    intro c hc
    refine gC ?_
    refine sp 28 rfl ?_ ?_ <;> intro h1
    · skip
      refine sd (by omega) ?_
      refine ld .here (encKn.ld_st _ (by omega)) ?_
      refine cd rfl ?_ ?_ <;> intro h2
      · skip
        refine sd (by omega) ?_
        refine ag (c + 1) ?_ ?_ (S5 rfl rfl rfl rfl rfl) (fun _ hw => XM.pick .h9 hw)
        · skip
          (first | omega | (simp; done) | (simp; omega))
        · skip
          (first | omega | (simp; done) | (simp; omega))
      · skip
        have hc0 : (k.u c).st = 0 := by omega
        refine cdF rfl (by omega) ?_
        refine XR.mono (fun _ hw3 => XM.outM (z := n.toNat) (lv_at hlr (by omega)) (.cons (.t7 .here) (.cons (.t7 .here) .nil)) hw3) ?_
        refine ld (.t4 .here) (encKn.ld_memP _ (by omega) hmem) ?_
        refine ca (Vm.v_Resident k.bb _ _ _ Vm.MS.nil Vm.MS.Ok.nil) .h1 ?_
        rintro _ _ ⟨rfl, rfl⟩
        refine gO ?_
        refine rq [0, 1, 2, 3, 4, 5, 6, 7, 8, 9, 10] mixed (by kernel_rfl) ?_
        refine ld (.t4 .here) (encKn.ld_g _) ?_
        refine ld (.t4 .here) (encKn.ld_grp _ (by omega)) ?_
        refine ca (Gr.g_charge _ _ g hO _ _ _ Bd hB hS) (.cons (.t5 .here) .nil) ?_
        rintro _ _ ⟨rfl, rfl⟩
        refine gO ?_
        refine cd rfl ?_ ?_ <;> intro h3
        · skip
          have hge := h3
          refine XR.mono (fun _ hw3 => XM.sameM (f := fun _ => Vm.MS.nil) (z := n.toNat) (ps := ps) (cs := cs) (mb := mb) (lv_at hlr (by omega)) (.cons (.there .here) (.cons (.there .here) (.cons (.there .here) (.cons (.there .here) .nil)))) hw3) ?_
          refine XE.ret2 rfl rfl rfl (post_of (.cons (.t3 .here) (.cons (.t2 .here) (.cons (.t2 .here) (.cons (.t2 .here) (.cons (.t2 .here) (.cons (.t2 .here) (.cons (.t2 .here) .h2))))))) rfl ?_)
          try dsimp only [SW.den, SV.den, dens, ofC]
          rw [errv_pos _ hge]; exact .inl ⟨_, hge, rfl, _, .inr rfl, rfl⟩
        · skip
          refine ca (k_space kb _ s _) (.cons (.t5 .here) (.cons (.t5 .here) .nil)) ?_
          rintro _ _ ⟨rfl, rfl⟩
          rw [hz]
          refine gO ?_
          refine ld .here (encKn.ld_s _) ?_
          refine ca (Sp.t_Enter _ _ s dep hI.D 0 c) (.cons (.there .here) .nil) ?_
          rintro _ _ ⟨rfl, rfl⟩
          refine gO ?_
          refine ctG (σ := Nat × Nat × Option Addr × Nat) (fun _ => True) (fun y => [(0, ptr kb 0 0), (8, ptr kb 0 (0 + 0 + n.toNat * 22)), (10, .int .i64 c), (12, .int .i64 0), (14, ptr y.2.1 0 0)]) (fun y => XM W (foot [.cells kb 0 453 (encKn k), .cells k.gb 0 60 (Gr.encGt g), .cells k.sb 0 158 (Sp.encT s), .cells k.qb 0 2281 (Fa.encS q), .fam Fa.fam30 (Fa.SC.rows 254 q), .cells k.bb 0 577 (Vm.encK vp Vm.VB.init.by_ Vm.VB.init.rf), .cells vp 0 71 (Vm.encP Vm.VB.init.bb.pool), .cfam (lv k) mb 34 (cN k.bb (fun _ => Vm.MS.nil) ps cs), .fam (lv k) (rN 171 (fun _ => Vm.MS.nil) ps cs)]) [.cells kb 0 453 (encKn k), .cells k.gb 0 60 (Gr.encGt (g.charge (k.u n).grp 1 Vm.MS.nil.res)), .cells k.sb 0 158 (Sp.encT (s.enter dep 0 c).2.2), .cells k.qb 0 2281 (Fa.encS q), .fam Fa.fam30 (Fa.SC.rows 254 q), .cells k.bb 0 577 (Vm.encK vp (Vm.VB.init.fork Vm.MS.nil).by_ (Vm.VB.init.fork Vm.MS.nil).rf), .cells vp 0 71 (Vm.encP (Vm.VB.init.fork Vm.MS.nil).bb.pool), .cells (mb n.toNat) 0 34 (Vm.encN k.bb (ps n.toNat) (Vm.runs Vm.MS.nil.is_).length (cs n.toNat) Vm.MS.nil.fr (fun _ => false)), frow (ps n.toNat) (cs n.toNat) 171 3 (Vm.runs Vm.MS.nil.is_).length (Vm.rgC (Vm.runs Vm.MS.nil.is_)), .cells y.1 0 34 (Vm.encN k.bb y.2.2.1 (Vm.runs Vm.MS.nil.is_).length y.2.2.2 Vm.MS.nil.fr (fun _ => false)), frow y.2.2.1 y.2.2.2 171 3 (Vm.runs Vm.MS.nil.is_).length (Vm.rgC (Vm.runs Vm.MS.nil.is_)), .cfam (outP (lv k) n.toNat) mb 34 (cN k.bb (fun _ => Vm.MS.nil) ps cs), .fam (outP (lv k) n.toNat) (rN 171 (fun _ => Vm.MS.nil) ps cs), .cells y.2.1 0 22 ((k.kid n y.1).cell)]) ?_ ?_
          · skip
            refine XC.regionQ mixed (f := 23) (l := #[false, false, false, false, false, false, false, false, false, false, false, false, false, false, false, false, false, false, false, false, false, false, false]) rfl rfl XM.drawn' ?_
            refine XQ.pv (i := 0) (l' := #[true, false, false, false, false, false, false, false, false, false, false, false, false, false, false, false, false, false, false, false, false, false, false]) rfl (by kernel_rfl) rfl (V.move rfl) rfl rfl ?_
            refine XQ.pv (i := 1) (l' := #[true, true, false, false, false, false, false, false, false, false, false, false, false, false, false, false, false, false, false, false, false, false, false]) rfl (by kernel_rfl) rfl (V.move rfl) rfl rfl ?_
            refine XQ.pv (i := 2) (l' := #[true, true, true, false, false, false, false, false, false, false, false, false, false, false, false, false, false, false, false, false, false, false, false]) rfl (by kernel_rfl) rfl (V.nilCheckP rfl) rfl rfl ?_
            refine XQ.pv (i := 3) (l' := #[true, true, true, true, false, false, false, false, false, false, false, false, false, false, false, false, false, false, false, false, false, false, false]) rfl (by kernel_rfl) rfl (V.fieldAddr rfl fo_89_2) rfl rfl ?_
            refine XQ.load (i := 4) (l' := #[true, true, true, true, true, false, false, false, false, false, false, false, false, false, false, false, false, false, false, false, false, false, false]) (.cells _ _ _ _) [22] rfl (by kernel_rfl) rfl (.there .here) (V.load rfl inEnt (encKn.ld_grp _ (by omega)) sc_3) rfl (by kernel_rfl) rfl ?_
            refine XQ.pv (i := 5) (l' := #[true, true, true, true, true, true, false, false, false, false, false, false, false, false, false, false, false, false, false, false, false, false, false]) rfl (by kernel_rfl) rfl (V.move rfl) rfl rfl ?_
            refine XQ.pv (i := 6) (l' := #[true, true, true, true, true, true, true, false, false, false, false, false, false, false, false, false, false, false, false, false, false, false, false]) rfl (by kernel_rfl) rfl (V.nilCheckP rfl) rfl rfl ?_
            refine XQ.pv (i := 7) (l' := #[true, true, true, true, true, true, true, true, false, false, false, false, false, false, false, false, false, false, false, false, false, false, false]) rfl (by kernel_rfl) rfl (V.fieldAddr rfl fo_89_4) rfl rfl ?_
            refine XQ.load (i := 8) (l' := #[true, true, true, true, true, true, true, true, true, false, false, false, false, false, false, false, false, false, false, false, false, false, false]) (.cells _ _ _ _) [9, 17, 22] rfl (by kernel_rfl) rfl (.there .here) (V.load rfl inEnt (encKn.ld_memP _ (by omega) hmem) sc_82) rfl (by kernel_rfl) rfl ?_
            refine XQ.pv (i := 10) (l' := #[true, true, true, true, true, true, true, true, true, false, true, false, false, false, false, false, false, false, false, false, false, false, false]) rfl (by kernel_rfl) rfl (V.move rfl) rfl rfl ?_
            refine XQ.pv (i := 11) (l' := #[true, true, true, true, true, true, true, true, true, false, true, true, false, false, false, false, false, false, false, false, false, false, false]) rfl (by kernel_rfl) rfl (V.nilCheckP rfl) rfl rfl ?_
            refine XQ.pv (i := 12) (l' := #[true, true, true, true, true, true, true, true, true, false, true, true, true, false, false, false, false, false, false, false, false, false, false]) rfl (by kernel_rfl) rfl (V.fieldAddr rfl fo_89_5) rfl rfl ?_
            refine XQ.load (i := 13) (l' := #[true, true, true, true, true, true, true, true, true, false, true, true, true, true, false, false, false, false, false, false, false, false, false]) (.cells _ _ _ _) [22] rfl (by kernel_rfl) rfl (.there .here) (V.loadAgg rfl inEnt (encKn.ld_fds _ (by omega)) ag_83 sz_83_6) rfl (by kernel_rfl) rfl ?_
            refine XQ.pv (i := 14) (l' := #[true, true, true, true, true, true, true, true, true, false, true, true, true, true, true, false, false, false, false, false, false, false, false]) rfl (by kernel_rfl) rfl (V.move rfl) rfl rfl ?_
            refine XQ.pv (i := 15) (l' := #[true, true, true, true, true, true, true, true, true, false, true, true, true, true, true, true, false, false, false, false, false, false, false]) rfl (by kernel_rfl) rfl (V.nilCheckP rfl) rfl rfl ?_
            refine XQ.pv (i := 16) (l' := #[true, true, true, true, true, true, true, true, true, false, true, true, true, true, true, true, true, false, false, false, false, false, false]) rfl (by kernel_rfl) rfl (V.fieldAddr rfl fo_89_6) rfl rfl ?_
            refine XQ.fork (i := 9) (j := 21) (by kernel_rfl) ?_ ?_
            · skip
              refine XS.call (i := 9) (l' := #[true, true, true, true, true, true, true, true, true, true, true, true, true, true, true, true, true, false, false, false, false, false, false]) rfl rfl rfl (Vm.v_Fork k.bb vp _ Vm.VB.init Vm.VB.Ok.init _ _ Vm.MS.nil Vm.MS.Ok.nil) (.cons (.t9 .here) (.cons (.t3 .here) (.cons (.t3 .here) .nil))) cl_57 rfl (by rintro _ _ ⟨nb, p1, c1, rfl, rfl⟩; all_goals (intro _ hw'; exact ⟨fun _ => inXM (.t6 .here) _ hw', fun hs => (hs 9 (by first | (simp; done) | (simp; rfl)) rfl).elim, fun _ => inXM (.t6 .here) _ hw', trivial⟩)) ?_
              rintro _ _ ⟨nb, p1, c1, rfl, rfl⟩
              refine XQ.fork (i := 17) (j := 21) (by kernel_rfl) ?_ ?_
              · skip
                refine XS.call (i := 17) (l' := #[true, true, true, true, true, true, true, true, true, true, true, true, true, true, true, true, true, true, false, false, false, false, false]) rfl rfl rfl (k_Child kb k n hlr) (.cons (.t6 .here) .nil) cl_58 rfl (by rintro _ _ ⟨bc, rfl, rfl⟩; all_goals (intro _ hw'; exact ⟨fun _ => inXM (.there .here) _ hw', fun hs => (hs 9 (by first | (simp; done) | (simp; rfl)) rfl).elim, fun _ => inXM (.there .here) _ hw', trivial⟩)) ?_
                rintro _ _ ⟨bc, rfl, rfl⟩
                refine XQ.pv (i := 18) (l' := #[true, true, true, true, true, true, true, true, true, true, true, true, true, true, true, true, true, true, true, false, false, false, false]) rfl (by kernel_rfl) rfl (V.nilCheckP rfl) rfl rfl ?_
                refine XQ.load (i := 19) (l' := #[true, true, true, true, true, true, true, true, true, true, true, true, true, true, true, true, true, true, true, true, false, false, false]) (.cells _ _ _ _) [22] rfl (by kernel_rfl) rfl .here (V.loadAgg rfl inEnt (Sg.encB_load _) ag_87 sz_87_11) rfl (by kernel_rfl) rfl ?_
                refine XQ.pv (i := 20) (l' := #[true, true, true, true, true, true, true, true, true, true, true, true, true, true, true, true, true, true, true, true, true, false, false]) rfl (by kernel_rfl) rfl (V.build (vs := #[(0, .int .i64 1), (1, .int .i64 n), (2, .int .i64 (k.u n).grp), (4, ptr nb 0 0), (5, .agg (fdA (k.u n).fd)), (6, .agg (bxA (k.u n).bx.child))]) rfl (v := .agg (k.kid n nb).arr) (kid_build n _ nb _ _)) rfl rfl ?_
                refine XQ.allocZ (i := 21) (l' := #[true, true, true, true, true, true, true, true, true, true, true, true, true, true, true, true, true, true, true, true, true, true, false]) (z := (.agg PU.nil.arr)) (m := 22) (C := PU.nil.cell) rfl (by kernel_rfl) rfl (by kernel_rfl) rfl (PU.box PU.nil) rfl (fun _ _ hw' => ⟨fun _ => inXM (.there .here) _ hw', fun _ => inXM (.t2 .here) _ hw', fun hs => (hs 9 (by first | (simp; done) | (simp; rfl)) rfl).elim, fun _ => inXM (.t2 .here) _ hw', trivial⟩) ?_
                intro ba
                refine XQ.storeAgg (i := 22) (l' := #[true, true, true, true, true, true, true, true, true, true, true, true, true, true, true, true, true, true, true, true, true, true, true]) rfl (by kernel_rfl) rfl rfl rfl .here (PU.put_ _ _) ⟨rfl, rfl⟩ sz_89_22 (fun _ hw' => ⟨fun hs => (hs 22 (by first | (simp; done) | (simp; rfl)) rfl).elim, fun hs => (hs 22 (by first | (simp; done) | (simp; rfl)) rfl).elim, fun hs => (hs 9 (by first | (simp; done) | (simp; rfl)) rfl).elim, fun hs => (hs 22 (by first | (simp; done) | (simp; rfl)) rfl).elim, trivial⟩) ?_
                refine XQ.done (by kernel_rfl) ?_
                refine gE ?_
                refine mtG ((nb, ba, p1, c1)) ?_ (S5 rfl rfl rfl rfl rfl) (fun _ hw => XM.pick (.cons (.t2 .here) (.cons (.t8 .here) (.cons (.t7 .here) (.cons (.t9 .here) (.cons (.t9 .here) (.cons (.t2 .here) (.cons (.t8 .here) (.cons (.t2 .here) (.cons (.t2 .here) (.cons (.t2 .here) (.cons (.t2 .here) (.cons (.t2 .here) (.cons (.t2 .here) .h1))))))))))))) hw)
                trivial
              · skip
                refine XS.allocZ (i := 21) (l' := #[true, true, true, true, true, true, true, true, true, true, true, true, true, true, true, true, true, false, false, false, false, true, false]) (z := (.agg PU.nil.arr)) (m := 22) (C := PU.nil.cell) rfl rfl (by kernel_rfl) rfl (PU.box PU.nil) rfl (fun _ _ hw' => ⟨fun _ => inXM (.t7 .here) _ hw', fun hs => (hs 9 (by first | (simp; done) | (simp; rfl)) rfl).elim, fun _ => inXM (.t7 .here) _ hw', trivial⟩) ?_
                intro ba
                refine XQ.call (i := 17) (l' := #[true, true, true, true, true, true, true, true, true, true, true, true, true, true, true, true, true, true, false, false, false, true, false]) rfl (by kernel_rfl) rfl rfl (k_Child kb k n hlr) (.cons (.t7 .here) .nil) cl_58 rfl (by rintro _ _ ⟨bc, rfl, rfl⟩; all_goals (intro _ hw'; exact ⟨fun _ => inXM (.there .here) _ hw', fun hs => (hs 9 (by first | (simp; done) | (simp; rfl)) rfl).elim, fun _ => inXM (.there .here) _ hw', trivial⟩)) ?_
                rintro _ _ ⟨bc, rfl, rfl⟩
                refine XQ.pv (i := 18) (l' := #[true, true, true, true, true, true, true, true, true, true, true, true, true, true, true, true, true, true, true, false, false, true, false]) rfl (by kernel_rfl) rfl (V.nilCheckP rfl) rfl rfl ?_
                refine XQ.load (i := 19) (l' := #[true, true, true, true, true, true, true, true, true, true, true, true, true, true, true, true, true, true, true, true, false, true, false]) (.cells _ _ _ _) [22] rfl (by kernel_rfl) rfl .here (V.loadAgg rfl inEnt (Sg.encB_load _) ag_87 sz_87_11) rfl (by kernel_rfl) rfl ?_
                refine XQ.pv (i := 20) (l' := #[true, true, true, true, true, true, true, true, true, true, true, true, true, true, true, true, true, true, true, true, true, true, false]) rfl (by kernel_rfl) rfl (V.build (vs := #[(0, .int .i64 1), (1, .int .i64 n), (2, .int .i64 (k.u n).grp), (4, ptr nb 0 0), (5, .agg (fdA (k.u n).fd)), (6, .agg (bxA (k.u n).bx.child))]) rfl (v := .agg (k.kid n nb).arr) (kid_build n _ nb _ _)) rfl rfl ?_
                refine XQ.storeAgg (i := 22) (l' := #[true, true, true, true, true, true, true, true, true, true, true, true, true, true, true, true, true, true, true, true, true, true, true]) rfl (by kernel_rfl) rfl rfl rfl (.t2 .here) (PU.put_ _ _) ⟨rfl, rfl⟩ sz_89_22 (fun _ hw' => ⟨fun hs => (hs 22 (by first | (simp; done) | (simp; rfl)) rfl).elim, fun hs => (hs 22 (by first | (simp; done) | (simp; rfl)) rfl).elim, fun hs => (hs 9 (by first | (simp; done) | (simp; rfl)) rfl).elim, fun hs => (hs 22 (by first | (simp; done) | (simp; rfl)) rfl).elim, trivial⟩) ?_
                refine XQ.done (by kernel_rfl) ?_
                refine gE ?_
                refine mtG ((nb, ba, p1, c1)) ?_ (S5 rfl rfl rfl rfl rfl) (fun _ hw => XM.pick (.cons (.there .here) (.cons (.t8 .here) (.cons (.t7 .here) (.cons (.t9 .here) (.cons (.t9 .here) (.cons (.t2 .here) (.cons (.t8 .here) (.cons (.t2 .here) (.cons (.t2 .here) (.cons (.t2 .here) (.cons (.t2 .here) (.cons (.t2 .here) (.cons (.t2 .here) (.cons (.there .here) .nil)))))))))))))) hw)
                trivial
            · skip
              refine XS.allocZ (i := 21) (l' := #[true, true, true, true, true, true, true, true, true, false, true, true, true, true, true, true, true, false, false, false, false, true, false]) (z := (.agg PU.nil.arr)) (m := 22) (C := PU.nil.cell) rfl rfl (by kernel_rfl) rfl (PU.box PU.nil) rfl (fun _ _ hw' => ⟨fun _ => inXM (.t2 .here) _ hw', fun _ => inXM (.t2 .here) _ hw', fun _ => inXM (.t2 .here) _ hw', trivial⟩) ?_
              intro ba
              refine XQ.call (i := 9) (l' := #[true, true, true, true, true, true, true, true, true, true, true, true, true, true, true, true, true, false, false, false, false, true, false]) rfl (by kernel_rfl) rfl rfl (Vm.v_Fork k.bb vp _ Vm.VB.init Vm.VB.Ok.init _ _ Vm.MS.nil Vm.MS.Ok.nil) (.cons (.t10 .here) (.cons (.t4 .here) (.cons (.t4 .here) .nil))) cl_57 rfl (by rintro _ _ ⟨nb, p1, c1, rfl, rfl⟩; all_goals (intro _ hw'; exact ⟨fun _ => inXM (.t7 .here) _ hw', fun hs => (hs 9 (by first | (simp; done) | (simp; rfl)) rfl).elim, fun _ => inXM (.t7 .here) _ hw', trivial⟩)) ?_
              rintro _ _ ⟨nb, p1, c1, rfl, rfl⟩
              refine XQ.call (i := 17) (l' := #[true, true, true, true, true, true, true, true, true, true, true, true, true, true, true, true, true, true, false, false, false, true, false]) rfl (by kernel_rfl) rfl rfl (k_Child kb k n hlr) (.cons (.t7 .here) .nil) cl_58 rfl (by rintro _ _ ⟨bc, rfl, rfl⟩; all_goals (intro _ hw'; exact ⟨fun _ => inXM (.there .here) _ hw', fun hs => (hs 9 (by first | (simp; done) | (simp; rfl)) rfl).elim, fun _ => inXM (.there .here) _ hw', trivial⟩)) ?_
              rintro _ _ ⟨bc, rfl, rfl⟩
              refine XQ.pv (i := 18) (l' := #[true, true, true, true, true, true, true, true, true, true, true, true, true, true, true, true, true, true, true, false, false, true, false]) rfl (by kernel_rfl) rfl (V.nilCheckP rfl) rfl rfl ?_
              refine XQ.load (i := 19) (l' := #[true, true, true, true, true, true, true, true, true, true, true, true, true, true, true, true, true, true, true, true, false, true, false]) (.cells _ _ _ _) [22] rfl (by kernel_rfl) rfl .here (V.loadAgg rfl inEnt (Sg.encB_load _) ag_87 sz_87_11) rfl (by kernel_rfl) rfl ?_
              refine XQ.pv (i := 20) (l' := #[true, true, true, true, true, true, true, true, true, true, true, true, true, true, true, true, true, true, true, true, true, true, false]) rfl (by kernel_rfl) rfl (V.build (vs := #[(0, .int .i64 1), (1, .int .i64 n), (2, .int .i64 (k.u n).grp), (4, ptr nb 0 0), (5, .agg (fdA (k.u n).fd)), (6, .agg (bxA (k.u n).bx.child))]) rfl (v := .agg (k.kid n nb).arr) (kid_build n _ nb _ _)) rfl rfl ?_
              refine XQ.storeAgg (i := 22) (l' := #[true, true, true, true, true, true, true, true, true, true, true, true, true, true, true, true, true, true, true, true, true, true, true]) rfl (by kernel_rfl) rfl rfl rfl (.t7 .here) (PU.put_ _ _) ⟨rfl, rfl⟩ sz_89_22 (fun _ hw' => ⟨fun hs => (hs 22 (by first | (simp; done) | (simp; rfl)) rfl).elim, fun hs => (hs 22 (by first | (simp; done) | (simp; rfl)) rfl).elim, fun hs => (hs 9 (by first | (simp; done) | (simp; rfl)) rfl).elim, fun hs => (hs 22 (by first | (simp; done) | (simp; rfl)) rfl).elim, trivial⟩) ?_
              refine XQ.done (by kernel_rfl) ?_
              refine gE ?_
              refine mtG ((nb, ba, p1, c1)) ?_ (S5 rfl rfl rfl rfl rfl) (fun _ hw => XM.pick (.cons (.there .here) (.cons (.t8 .here) (.cons (.t7 .here) (.cons (.t9 .here) (.cons (.t9 .here) (.cons (.there .here) (.cons (.t8 .here) (.cons (.there .here) (.cons (.there .here) (.cons (.there .here) (.cons (.there .here) (.cons (.t2 .here) (.cons (.t2 .here) (.cons (.there .here) .nil)))))))))))))) hw)
              trivial
          intro y _
          refine gC ?_
          refine ldA (.t12 (.there .here)) (PU.fds _) ?_
          refine lp (σ := Int) (fun i => (6 - i).toNat) (fun i => 0 ≤ i ∧ i ≤ 6) (fun i => [(133, .int .i64 i), (0, ptr kb 0 0), (8, ptr kb 0 (0 + 0 + n.toNat * 22)), (10, .int .i64 c), (12, .int .i64 0), (14, ptr y.2.1 0 0), (132, .agg (fdA (k.u n).fd))]) (fun i => XM W (foot [.cells kb 0 453 (encKn k), .cells k.gb 0 60 (Gr.encGt g), .cells k.sb 0 158 (Sp.encT s), .cells k.qb 0 2281 (Fa.encS q), .fam Fa.fam30 (Fa.SC.rows 254 q), .cells k.bb 0 577 (Vm.encK vp Vm.VB.init.by_ Vm.VB.init.rf), .cells vp 0 71 (Vm.encP Vm.VB.init.bb.pool), .cfam (lv k) mb 34 (cN k.bb (fun _ => Vm.MS.nil) ps cs), .fam (lv k) (rN 171 (fun _ => Vm.MS.nil) ps cs)]) [.cells kb 0 453 (encKn k), .cells k.gb 0 60 (Gr.encGt (g.charge (k.u n).grp 1 Vm.MS.nil.res)), .cells k.sb 0 158 (Sp.encT (s.enter dep 0 c).2.2), .cells k.qb 0 2281 (Fa.encS q), .fam Fa.fam30 (Fa.SC.rows 254 q), .cells k.bb 0 577 (Vm.encK vp (Vm.VB.init.fork Vm.MS.nil).by_ (Vm.VB.init.fork Vm.MS.nil).rf), .cells vp 0 71 (Vm.encP (Vm.VB.init.fork Vm.MS.nil).bb.pool), .cells (mb n.toNat) 0 34 (Vm.encN k.bb (ps n.toNat) (Vm.runs Vm.MS.nil.is_).length (cs n.toNat) Vm.MS.nil.fr (fun _ => false)), frow (ps n.toNat) (cs n.toNat) 171 3 (Vm.runs Vm.MS.nil.is_).length (Vm.rgC (Vm.runs Vm.MS.nil.is_)), .cells y.1 0 34 (Vm.encN k.bb y.2.2.1 (Vm.runs Vm.MS.nil.is_).length y.2.2.2 Vm.MS.nil.fr (fun _ => false)), frow y.2.2.1 y.2.2.2 171 3 (Vm.runs Vm.MS.nil.is_).length (Vm.rgC (Vm.runs Vm.MS.nil.is_)), .cfam (outP (lv k) n.toNat) mb 34 (cN k.bb (fun _ => Vm.MS.nil) ps cs), .fam (outP (lv k) n.toNat) (rN 171 (fun _ => Vm.MS.nil) ps cs), .cells y.2.1 0 22 ((k.kid n y.1).cell)]) (0) ?_ (.cons rfl (S6 rfl rfl rfl rfl rfl rfl)) (fun _ hw => XM.pick .h14 hw) ?_
          · skip
            omega
          intro i hi
          refine gC ?_
          refine cd rfl ?_ ?_ <;> intro h4
          · skip
            refine XO.v (V.indexArrV rfl rfl Tryz.underlying83 sz_3_1 sc_3 (by omega)) rfl (gO ?_)
            refine cdF rfl (by have := hK.fd n i; omega) ?_
            refine sd (by omega) ?_
            refine ag (i + 1) ?_ ?_ (.cons rfl (S6 rfl rfl rfl rfl rfl rfl)) (fun _ hw => XM.pick .h14 hw)
            · skip
              (first | omega | (simp; done) | (simp; omega))
            · skip
              (first | omega | (simp; done) | (simp; omega))
          · skip
            refine rq [0, 1, 2, 3, 4, 5, 6] mixed (by kernel_rfl) ?_
            refine ldA (.t12 (.there .here)) (PU.agg _) ?_
            refine sd (by omega) ?_
            refine stA .here (encKn.put_ _ (by omega) _) rfl ⟨rfl, rfl⟩ ?_
            refine rq [0, 1, 2, 3, 4, 5, 6, 7, 8, 9] mixed (by kernel_rfl) ?_
            refine ld .here (encKn.ld_q _) ?_
            refine ld .here (encKn.ld_grp _ (by omega)) ?_
            refine ca (Fa.f_AddTask _ _ q d hQ.inv hR c _ 100) (.cons (.t3 .here) (.cons (.t3 .here) .nil)) ?_
            rintro _ _ ⟨rfl, q1, hq1, hr1, rfl⟩
            obtain ⟨d1, hok1⟩ : ∃ d1, q1.toSF.Ok d1 (mq + 1) T := by rw [hq1]; exact hQ.addT hT _ _ _
            refine gO ?_
            refine ld (.t2 .here) (encKn.ld_q _) ?_
            refine ca (Fa.f_wake _ _ q1 d1 hok1.inv hr1 c true) .h2 ?_
            rintro _ _ ⟨rfl, q2, hq2, hr2, rfl⟩
            have hok2 : q2.toSF.Ok d1 (mq + 1) T := by rw [hq2]; exact hok1.wake _ _
            refine gO ?_
            refine ld (.t2 .here) (encKn.ld_s _) ?_
            refine ca (Sp.t_Pid _ _ (s.enter dep 0 c).2.2 _ _) (.cons (.t4 .here) .nil) ?_
            rintro _ _ ⟨rfl, rfl⟩
            refine gO ?_
            refine XR.mono (fun _ hw3 => XM.backM Vm.MS.nil (lv_at hlr (by omega)) (.cons (.t7 .here) (.cons (.t7 .here) (.cons (.t9 .here) (.cons (.t9 .here) .nil)))) hw3) ?_
            refine XR.mono (fun _ hw3 => XM.newM Vm.MS.nil (lv_no ⟨hc.1, by omega⟩ hc0) (.cons (.t9 .here) (.cons (.t9 .here) .h2)) hw3) ?_
            rw [fupd_self (fun _ => Vm.MS.nil) n.toNat, fupd_self (fun _ => Vm.MS.nil) c.toNat]
            refine XE.ret2 rfl rfl rfl (post_of (.cons (.t5 .here) (.cons (.t5 .here) (.cons (.t2 .here) (.cons (.t2 .here) (.cons (.t2 .here) (.cons (.t2 .here) (.cons (.t2 .here) .h2))))))) rfl ?_)
            try dsimp only [SW.den, SV.den, dens, ofC]
            exact .inr ⟨hl, c, ⟨hc.1, by omega⟩, hc0, rfl, q2, d1, hok2, hr2, y.1, y.2.2.1, y.2.2.2, rfl⟩
    · skip
      refine cdT rfl (by omega) ?_
      refine XE.ret2 rfl rfl rfl (post_of .h9 rfl ?_)
      try dsimp only [SW.den, SV.den, dens, ofC]
      exact .inl ⟨4, by decide, rfl, g, .inl rfl, rfl⟩
  · skip
    try dsimp only [errvL0, errvL1, errvL2, errvL3, errvL4, errvL5, errvL6, errvL7, errvL8, errvL9, errvL10, errvL11, errvL12, errvL13]
    refine gO ?_
    refine XE.ret2 rfl rfl rfl (post_of .h9 rfl ?_)
    try dsimp only [SW.den, SV.den, dens, ofC]
    exact .inl ⟨_, hl, rfl, g, .inl rfl, rfl⟩
end Go.X.Kn

namespace Go.X.Kn
open Go Go.X
/-! ### TopKids: processes of one space -/
structure KI (k : KP) (mb : Nat → Nat) (s : Sp.SS) : Prop where
  kid : Kid k mb
  inv : s.Inv (fun _ => 1)
  h0 : s.here 0 = true
  hN : ∀ n, s.here n = true → n = 0
  loc : ∀ n, 0 ≤ n → n < 20 → (0 ≤ s.loc n ↔ (k.u n).st ≠ 0)
  one : s.who 0 1 = 0
  st0 : (k.u 0).st = 1
section
variable {k : KP} {mb : Nat → Nat} {s : Sp.SS}
theorem KI.hz (h : KI k mb s) (t : Int) : (s.in_ t).1 = 0 := by
  unfold Sp.SS.in_
  split
  · rfl
  · split
    · rfl
    · exact h.hN _ (h.inv.at_ t (by omega) (by omega) (by omega))
theorem KI.is0 (h : KI k mb s) : s.is 0 = 0 := by unfold Sp.SS.is; rw [if_neg (by omega), if_pos h.h0]
theorem KI.who_in (h : KI k mb s) {p : Int} (hp : 0 ≤ s.who 0 p) : (0 ≤ s.who 0 p ∧ s.who 0 p < 20) ∧ (1 ≤ p ∧ p ≤ 20) ∧ (k.u (s.who 0 p)).st ≠ 0 := by
  have h1 := h.inv.mem 0 p _ hp rfl
  exact ⟨⟨hp, h1.1⟩, by omega, (h.loc _ hp h1.1).1 h1.2.2.2.1⟩
theorem KI.live0 (h : KI k mb s) : k.live 0 = 0 := KP.live_of ⟨by omega, by omega⟩ h.st0
theorem KI.see (h : KI k mb s) {p : Int} (hp : 1 ≤ p ∧ p ≤ 20) : k.see s 0 p = if s.who 0 p < 0 then (0, 2) else if (k.u (s.who 0 p)).st = 1 then (s.who 0 p, 0) else (0, 8) := by
  have hf : s.find 0 p = if s.who 0 p < 0 then (0, 2) else (s.who 0 p, 0) := by
    unfold Sp.SS.find; rw [if_neg (by rw [h.is0]; omega), if_neg (by omega)]
  unfold KP.see
  rw [if_neg (by rw [h.live0]; omega), h.hz 0, hf]
  by_cases c : s.who 0 p < 0
  · rw [if_pos c, if_pos (show (2 : Int) ≠ 0 by omega), if_pos c]
  · rw [if_neg c, if_neg (show ¬ ((0 : Int) ≠ 0) by omega), if_neg c]
theorem KI.see8 (h : KI k mb s) {p : Int} (hp : 1 ≤ p ∧ p ≤ 20) : (k.see s 0 p).2 = 8 ↔ (0 ≤ s.who 0 p ∧ (k.u (s.who 0 p)).st = 2) := by
  rw [h.see hp]
  by_cases c : s.who 0 p < 0
  · rw [if_pos c]
    exact ⟨fun q => absurd (show (2 : Int) = 8 from q) (by omega), fun q => by omega⟩
  · rw [if_neg c]
    have hw := h.who_in (p := p) (by omega)
    have hs := h.kid.st _ hw.1.1 hw.1.2
    by_cases d : (k.u (s.who 0 p)).st = 1
    · rw [if_pos d]
      exact ⟨fun q => absurd (show (0 : Int) = 8 from q) (by omega), fun q => by omega⟩
    · rw [if_neg d]
      exact ⟨fun _ => ⟨by omega, by omega⟩, fun _ => rfl⟩
theorem KI.has (h : KI k mb s) {t : Int} (ht : 0 ≤ t ∧ t < 20) (hs : (k.u t).st ≠ 0) : (s.pid t 0).2 = 0 ∧ (1 ≤ (s.pid t 0).1 ∧ (s.pid t 0).1 ≤ 20) ∧ s.who 0 (s.pid t 0).1 = t := by
  have hl := (h.loc t ht.1 ht.2).2 hs
  have hl0 : s.loc t = 0 := h.hN _ (h.inv.at_ t ht.1 ht.2 hl)
  have hw : (0 : Int) ∈ s.way (fun _ => 1) (s.loc t) := by rw [hl0]; show (0 : Int) ∈ s.wayF 1 0; simp [Sp.SS.wayF]
  obtain ⟨q, hq⟩ := h.inv.has t ht.1 ht.2 hl 0 hw
  have hm := h.inv.mem 0 q t ht.1 hq
  unfold Sp.SS.pid
  rw [if_neg (by rw [h.is0]; omega), if_neg (by omega)]
  rw [firstN_some (k := q) (by omega) (by omega) (by simp [hq]) (fun j h1 h2 => by
    cases e : (s.who 0 j == t) with
    | false => rfl
    | true =>
      have e : s.who 0 j = t := by simpa using e
      have := h.inv.inj 0 q j (by omega) (by omega)
      omega)]
  show (0 : Int) = 0 ∧ (1 ≤ ((q.toNat : Nat) : Int) ∧ ((q.toNat : Nat) : Int) ≤ 20) ∧ s.who 0 ((q.toNat : Nat) : Int) = t
  rw [show ((q.toNat : Nat) : Int) = q from by omega]
  exact ⟨rfl, by omega, hq⟩
theorem KI.uniq (h : KI k mb s) {p q : Int} (hp : 0 ≤ s.who 0 p) (e : s.who 0 q = s.who 0 p) : q = p := h.inv.inj 0 p q hp e
theorem KI.fork (h : KI k mb s) {c n : Int} {nb : Nat} (hc : 0 ≤ c ∧ c < 20) (h0 : (k.u c).st = 0) : KI (k.put c (k.kid n nb)) (fupd mb c.toNat nb) (s.enter (fun _ => 1) 0 c).2.2 ∧ ∃ q, (2 ≤ q ∧ q ≤ 20) ∧ s.who 0 q < 0 ∧ (∀ p, (s.enter (fun _ => 1) 0 c).2.2.who 0 p = if p = q then c else s.who 0 p) ∧ (s.enter (fun _ => 1) 0 c).2.2.pid c 0 = (q, 0) := by
  have hl : ¬ 0 ≤ s.loc c := fun q => (h.loc c hc.1 hc.2).1 q h0
  have hc0 : c ≠ 0 := fun e => by rw [e, h.st0] at h0; omega
  have he : (s.enter (fun _ => 1) 0 c).2.2 = s.entered (fun _ => 1) 0 c := by
    unfold Sp.SS.enter; rw [if_neg (by rw [h.is0]; omega), if_neg (by omega), if_neg hl]
  obtain ⟨q, q1, q2, q3, q4⟩ := Sp.put1_is (p := c) (h.inv.free hc hl 0)
  have hwho : (s.entered (fun _ => 1) 0 c).who = fset2 s.who 0 q c := by
    show Sp.enterL s.who c (s.wayF 1 0) = _
    show Sp.put1 s.who 0 c = _
    exact q4
  have hw : ∀ p, (s.entered (fun _ => 1) 0 c).who 0 p = if p = q then c else s.who 0 p := fun p => by
    rw [hwho]; unfold fset2; simp
  have hi := h.inv.entered (n := 0) ⟨by omega, by omega, h.h0⟩ hc hl
  have hq1 : q ≠ 1 := fun e => by rw [e, h.one] at q3; omega
  have hK : KI (k.put c (k.kid n nb)) (fupd mb c.toNat nb) (s.entered (fun _ => 1) 0 c) := by
    refine ⟨⟨fun m a b => ?_, fun m a b hm => ?_, fun m => ?_, fun m i => ?_, fun m => ?_⟩, hi, h.h0, h.hN, fun m a b => ?_, ?_, ?_⟩
    · by_cases e : m = c
      · rw [e, KP.put_u]; exact .inr (.inl rfl)
      · rw [KP.put_ne _ _ e]; exact h.kid.st m a b
    · by_cases e : m = c
      · rw [e, KP.put_u, fupd_eq]; rfl
      · rw [KP.put_ne _ _ e] at hm ⊢
        rw [fupd_ne _ _ (by omega)]; exact h.kid.mem m a b hm
    · by_cases e : m = c
      · rw [e, KP.put_u]; exact h.kid.grp n
      · rw [KP.put_ne _ _ e]; exact h.kid.grp m
    · by_cases e : m = c
      · rw [e, KP.put_u]; exact h.kid.fd n i
      · rw [KP.put_ne _ _ e]; exact h.kid.fd m i
    · by_cases e : m = c
      · rw [e, KP.put_u]; show (k.u n).bx.child = _; rw [h.kid.bx n]; rfl
      · rw [KP.put_ne _ _ e]; exact h.kid.bx m
    · show 0 ≤ fset s.loc c 0 m ↔ _
      by_cases e : m = c
      · rw [e, fset_eq, KP.put_u]
        exact ⟨fun _ => (by decide : (1 : Int) ≠ 0), fun _ => Int.le_refl 0⟩
      · rw [fset_ne _ _ e, KP.put_ne _ _ e]; exact h.loc m a b
    · rw [hw, if_neg (by omega)]; exact h.one
    · rw [KP.put_ne _ _ (fun e => hc0 e.symm)]; exact h.st0
  rw [he]
  refine ⟨hK, q, ⟨by omega, q2⟩, q3, hw, ?_⟩
  have hh := hK.has hc (by rw [KP.put_u]; exact (by decide : (1 : Int) ≠ 0))
  have hq : (s.entered (fun _ => 1) 0 c).who 0 q = c := by rw [hw, if_pos rfl]
  have := hK.uniq (p := q) (q := ((s.entered (fun _ => 1) 0 c).pid c 0).1) (by omega) (by rw [hh.2.2, hq])
  exact Prod.ext this hh.1
theorem KI.exit (h : KI k mb s) {n co hd : Int} (hn : 0 ≤ n ∧ n < 20) (hs : (k.u n).st ≠ 0) (h0 : n ≠ 0) : KI ((k.ended n co).adopt n hd 20) mb s := by
  have e1 := fun j => KP.ended_st k n co hd 20 j
  have e2 := fun j => KP.adopt_keep (k.ended n co) n hd 20 j
  have e3 : ∀ j, ((k.ended n co).u j).mem = (k.u j).mem ∧ ((k.ended n co).u j).grp = (k.u j).grp ∧ ((k.ended n co).u j).fd = (k.u j).fd ∧ ((k.ended n co).u j).bx = (k.u j).bx := fun j => by
    unfold KP.ended
    by_cases c : j = n
    · subst c; rw [KP.put_u]; exact ⟨rfl, rfl, rfl, rfl⟩
    · rw [KP.put_ne _ _ c]; exact ⟨rfl, rfl, rfl, rfl⟩
  refine ⟨⟨fun m a b => ?_, fun m a b hm => ?_, fun m => ?_, fun m i => ?_, fun m => ?_⟩, h.inv, h.h0, h.hN, fun m a b => ?_, h.one, ?_⟩
  · rw [e1]; split
    · exact .inr (.inr rfl)
    · exact h.kid.st m a b
  · rw [(e2 m).2.2.2.2.1, (e3 m).1]
    refine h.kid.mem m a b ?_
    rw [e1] at hm
    split at hm
    · rename_i c; rw [c]; exact hs
    · exact hm
  · rw [(e2 m).2.2.1, (e3 m).2.1]; exact h.kid.grp m
  · rw [(e2 m).2.2.2.2.2, (e3 m).2.2.1]; exact h.kid.fd m i
  · rw [(e2 m).2.1, (e3 m).2.2.2]; exact h.kid.bx m
  · rw [e1, h.loc m a b]
    split
    · rename_i c; rw [c]; exact ⟨fun _ => by omega, fun _ => hs⟩
    · exact Iff.rfl
  · rw [e1, if_neg (by omega)]; exact h.st0
theorem KI.away (h : KI k mb s) {t : Int} (ht : 0 ≤ t ∧ t < 20) (hs : (k.u t).st = 2) : KI (k.put t PU.nil) mb (s.leave t).2 ∧ ∀ p, (s.leave t).2.who 0 p = if s.who 0 p = t then -1 else s.who 0 p := by
  have hl := (h.loc t ht.1 ht.2).2 (by omega)
  have h0 : t ≠ 0 := fun e => by rw [e, h.st0] at hs; omega
  have he : (s.leave t).2 = s.left t := by
    unfold Sp.SS.leave Sp.SS.in_
    rw [if_neg (c := t < 0 ∨ 20 ≤ t) (by omega), if_neg (c := s.loc t < 0) (by omega), if_neg (by simp)]
  have hi := h.inv.left (p := t) ht.1
  rw [he]
  refine ⟨⟨⟨fun m a b => ?_, fun m a b hm => ?_, fun m => ?_, fun m i => ?_, fun m => ?_⟩, hi, h.h0, h.hN, fun m a b => ?_, ?_, ?_⟩, fun p => rfl⟩
  · by_cases e : m = t
    · rw [e, KP.put_u]; exact .inl rfl
    · rw [KP.put_ne _ _ e]; exact h.kid.st m a b
  · by_cases e : m = t
    · rw [e, KP.put_u] at hm; exact absurd rfl hm
    · rw [KP.put_ne _ _ e] at hm ⊢; exact h.kid.mem m a b hm
  · by_cases e : m = t
    · rw [e, KP.put_u]; rfl
    · rw [KP.put_ne _ _ e]; exact h.kid.grp m
  · by_cases e : m = t
    · rw [e, KP.put_u]; rfl
    · rw [KP.put_ne _ _ e]; exact h.kid.fd m i
  · by_cases e : m = t
    · rw [e, KP.put_u]; rfl
    · rw [KP.put_ne _ _ e]; exact h.kid.bx m
  · show 0 ≤ fset s.loc t (-1) m ↔ _
    by_cases e : m = t
    · rw [e, fset_eq, KP.put_u]
      exact ⟨fun q => absurd q (by omega), fun q => absurd rfl q⟩
    · rw [fset_ne _ _ e, KP.put_ne _ _ e]; exact h.loc m a b
  · show (if s.who 0 1 = t then -1 else s.who 0 1) = 0
    rw [h.one, if_neg (fun e => h0 e.symm)]
  · rw [KP.put_ne _ _ (fun e => h0 e.symm)]; exact h.st0
/-- what the statement keeps of those that ended -/
def EN (k : KP) (s : Sp.SS) (en : Int → Bool) (cd : Int → Int) : Prop :=
  ∀ p, 2 ≤ p → p < 21 → (en p = true ↔ (0 ≤ s.who 0 p ∧ (k.u (s.who 0 p)).st = 2)) ∧ (en p = true → cd p = (k.u (s.who 0 p)).code)
theorem EN.fork {en : Int → Bool} {cd : Int → Int} (h : KI k mb s) (hE : EN k s en cd) {c n q : Int} {nb : Nat} {s' : Sp.SS} (hc : 0 ≤ c ∧ c < 20) (h0 : (k.u c).st = 0) (hq : s.who 0 q < 0) (hw : ∀ p, s'.who 0 p = if p = q then c else s.who 0 p) : EN (k.put c (k.kid n nb)) s' en cd ∧ (2 ≤ q → q < 21 → en q = false) := by
  refine ⟨fun p a b => ?_, fun a b => ?_⟩
  · have e := hE p a b
    rw [hw]
    by_cases d : p = q
    · rw [if_pos d, KP.put_u]
      have hf : en p = false := by
        rw [← Bool.not_eq_true, e.1]; rintro ⟨f, _⟩; rw [d] at f; omega
      rw [hf]
      exact ⟨⟨fun g => absurd g (by simp), fun g => absurd (show (1 : Int) = 2 from g.2) (by omega)⟩, fun g => absurd g (by simp)⟩
    · rw [if_neg d]
      by_cases f : 0 ≤ s.who 0 p
      · have := (h.who_in f).2.2
        rw [KP.put_ne _ _ (fun g => by rw [g] at this; exact this h0)]; exact e
      · refine ⟨⟨fun g => absurd (e.1.1 g).1 f, fun g => absurd g.1 f⟩, fun g => absurd (e.1.1 g).1 f⟩
  · rw [← Bool.not_eq_true, (hE q a b).1]; rintro ⟨f, _⟩; omega
theorem EN.exit {en : Int → Bool} {cd : Int → Int} (h : KI k mb s) (hE : EN k s en cd) {n co hd p0 : Int} (hp0 : s.who 0 p0 = n) (hn : 0 ≤ n) : EN ((k.ended n co).adopt n hd 20) s (fset en p0 true) (fset cd p0 co) := by
  intro p a b
  have e := hE p a b
  have e1 := KP.ended_st k n co hd 20 (s.who 0 p)
  have e2 : (((k.ended n co).adopt n hd 20).u (s.who 0 p)).code = if s.who 0 p = n then co else (k.u (s.who 0 p)).code := by
    rw [(KP.adopt_keep _ _ _ _ _).2.2.2.1]
    unfold KP.ended
    by_cases c : s.who 0 p = n
    · rw [c, KP.put_u, if_pos rfl]
    · rw [KP.put_ne _ _ c, if_neg c]
  rw [e1, e2]
  by_cases d : p = p0
  · subst d
    rw [fset_eq, fset_eq, hp0, if_pos rfl, if_pos rfl]
    exact ⟨⟨fun _ => ⟨hn, rfl⟩, fun _ => rfl⟩, fun _ => rfl⟩
  · rw [fset_ne _ _ d, fset_ne _ _ d]
    have hne : ¬ s.who 0 p = n := fun f => d (h.uniq (p := p0) (by omega) (by omega))
    rw [if_neg hne, if_neg hne]; exact e
theorem EN.away {en : Int → Bool} {cd : Int → Int} (h : KI k mb s) (hE : EN k s en cd) {t p0 : Int} {s' : Sp.SS} (ht : 0 ≤ t) (hp0 : s.who 0 p0 = t) (hw : ∀ p, s'.who 0 p = if s.who 0 p = t then -1 else s.who 0 p) : EN (k.put t PU.nil) s' (fset en p0 false) cd := by
  intro p a b
  have e := hE p a b
  rw [hw]
  by_cases d : p = p0
  · subst d
    rw [fset_eq, if_pos hp0]
    exact ⟨⟨fun g => absurd g (by simp), fun g => absurd g.1 (by omega)⟩, fun g => absurd g (by simp)⟩
  · rw [fset_ne _ _ d]
    have hne : ¬ s.who 0 p = t := fun f => d (h.uniq (p := p0) (by omega) (by omega))
    rw [if_neg hne]
    rw [KP.put_ne _ _ hne]; exact e
end
theorem S0_who : ∀ p : Int, S0.who 0 p = if p = 1 then 0 else -1 := fun p => by
  have h : S0.who = fset2 Sp.SS.init.who 0 1 0 := by rfl
  rw [h]
  unfold fset2
  by_cases c : p = 1
  · rw [if_pos ⟨rfl, c⟩, if_pos c]
  · rw [if_neg (fun q => c q.2), if_neg c]; rfl
theorem KI.begun {k : KP} {mb : Nat} (h : Begun k mb) : KI k (fupd (fun _ => 0) (0 : Int).toNat mb) S0 := by
  have hu : ∀ n, k.u n = if n = 0 then firstU mb else PU.nil := fun n => by rw [h.u]; rfl
  have hi : S0.Inv (fun _ => 1) := Sp.SS.Inv.init.enter 0 0
  have hS : S0 = Sp.SS.init.entered (fun _ => 1) 0 0 := by rfl
  refine ⟨⟨fun m a b => ?_, fun m a b hm => ?_, fun m => ?_, fun m i => ?_, fun m => ?_⟩, hi, by rfl, fun m hm => ?_, fun m a b => ?_, by rw [S0_who, if_pos rfl], by rw [hu, if_pos rfl]; rfl⟩
  · rw [hu]; split
    · exact .inr (.inl rfl)
    · exact .inl rfl
  · rw [hu] at hm ⊢
    split at hm
    · rename_i c; subst c; rw [if_pos rfl, fupd_eq]; rfl
    · exact absurd rfl hm
  · rw [hu]; split <;> rfl
  · rw [hu]; split <;> rfl
  · rw [hu]; split <;> rfl
  · have : fset (fun _ => false) 0 true m = true := hm
    by_cases c : m = 0
    · exact c
    · rw [fset_ne _ _ c] at this; cases this
  · show 0 ≤ fset (Sp.frf 20) 0 0 m ↔ _
    rw [hu]
    by_cases c : m = 0
    · subst c; rw [fset_eq, if_pos rfl]; exact ⟨fun _ => (by decide : (1 : Int) ≠ 0), fun _ => Int.le_refl 0⟩
    · rw [fset_ne _ _ c, if_neg c]
      unfold Sp.frf
      rw [if_pos (by omega)]
      exact ⟨fun q => absurd q (by omega), fun q => absurd rfl q⟩
theorem EN.begun {k : KP} {mb : Nat} (h : Begun k mb) : EN k S0 (fun _ => false) (fun _ => 0) := fun p a b => by
  rw [S0_who, if_neg (by omega)]
  exact ⟨⟨fun q => absurd q (by simp), fun q => absurd q.1 (by omega)⟩, fun q => absurd q (by simp)⟩
theorem lv_begun {k : KP} {mb : Nat} (h : Begun k mb) : lv k = inP (fun _ => false) (0 : Int).toNat := by
  funext j
  rw [Bool.eq_iff_iff, lv_iff, inP_iff, h.u]
  by_cases c : (j : Int) = 0
  · rw [c, fset_eq]
    exact ⟨fun _ => .inr (by omega), fun _ => ⟨by omega, (by decide : (1 : Int) ≠ 0)⟩⟩
  · rw [fset_ne _ _ c]
    exact ⟨fun q => absurd rfl q.2, fun q => by rcases q with q | q
                                                · cases q
                                                · exact absurd q (by show j ≠ 0; omega)⟩
/-- the state of the statement's loop -/
structure KX where
  k : KP
  mb : Nat → Nat
  s : Sp.SS
  g : Gr.TG
  q : Fa.SC
  d : Int → Nat
  m : Nat
  en : Int → Bool
  cd : Int → Int
  ps : Nat → Option Addr
  cs : Nat → Nat
structure KX.Ok (x : KX) (i : Int) : Prop where
  I : KI x.k x.mb x.s
  E : EN x.k x.s x.en x.cd
  gI : x.g.Inv
  gS : x.g.Small (1000 * i + 1000)
  qO : x.q.toSF.Ok x.d x.m 1
  qR : x.q.Rep
theorem chC.ld1 (a b : Int) : 0 + 1 < 2 ∧ chC a b (0 + 1) = .int .i64 b := ⟨by omega, rfl⟩
theorem ld_true {a : Prop} {v : Value} {b : Bool} (h : a ∧ v = .bool b) (e : b = true) : a ∧ v = .bool true := ⟨h.1, by rw [h.2, e]⟩
theorem ld_false {a : Prop} {v : Value} {b : Bool} (h : a ∧ v = .bool b) (e : b = false) : a ∧ v = .bool false := ⟨h.1, by rw [h.2, e]⟩
theorem KP.exitE_0 {k : KP} {n c : Int} (h : k.exitE n c = 0) : k.live n = 0 ∧ n ≠ 0 := by
  unfold KP.exitE at h
  split at h
  · rename_i q; exact absurd h q
  · rename_i q
    split at h
    · omega
    · split at h
      · omega
      · exact ⟨by omega, by assumption⟩
section
variable {k : KP} {mb : Nat → Nat} {s : Sp.SS}
theorem KI.head (h : KI k mb s) (n : Int) : (s.find (s.in_ n).1 1).1 = 0 := by
  rw [h.hz]
  unfold Sp.SS.find
  rw [if_neg (by rw [h.is0]; omega), if_neg (by omega), if_neg (by rw [h.one]; omega)]
  exact h.one
theorem lv_exit (h : KI k mb s) {n co hd : Int} (hn : 0 ≤ n ∧ n < 20) (hs : (k.u n).st ≠ 0) : lv k = lv ((k.ended n co).adopt n hd 20) := lv_congr (fun m _ _ => by
  rw [KP.ended_st]
  split
  · rename_i c; rw [c]; exact ⟨fun q => absurd q hs, fun q => absurd q (by omega)⟩
  · exact Iff.rfl)
theorem KI.wait (h : KI k mb s) {t pid : Int} (ht : 0 ≤ t ∧ t < 20) (hs : (k.u t).st = 2) (hp : s.pid t 0 = (pid, 0)) : (2 ≤ pid ∧ pid ≤ 20) ∧ s.who 0 pid = t := by
  obtain ⟨_, h2, h3⟩ := h.has ht (by omega)
  rw [hp] at h2 h3
  have h2 : 1 ≤ pid ∧ pid ≤ 20 := h2
  have h3 : s.who 0 pid = t := h3
  have : pid ≠ 1 := fun e => by
    rw [e, h.one] at h3
    rw [← h3, h.st0] at hs; omega
  exact ⟨by omega, h3⟩
theorem KI.self (h : KI k mb s) {n : Int} (hn : 0 ≤ n ∧ n < 20) (hs : (k.u n).st = 1) (h0 : n ≠ 0) : 2 ≤ (s.pid n 0).1 ∧ (s.pid n 0).1 ≤ 20 := by
  obtain ⟨_, h2, h3⟩ := h.has hn (by omega)
  have : (s.pid n 0).1 ≠ 1 := fun e => by rw [e, h.one] at h3; omega
  omega
theorem KX.Ok.next {x : KX} {i : Int} (h : x.Ok i) : x.Ok (i + 1) := ⟨h.I, h.E, h.gI, h.gS.mono (by omega), h.qO, h.qR⟩
theorem KX.Ok.seen {x : KX} {i p : Int} (h : x.Ok i) (hp : 2 ≤ p ∧ p < 21) : x.en p = decide ((x.k.see x.s 0 p).2 = 8) := by
  rw [Bool.eq_iff_iff, decide_eq_true_eq, (h.E p hp.1 hp.2).1, h.I.see8 ⟨by omega, by omega⟩]
end

end Go.X.Kn

namespace Go.X.Kn
open Go Go.Proofs Go.X
set_option maxRecDepth 20000
set_option maxHeartbeats 4000000
theorem bs1_55 (z : Int) : ∀ w, (Instr.buildSlice 55 1 #[(0, .int .i64 z)]).run Tryz.prog w = .ok (.slice (some ⟨w.heap.size, 0, none⟩) 1 1) (w.alloc (.cells #[.int .i64 z] 3)) := fun w => by kernel_rfl
theorem rt_3_1 : rowT Tryz.prog 3 1 = true := by kernel_rfl
theorem light_any (p : Option Addr) (l c : Nat) (m : Int) : Spec Tryz.prog 47 [.slice p l c, .int .i64 m]
 []
 (fun v H1 => v = .bool (decide ((l : Int) ≤ m)) ∧ H1 = []) := by
  refine Spec.go 9 [0, 1, 4] [] Tryz.func47 rfl rfl rfl ?_
  intro W
  refine XE.ret1 rfl rfl (post_of .nil rfl ?_)
  try dsimp only [SW.den, SV.den, dens, ofC]
  exact ⟨rfl, rfl⟩
theorem texts_any (bl ol len cap : Nat) (hlen : len ≤ cap) (A : Int → ActV) (hA : ∀ z : Int, 0 ≤ z → z < len → (A z).ok) (hL : len ≤ 1000000) (m : Int) : Spec Tryz.prog 48 [.slice (some ⟨bl, ol, none⟩) len cap, .int .i64 m]
 [.ro bl ol (8 * len) (encActs A)]
 (fun v H1 => (∃ b, v = .bool b ∧ (b = true → ∀ z : Int, 0 ≤ z → z < len → ((A z).s.size : Int) ≤ m ∧ ((A z).t.size : Int) ≤ m)) ∧ H1 = []) := by
  refine Spec.go 30 [0, 1, 4, 5, 9, 29] [] Tryz.func48 rfl rfl rfl ?_
  intro W
  refine lp (σ := Int) (fun k => (len - k).toNat) (fun k => 0 ≤ k ∧ k ≤ len ∧ ∀ z : Int, 0 ≤ z → z < k → ((A z).s.size : Int) ≤ m ∧ ((A z).t.size : Int) ≤ m) (fun k => [(5, .int .i64 k), (0, .slice (some ⟨bl, ol, none⟩) len cap), (1, .int .i64 m)]) (fun k => XM W (foot [.ro bl ol (8 * len) (encActs A)]) [.ro bl ol (8 * len) (encActs A)]) (0) ?_ (S3 rfl rfl rfl) (fun _ hw => XM.pick .h1 hw) ?_
  · skip
    exact ⟨by omega, by omega, fun z h1 h2 => by omega⟩
  intro k hk
  obtain ⟨hk0, hk1, hkk⟩ := hk
  refine gC ?_
  refine cd rfl ?_ ?_ <;> intro h1
  · skip
    refine sd (by omega) ?_
    refine ldRo .here (acts_ld_S A len _ (by omega)) ?_
    refine sp 20 rfl ?_ ?_ <;> intro h2
    · skip
      refine XE.ret1 rfl rfl (post_of .nil rfl ?_)
      try dsimp only [SW.den, SV.den, dens, ofC]
      first
      | exact ⟨⟨false, rfl, fun q => by cases q⟩, rfl⟩
      | exact ⟨⟨true, rfl, fun _ z h1 h2 => hkk z h1 (by omega)⟩, rfl⟩
    · skip
      refine sd (by omega) ?_
      refine ldRo .here (acts_ld_T A len _ (by omega)) ?_
      refine cd rfl ?_ ?_ <;> intro h3
      · skip
        refine XE.ret1 rfl rfl (post_of .nil rfl ?_)
        try dsimp only [SW.den, SV.den, dens, ofC]
        first
        | exact ⟨⟨false, rfl, fun q => by cases q⟩, rfl⟩
        | exact ⟨⟨true, rfl, fun _ z h1 h2 => hkk z h1 (by omega)⟩, rfl⟩
      · skip
        refine sd (by omega) ?_
        refine ag (k + 1) ?_ ?_ (S3 rfl rfl rfl) (fun _ hw => XM.pick .h1 hw)
        · skip
          (first | omega | (simp; done) | (simp; omega))
        · skip
          refine ⟨by omega, by omega, fun z h1 h2 => ?_⟩
          by_cases hz : z = k
          · subst hz; exact ⟨by omega, by omega⟩
          · exact hkk z h1 (by omega)
  · skip
    refine XE.ret1 rfl rfl (post_of .nil rfl ?_)
    try dsimp only [SW.den, SV.den, dens, ofC]
    first
    | exact ⟨⟨false, rfl, fun q => by cases q⟩, rfl⟩
    | exact ⟨⟨true, rfl, fun _ z h1 h2 => hkk z h1 (by omega)⟩, rfl⟩
theorem texts_nil (p : Option Addr) (cap : Nat) (m : Int) : Spec Tryz.prog 48 [.slice p 0 cap, .int .i64 m]
 []
 (fun v H1 => v = .bool true ∧ H1 = []) := by
  refine Spec.go 30 [0, 1, 4, 5, 9] [] Tryz.func48 rfl rfl rfl ?_
  intro W
  refine lp (σ := Int) (fun k => 0) (fun k => 0 ≤ k) (fun k => [(5, .int .i64 k), (0, .slice p 0 cap), (1, .int .i64 m)]) (fun k => XM W (foot []) []) (0) ?_ (S3 rfl rfl rfl) (fun _ hw => XM.pick .nil hw) ?_
  · skip
    omega
  intro k hk
  refine gC ?_
  refine cdF rfl (by simp; omega) ?_
  refine XE.ret1 rfl rfl (post_of .nil rfl ?_)
  try dsimp only [SW.den, SV.den, dens, ofC]
  exact ⟨rfl, rfl⟩
theorem k_num' (e : Int) : Spec Tryz.prog 19 [.iface 102 (.int .i64 e)]
 []
 (fun v H1 => v = .int .i64 e ∧ H1 = []) := by
  refine Spec.go 15 [0, 2, 3, 4, 6, 13] [] Tryz.func19 rfl rfl rfl ?_
  intro W
  refine XO.v (V.assertOk rfl Tryz.underlying102 (by simp)) rfl (gO ?_)
  refine XE.ret1 rfl rfl (post_of .nil rfl ?_)
  try dsimp only [SW.den, SV.den, dens, ofC]
  exact ⟨rfl, rfl⟩
theorem k_num0  : Spec Tryz.prog 19 [.nilIface]
 []
 (fun v H1 => v = .int .i64 0 ∧ H1 = []) := by
  refine Spec.go 15 [0, 2, 6] [] Tryz.func19 rfl rfl rfl ?_
  intro W
  refine XE.ret1 rfl rfl (post_of .nil rfl ?_)
  try dsimp only [SW.den, SV.den, dens, ofC]
  exact ⟨rfl, rfl⟩
theorem k_num (e : Int) : Spec Tryz.prog 19 [errv 102 e] [] (fun v H1 => v = .int .i64 e ∧ H1 = []) := by
  by_cases h : e = 0
  · subst h; exact k_num0
  · rw [errv_pos _ h]; exact k_num' e
theorem few_any (bl ol len cap : Nat) (hlen : len ≤ cap) (A : Int → ActV) (hA : ∀ z : Int, 0 ≤ z → z < len → (A z).ok) (m : Int) (hm : m ≤ 1000000) : Spec Tryz.prog 13 [.slice (some ⟨bl, ol, none⟩) len cap, .int .i64 m]
 [.ro bl ol (8 * len) (encActs A)]
 (fun v H1 => (∃ b, v = .bool b ∧ (b = true → (len : Int) ≤ m)) ∧ H1 = []) := by
  refine Spec.go 12 [0, 1, 4] [] Tryz.func13 rfl rfl rfl ?_
  intro W
  refine ca (light_any _ _ _ _) .nil ?_
  rintro _ _ ⟨rfl, rfl⟩
  refine gO ?_
  refine sp 8 rfl ?_ ?_ <;> intro h1
  · skip
    refine caR 0 (texts_any _ _ len cap hlen A hA (by omega) _) .h1 rfl ?_
    rintro _ _ ⟨⟨bt, rfl, tx⟩, rfl⟩
    refine gO ?_
    refine XE.ret1 rfl rfl (post_of .nil rfl ?_)
    try dsimp only [SW.den, SV.den, dens, ofC]
    exact ⟨⟨bt, rfl, fun _ => by omega⟩, rfl⟩
  · skip
    refine XE.ret1 rfl rfl (post_of .nil rfl ?_)
    try dsimp only [SW.den, SV.den, dens, ofC]
    exact ⟨⟨false, rfl, fun q => by cases q⟩, rfl⟩
theorem few_nil (p : Option Addr) (cap : Nat) (m : Int) : Spec Tryz.prog 13 [.slice p 0 cap, .int .i64 m]
 []
 (fun v H1 => (∃ b, v = .bool b ∧ (b = true → ((0 : Nat) : Int) ≤ m)) ∧ H1 = []) := by
  refine Spec.go 12 [0, 1, 4] [] Tryz.func13 rfl rfl rfl ?_
  intro W
  refine ca (light_any _ _ _ _) .nil ?_
  rintro _ _ ⟨rfl, rfl⟩
  refine gO ?_
  refine sp 8 rfl ?_ ?_ <;> intro h1
  · skip
    refine ca (texts_nil _ _ _) .nil ?_
    rintro _ _ ⟨rfl, rfl⟩
    refine gO ?_
    refine XE.ret1 rfl rfl (post_of .nil rfl ?_)
    try dsimp only [SW.den, SV.den, dens, ofC]
    exact ⟨⟨true, rfl, fun _ => by omega⟩, rfl⟩
  · skip
    refine XE.ret1 rfl rfl (post_of .nil rfl ?_)
    try dsimp only [SW.den, SV.den, dens, ofC]
    exact ⟨⟨false, rfl, fun q => by cases q⟩, rfl⟩
theorem k_Tick0 (kb : Nat) (k : KP) (q : Fa.SC) (hq : q.toSF = Q2) (hR : q.Rep) : Spec Tryz.prog 46 [ptr kb 0 0]
 [.cells kb 0 453 (encKn k), .cells k.qb 0 2281 (Fa.encS q), .fam Fa.fam30 (Fa.SC.rows 254 q)]
 (fun v H1 => v = .int .i64 0 ∧ ∃ t : Fa.SC, t.toSF = (Q2.tick dK).2 ∧ t.Rep ∧ H1 = [.cells kb 0 453 (encKn k), .cells k.qb 0 2281 (Fa.encS t), .fam Fa.fam30 (Fa.SC.rows 254 t)]) := by
  refine Spec.go 8 [0, 2] [] Tryz.func46 rfl rfl rfl ?_
  intro W
  refine ld .here (encKn.ld_q _) ?_
  refine ca (Fa.f_Tick _ _ q dK (by rw [hq]; exact Q2_ok.inv) hR (fun n a b => Nat.le_trans (Q2_ok.dep n a b) (by omega)) (2000000000 * 0) (by omega) (by rw [hq]; exact Q2_ok.small) (by show 0 ≤ q.toSF.now ∧ q.toSF.now ≤ 2000000000 * 0; rw [hq]; exact Q2_ok.now) (by rw [hq]; exact (Q2_ok.tick0 (by omega)).set)) (.cons (.there .here) (.cons (.there .here) .nil)) ?_
  rintro _ _ ⟨rfl, t, ht, hr, rfl⟩
  rw [hq, Q2_tick]
  rw [hq] at ht
  refine gO ?_
  refine XE.ret1 rfl rfl (post_of (.cons (.t2 .here) .h2) rfl ?_)
  try dsimp only [SW.den, SV.den, dens, ofC]
  exact ⟨rfl, t, ht, hr, rfl⟩
theorem k_Procs (kb : Nat) (k : KP) : Spec Tryz.prog 27 [ptr kb 0 0]
 [.cells kb 0 453 (encKn k)]
 (fun v H1 => ∃ p cap, v = .slice p (Vm.allL (fun n => decide ((k.u n).st = 1)) 20).length cap ∧ H1 = [irow p cap 3 (Vm.allL (fun n => decide ((k.u n).st = 1)) 20), .cells kb 0 453 (encKn k)]) := by
  refine Spec.go 22 [0, 2, 3, 4, 5, 6, 15] [] Tryz.func27 rfl rfl rfl ?_
  intro W
  refine XR.nilRow 3 1 ?_
  refine lp (σ := Int × List Int × Option Addr × Nat) (fun x => (20 - x.1).toNat) (fun x => (0 ≤ x.1 ∧ x.1 ≤ 20) ∧ x.2.1 = Vm.allL (fun n => decide ((k.u n).st = 1)) x.1.toNat) (fun x => [(3, .slice x.2.2.1 x.2.1.length x.2.2.2), (5, .int .i64 x.1), (0, ptr kb 0 0)]) (fun x => XM W (foot [.cells kb 0 453 (encKn k)]) [irow x.2.2.1 x.2.2.2 3 x.2.1, .cells kb 0 453 (encKn k)]) ((0, [], none, 0)) ?_ (S3 rfl rfl rfl) (fun _ hw => XM.pick .h2 hw) ?_
  · skip
    exact ⟨by simp, rfl⟩
  intro x hx
  obtain ⟨hx, hL⟩ := hx
  have hlen := Vm.allL_length (fun n => decide ((k.u n).st = 1)) x.1.toNat
  rw [← hL] at hlen
  have hnx := Vm.allI_next (fun n => decide ((k.u n).st = 1)) hx.1
  refine gC ?_
  refine cd rfl ?_ ?_ <;> intro h1
  · skip
    refine sd (by omega) ?_
    refine ld (.there .here) (encKn.ld_st _ (by omega)) ?_
    refine cd rfl ?_ ?_ <;> intro h2
    · skip
      have h52 := h2
      refine XO.buildSlice (A := #[.int .i64 _]) (vs := #[(0, .int .i64 _)]) rfl (bs1_55 _) rfl rfl ?_
      intro h3
      refine gO ?_
      refine XO.appendI (e := 3) rfl rfl Tryz.underlying55 rt_3_1 (.there .here) .here (by omega) rfl ?_
      intro h4 h5
      refine gO ?_
      refine sd (by omega) ?_
      refine ag ((x.1 + 1, x.2.1 ++ [x.1], _, _)) ?_ ?_ (S3 rfl rfl rfl) (fun _ hw => XM.pick (.cons .here (.cons (.there .here) .nil)) hw)
      · skip
        (show (20 - (x.1 + 1)).toNat < (20 - x.1).toNat; omega)
      · skip
        exact ⟨(by show 0 ≤ x.1 + 1 ∧ x.1 + 1 ≤ 20; omega), (by show x.2.1 ++ [x.1] = _; rw [hL]; exact (hnx.1 (by simpa using h52)).symm)⟩
    · skip
      have h52 := h2
      refine sd (by omega) ?_
      refine ag ((x.1 + 1, x.2.1, _, _)) ?_ ?_ (S3 rfl rfl rfl) (fun _ hw => XM.pick .h2 hw)
      · skip
        (show (20 - (x.1 + 1)).toNat < (20 - x.1).toNat; omega)
      · skip
        exact ⟨(by show 0 ≤ x.1 + 1 ∧ x.1 + 1 ≤ 20; omega), (by show x.2.1 = _; rw [hL]; exact (hnx.2 (by simpa using h52)).symm)⟩
  · skip
    refine XE.ret1 rfl rfl (post_of .h2 rfl ?_)
    try dsimp only [SW.den, SV.den, dens, ofC]
    have hx21 : x.1 = 20 := by omega
    rw [hx21] at hL
    exact ⟨_, _, by rw [hL]; rfl, by rw [hL]; rfl⟩
theorem procs_begun {k : KP} {mb : Nat} (h : Begun k mb) : Vm.allL (fun n => decide ((k.u n).st = 1)) 20 = [0] := by
  have e : (fun n => decide ((k.u n).st = 1)) = fun n => decide (n = 0) := by
    funext n
    rw [h.u]
    by_cases c : n = 0
    · subst c; rw [fset_eq]; rfl
    · rw [fset_ne _ _ c, decide_eq_false c]; rfl
  rw [e]; decide
theorem k_begun  : Spec Tryz.prog 12 []
 []
 (fun x H1 => ∃ (kb : Nat) (k : KP) (vp mb : Nat) (q : Fa.SC), x = .tuple #[ptr kb 0 0, .bool true] ∧ Begun k mb ∧ q.toSF = (Q2.tick dK).2 ∧ q.Rep ∧ H1 = [.cells kb 0 453 (encKn k), .cells k.gb 0 60 (Gr.encGt G0), .cells k.sb 0 158 (Sp.encT S0), .cells k.qb 0 2281 (Fa.encS q), .fam Fa.fam30 (Fa.SC.rows 254 q), .cells k.bb 0 577 (Vm.encK vp Vm.VB.init.by_ Vm.VB.init.rf), .cells vp 0 71 (Vm.encP Vm.VB.init.bb.pool), .cells mb 0 34 (Vm.encN k.bb none (Vm.runs Vm.MS.nil.is_).length 0 Vm.MS.nil.fr Vm.MS.nil.own), frow none 0 171 3 (Vm.runs Vm.MS.nil.is_).length (Vm.rgC (Vm.runs Vm.MS.nil.is_))]) := by
  refine Spec.go 18 [0, 1, 2, 16] [] Tryz.func12 rfl rfl rfl ?_
  intro W
  refine ca (k_New) .nil ?_
  rintro _ _ ⟨kb, k, vp, mb, q, rfl, hb, hq, hr, rfl⟩
  refine gO ?_
  refine ca (k_Tick0 kb k q hq hr) (.cons .here (.cons (.t2 .here) (.cons (.t2 .here) .nil))) ?_
  rintro _ _ ⟨rfl, q2, hq2, hr2, rfl⟩
  refine gO ?_
  refine spF 11 rfl (by simp) ?_
  refine ca (k_Procs kb k) .h1 ?_
  rintro _ _ ⟨pl, cl, rfl, rfl⟩
  rw [procs_begun hb]
  refine gO ?_
  refine cdF rfl (by simp) ?_
  refine XE.ret2 rfl rfl rfl (post_of (.cons (.there .here) (.cons (.t3 .here) (.cons (.t3 .here) (.cons (.there .here) (.cons (.there .here) (.cons (.there .here) (.cons (.there .here) (.cons (.there .here) (.cons (.there .here) .nil))))))))) rfl ?_)
  try dsimp only [SW.den, SV.den, dens, ofC]
  exact ⟨kb, k, vp, mb, q2, rfl, hb, hq2, hr2, rfl⟩
end Go.X.Kn
