import Derived.Test.YthdinakloheinaaGreatDoorkJN1
namespace Go.X.Kn
open Go Go.Proofs Go.X
set_option maxRecDepth 20000
set_option maxHeartbeats 4000000


attribute [local irreducible] KA.exitA KA.settleA
set_option maxHeartbeats 16000000 in
theorem k_Fork0 (a : KA) (b : KZ) (c : KC) (N : Nat) (T : Int) (ho : a.Ok T) (hc : Con a c N T) (hT : T ≤ 800000) (n : Int) : Spec Tryz.prog 14 [ptr b.kb 0 0, .int .i64 n, .bool false]
 [.cells b.kb 0 453 (encKn (kp a b c)), .cells b.gb 0 60 (Gr.encGt a.g), .cells b.sb 0 158 (Sp.encT a.s), .cells b.qb 0 2281 (Fa.encS c.q), .fam Fa.fam30 (Fa.SC.rows 254 c.q), .cells b.bb 0 577 (Vm.encK b.vp a.v.by_ a.v.rf), .cells b.vp 0 71 (Vm.encP a.v.bb.pool), .cfam (lvA a) c.mb 34 (cN b.bb a.f c.pp c.cc), .fam (lvA a) (rN 171 a.f c.pp c.cc), .cells b.tb 0 321 (Tr.encF c.F), .fam Tr.fam40 (Tr.FC.rowsN 9 c.F), .fam Tr.fam40 (Tr.FC.rowsK 3 c.F), irow c.rp c.rc 3 c.rl, .cells b.pi 0 24 (Tr.encP a.P), .cells b.ob 0 122 (Tr.encO b.tb b.pi a.O), .cfam (hrA a) (fun z => (c.t z).b) 4 (cT b.tb c.t), .fam (hrA a) (rT 168 c.t)]
 (fun v H1 => v = .tuple #[.int .i64 (a.forkV n false), errv 102 (a.forkE n false)] ∧ ∃ c1 : KC, Con (a.forkA n false) c1 (N + 1) (T + 20) ∧ H1 = [.cells b.kb 0 453 (encKn (kp (a.forkA n false) b c1)), .cells b.gb 0 60 (Gr.encGt (a.forkA n false).g), .cells b.sb 0 158 (Sp.encT (a.forkA n false).s), .cells b.qb 0 2281 (Fa.encS c1.q), .fam Fa.fam30 (Fa.SC.rows 254 c1.q), .cells b.bb 0 577 (Vm.encK b.vp (a.forkA n false).v.by_ (a.forkA n false).v.rf), .cells b.vp 0 71 (Vm.encP (a.forkA n false).v.bb.pool), .cfam (lvA (a.forkA n false)) c1.mb 34 (cN b.bb (a.forkA n false).f c1.pp c1.cc), .fam (lvA (a.forkA n false)) (rN 171 (a.forkA n false).f c1.pp c1.cc), .cells b.tb 0 321 (Tr.encF c1.F), .fam Tr.fam40 (Tr.FC.rowsN 9 c1.F), .fam Tr.fam40 (Tr.FC.rowsK 3 c1.F), irow c1.rp c1.rc 3 c1.rl, .cells b.pi 0 24 (Tr.encP (a.forkA n false).P), .cells b.ob 0 122 (Tr.encO b.tb b.pi (a.forkA n false).O), .cfam (hrA (a.forkA n false)) (fun z => (c1.t z).b) 4 (cT b.tb c1.t), .fam (hrA (a.forkA n false)) (rT 168 c1.t)]) := by
  refine Spec.go 177 [0, 1, 2, 6, 7, 8, 9, 10, 11, 12, 13, 14, 16, 24, 37, 41, 59, 65, 132, 133, 134, 137] [(22, 0)] Tryz.func14 rfl rfl rfl ?_
  intro W
  refine ca (k_live b.kb (kp a b c) n) .h1 ?_
  rintro _ _ ⟨⟨hl, rfl⟩ | ⟨hl, rfl⟩, rfl⟩
  · skip
    try dsimp only [errvL0, errvL1, errvL2, errvL3, errvL4, errvL5, errvL6, errvL7, errvL8, errvL9, errvL10, errvL11, errvL12, errvL13]
    obtain ⟨hlr, hls⟩ := KP.live_rng hl
    have hl : a.live n = 0 := hl
    have hls : (a.u n).st = 1 := hls
    have hmem := kp_mem a b c (n := n) (by omega)
    refine gO ?_
    refine lp (σ := Int) (fun ch => (20 - ch).toNat) (fun ch => (0 ≤ ch ∧ ch ≤ 20) ∧ ∀ j : Int, 0 ≤ j → j < ch → (a.u j).st ≠ 0) (fun ch => [(10, .int .i64 ch), (0, ptr b.kb 0 0), (1, .int .i64 n), (2, .bool false), (8, ptr b.kb 0 (0 + 0 + n.toNat * 22))]) (fun ch => XM W (foot [.cells b.kb 0 453 (encKn (kp a b c)), .cells b.gb 0 60 (Gr.encGt a.g), .cells b.sb 0 158 (Sp.encT a.s), .cells b.qb 0 2281 (Fa.encS c.q), .fam Fa.fam30 (Fa.SC.rows 254 c.q), .cells b.bb 0 577 (Vm.encK b.vp a.v.by_ a.v.rf), .cells b.vp 0 71 (Vm.encP a.v.bb.pool), .cfam (lvA a) c.mb 34 (cN b.bb a.f c.pp c.cc), .fam (lvA a) (rN 171 a.f c.pp c.cc), .cells b.tb 0 321 (Tr.encF c.F), .fam Tr.fam40 (Tr.FC.rowsN 9 c.F), .fam Tr.fam40 (Tr.FC.rowsK 3 c.F), irow c.rp c.rc 3 c.rl, .cells b.pi 0 24 (Tr.encP a.P), .cells b.ob 0 122 (Tr.encO b.tb b.pi a.O), .cfam (hrA a) (fun z => (c.t z).b) 4 (cT b.tb c.t), .fam (hrA a) (rT 168 c.t)]) [.cells b.kb 0 453 (encKn (kp a b c)), .cells b.gb 0 60 (Gr.encGt a.g), .cells b.sb 0 158 (Sp.encT a.s), .cells b.qb 0 2281 (Fa.encS c.q), .fam Fa.fam30 (Fa.SC.rows 254 c.q), .cells b.bb 0 577 (Vm.encK b.vp a.v.by_ a.v.rf), .cells b.vp 0 71 (Vm.encP a.v.bb.pool), .cfam (lvA a) c.mb 34 (cN b.bb a.f c.pp c.cc), .fam (lvA a) (rN 171 a.f c.pp c.cc), .cells b.tb 0 321 (Tr.encF c.F), .fam Tr.fam40 (Tr.FC.rowsN 9 c.F), .fam Tr.fam40 (Tr.FC.rowsK 3 c.F), irow c.rp c.rc 3 c.rl, .cells b.pi 0 24 (Tr.encP a.P), .cells b.ob 0 122 (Tr.encO b.tb b.pi a.O), .cfam (hrA a) (fun z => (c.t z).b) 4 (cT b.tb c.t), .fam (hrA a) (rT 168 c.t)]) (0) ?_ (S5 rfl rfl rfl rfl rfl) (fun _ hw => XM.pick .h17 hw) ?_
    · skip
      exact ⟨by omega, fun j j0 j1 => by omega⟩
    intro ch hch
    have hch1 := hch.1
    refine gC ?_
    refine sp 28 rfl ?_ ?_ <;> intro h1
    · skip
      refine sd (by omega) ?_
      refine ld .here (encKn.ld_st _ (by omega)) ?_
      refine cd rfl ?_ ?_ <;> intro h2
      · skip
        have hst0 : (a.u ch).st ≠ 0 := h2
        refine sd (by omega) ?_
        refine ag (ch + 1) ?_ ?_ (S5 rfl rfl rfl rfl rfl) (fun _ hw => XM.pick .h17 hw)
        · skip
          (first | omega | (simp; done) | (simp; omega))
        · skip
          refine ⟨by omega, fun j j0 j1 => ?_⟩
          by_cases e : j = ch
          · subst e; assumption
          · exact hch.2 j j0 (by omega)
      · skip
        have hc0 : (a.u ch).st = 0 := by
          have h9 := h2
          have e9 : ((kp a b c).u ch).st = (a.u ch).st := rfl
          omega
        refine cdF rfl (by omega) ?_
        refine XR.mono (fun _ hw3 => XM.outM (z := n.toNat) (lvA_at hlr (by omega)) (.cons (.t7 .here) (.cons (.t7 .here) .nil)) hw3) ?_
        refine ld (.t4 .here) (encKn.ld_memP _ (by omega) hmem) ?_
        refine ca (Vm.v_Resident b.bb _ _ _ (a.f n.toNat) (ho.wk.sys.mo n.toNat (by omega))) .h1 ?_
        rintro _ _ ⟨rfl, rfl⟩
        refine gO ?_
        refine rq [0, 1, 2, 3, 4, 5, 6, 7, 8, 9, 10] mixed (by kernel_rfl) ?_
        refine ld (.t4 .here) (encKn.ld_g _) ?_
        refine ld (.t4 .here) (encKn.ld_grp _ (by omega)) ?_
        refine ca (Gr.g_charge _ _ a.g ho.wk.gI.ok _ _ _ (1000 * T) (by have := ho.wk.T0; omega) ho.wk.gS) (.cons (.t5 .here) .nil) ?_
        rintro _ _ ⟨rfl, rfl⟩
        refine gO ?_
        refine cd rfl ?_ ?_ <;> intro h3
        · skip
          have hge := h3
          refine XR.mono (fun _ hw3 => XM.sameM (f := a.f) (z := n.toNat) (ps := c.pp) (cs := c.cc) (mb := c.mb) (lvA_at hlr (by omega)) (.cons (.there .here) (.cons (.there .here) (.cons (.there .here) (.cons (.there .here) .nil)))) hw3) ?_
          refine XE.ret2 rfl rfl rfl (post_of (.cons (.t3 .here) (.cons (.t2 .here) (.cons (.t2 .here) (.cons (.t2 .here) (.cons (.t2 .here) (.cons (.t2 .here) (.cons (.t2 .here) .h10))))))) rfl ?_)
          try dsimp only [SW.den, SV.den, dens, ofC]
          have hfc : a.free = ch := KA.free_at ⟨hch.1.1, by omega⟩ hc0 hch.2
          have hg0 : a.gE n ≠ 0 := hge
          have e1 : a.forkE n false = a.gE n := by unfold KA.forkE; rw [if_neg (by omega), if_neg (by omega), if_pos hg0]
          have e2 : a.forkV n false = 0 := by unfold KA.forkV; rw [if_neg (by omega)]
          have e3 : a.forkA n false = a := by unfold KA.forkA; rw [if_pos (by omega)]
          have hce : a.g.charge ((kp a b c).u n).grp 1 (a.f n.toNat).res = a.g := charge_err hg0
          rw [e1, e2, e3]
          rw [hce]
          exact ⟨rfl, c, hc.up (by omega) (by omega), rfl⟩
        · skip
          have hge0 : a.gE n = 0 := by
            have h9 := h3
            have e9 : a.g.chargeE (a.u n).grp 1 (a.f n.toNat).res = a.gE n := rfl
            have e8 : a.g.chargeE ((kp a b c).u n).grp 1 (a.f n.toNat).res = a.gE n := rfl
            omega
          refine ca (k_space b.kb (kp a b c) a.s n) (.cons (.t5 .here) (.cons (.t5 .here) .nil)) ?_
          rintro _ _ ⟨rfl, rfl⟩
          refine gO ?_
          refine ld .here (encKn.ld_s _) ?_
          refine ca (Sp.t_Enter _ _ a.s a.dep ho.wk.sI.D (a.s.in_ n).1 ch) (.cons (.there .here) .nil) ?_
          rintro _ _ ⟨rfl, rfl⟩
          refine gO ?_
          refine ctG (σ := Nat × Nat × Option Addr × Nat) (fun _ => True) (fun y => [(0, ptr b.kb 0 0), (8, ptr b.kb 0 (0 + 0 + n.toNat * 22)), (10, .int .i64 ch), (12, .int .i64 (a.s.in_ n).1), (14, ptr y.2.1 0 0)]) (fun y => XM W (foot [.cells b.kb 0 453 (encKn (kp a b c)), .cells b.gb 0 60 (Gr.encGt a.g), .cells b.sb 0 158 (Sp.encT a.s), .cells b.qb 0 2281 (Fa.encS c.q), .fam Fa.fam30 (Fa.SC.rows 254 c.q), .cells b.bb 0 577 (Vm.encK b.vp a.v.by_ a.v.rf), .cells b.vp 0 71 (Vm.encP a.v.bb.pool), .cfam (lvA a) c.mb 34 (cN b.bb a.f c.pp c.cc), .fam (lvA a) (rN 171 a.f c.pp c.cc), .cells b.tb 0 321 (Tr.encF c.F), .fam Tr.fam40 (Tr.FC.rowsN 9 c.F), .fam Tr.fam40 (Tr.FC.rowsK 3 c.F), irow c.rp c.rc 3 c.rl, .cells b.pi 0 24 (Tr.encP a.P), .cells b.ob 0 122 (Tr.encO b.tb b.pi a.O), .cfam (hrA a) (fun z => (c.t z).b) 4 (cT b.tb c.t), .fam (hrA a) (rT 168 c.t)]) [.cells b.kb 0 453 (encKn (kp a b c)), .cells b.gb 0 60 (Gr.encGt (a.gC n)), .cells b.sb 0 158 (Sp.encT (a.s.enter a.dep (a.s.in_ n).1 ch).2.2), .cells b.qb 0 2281 (Fa.encS c.q), .fam Fa.fam30 (Fa.SC.rows 254 c.q), .cells b.bb 0 577 (Vm.encK b.vp (a.v.fork (a.f n.toNat)).by_ (a.v.fork (a.f n.toNat)).rf), .cells b.vp 0 71 (Vm.encP (a.v.fork (a.f n.toNat)).bb.pool), .cells (c.mb n.toNat) 0 34 (Vm.encN b.bb (c.pp n.toNat) (Vm.runs (a.f n.toNat).is_).length (c.cc n.toNat) (a.f n.toNat).fr (fun _ => false)), frow (c.pp n.toNat) (c.cc n.toNat) 171 3 (Vm.runs (a.f n.toNat).is_).length (Vm.rgC (Vm.runs (a.f n.toNat).is_)), .cells y.1 0 34 (Vm.encN b.bb y.2.2.1 (Vm.runs (a.f n.toNat).is_).length y.2.2.2 (a.f n.toNat).fr (fun _ => false)), frow y.2.2.1 y.2.2.2 171 3 (Vm.runs (a.f n.toNat).is_).length (Vm.rgC (Vm.runs (a.f n.toNat).is_)), .cfam (outP (lvA a) n.toNat) c.mb 34 (cN b.bb a.f c.pp c.cc), .fam (outP (lvA a) n.toNat) (rN 171 a.f c.pp c.cc), .cells b.tb 0 321 (Tr.encF c.F), .fam Tr.fam40 (Tr.FC.rowsN 9 c.F), .fam Tr.fam40 (Tr.FC.rowsK 3 c.F), irow c.rp c.rc 3 c.rl, .cells b.pi 0 24 (Tr.encP a.P), .cells b.ob 0 122 (Tr.encO b.tb b.pi (shN (a.u n).fd a.O (0 : Int).toNat)), .cfam (hrA a) (fun z => (c.t z).b) 4 (cT b.tb c.t), .fam (hrA a) (rT 168 c.t), .cells y.2.1 0 22 (((kp a b c).kid n y.1).cell)]) ?_ ?_
          · skip
            refine XC.regionQ mixed (f := 23) (l := #[false, false, false, false, false, false, false, false, false, false, false, false, false, false, false, false, false, false, false, false, false, false, false]) rfl rfl XM.drawn' ?_
            refine XQ.pv (i := 0) (l' := #[true, false, false, false, false, false, false, false, false, false, false, false, false, false, false, false, false, false, false, false, false, false, false]) rfl (by kernel_rfl) rfl (V.move rfl) rfl rfl ?_
            refine XQ.pv (i := 1) (l' := #[true, true, false, false, false, false, false, false, false, false, false, false, false, false, false, false, false, false, false, false, false, false, false]) rfl (by kernel_rfl) rfl (V.move rfl) rfl rfl ?_
            refine XQ.pv (i := 2) (l' := #[true, true, true, false, false, false, false, false, false, false, false, false, false, false, false, false, false, false, false, false, false, false, false]) rfl (by kernel_rfl) rfl (V.nilCheckP rfl) rfl rfl ?_
            refine XQ.pv (i := 3) (l' := #[true, true, true, true, false, false, false, false, false, false, false, false, false, false, false, false, false, false, false, false, false, false, false]) rfl (by kernel_rfl) rfl (V.fieldAddr rfl fo_89_2) rfl rfl ?_
            refine XQ.load (i := 4) (l' := #[true, true, true, true, true, false, false, false, false, false, false, false, false, false, false, false, false, false, false, false, false, false, false]) (.cells _ _ _ _) [22] rfl (by kernel_rfl) rfl (.there .here) (V.load rfl inEnt (encKn.ld_grp _ (by omega)) sc_3) rfl (by kernel_rfl) rfl ?_
            refine XQ.pv (i := 5) (l' := #[true, true, true, true, true, true, false, false, false, false, false, false, false, false, false, false, false, false, false, false, false, false, false]) rfl (by kernel_rfl) rfl (V.move rfl) rfl rfl ?_
            refine XQ.pv (i := 6) (l' := #[true, true, true, true, true, true, true, false, false, false, false, false, false, false, false, false, false, false, false, false, false, false, false]) rfl (by kernel_rfl) rfl (V.nilCheckP rfl) rfl rfl ?_
            refine XQ.pv (i := 7) (l' := #[true, true, true, true, true, true, true, true, false, false, false, false, false, false, false, false, false, false, false, false, false, false, false]) rfl (by kernel_rfl) rfl (V.fieldAddr rfl fo_89_4) rfl rfl ?_
            refine XQ.load (i := 8) (l' := #[true, true, true, true, true, true, true, true, true, false, false, false, false, false, false, false, false, false, false, false, false, false, false]) (.cells _ _ _ _) [9, 17, 22] rfl (by kernel_rfl) rfl (.there .here) (V.load rfl inEnt (encKn.ld_memP _ (by omega) hmem) sc_82) rfl (by kernel_rfl) rfl ?_
            refine XQ.pv (i := 10) (l' := #[true, true, true, true, true, true, true, true, true, false, true, false, false, false, false, false, false, false, false, false, false, false, false]) rfl (by kernel_rfl) rfl (V.move rfl) rfl rfl ?_
            refine XQ.pv (i := 11) (l' := #[true, true, true, true, true, true, true, true, true, false, true, true, false, false, false, false, false, false, false, false, false, false, false]) rfl (by kernel_rfl) rfl (V.nilCheckP rfl) rfl rfl ?_
            refine XQ.pv (i := 12) (l' := #[true, true, true, true, true, true, true, true, true, false, true, true, true, false, false, false, false, false, false, false, false, false, false]) rfl (by kernel_rfl) rfl (V.fieldAddr rfl fo_89_5) rfl rfl ?_
            refine XQ.load (i := 13) (l' := #[true, true, true, true, true, true, true, true, true, false, true, true, true, true, false, false, false, false, false, false, false, false, false]) (.cells _ _ _ _) [22] rfl (by kernel_rfl) rfl (.there .here) (V.loadAgg rfl inEnt (encKn.ld_fds _ (by omega)) ag_83 sz_83_6) rfl (by kernel_rfl) rfl ?_
            refine XQ.pv (i := 14) (l' := #[true, true, true, true, true, true, true, true, true, false, true, true, true, true, true, false, false, false, false, false, false, false, false]) rfl (by kernel_rfl) rfl (V.move rfl) rfl rfl ?_
            refine XQ.pv (i := 15) (l' := #[true, true, true, true, true, true, true, true, true, false, true, true, true, true, true, true, false, false, false, false, false, false, false]) rfl (by kernel_rfl) rfl (V.nilCheckP rfl) rfl rfl ?_
            refine XQ.pv (i := 16) (l' := #[true, true, true, true, true, true, true, true, true, false, true, true, true, true, true, true, true, false, false, false, false, false, false]) rfl (by kernel_rfl) rfl (V.fieldAddr rfl fo_89_6) rfl rfl ?_
            refine XQ.fork (i := 9) (j := 21) (by kernel_rfl) ?_ ?_
            · skip
              refine XS.call (i := 9) (l' := #[true, true, true, true, true, true, true, true, true, true, true, true, true, true, true, true, true, false, false, false, false, false, false]) rfl rfl rfl (Vm.v_Fork b.bb b.vp _ a.v ho.wk.sys.acc.ok _ _ (a.f n.toNat) (ho.wk.sys.mo n.toNat (by omega))) (.cons (.t9 .here) (.cons (.t3 .here) (.cons (.t3 .here) .nil))) cl_57 rfl (by rintro _ _ ⟨nb, p1, c1, rfl, rfl⟩; all_goals (intro _ hw'; exact ⟨fun _ => inXM (.t6 .here) _ hw', fun hs => (hs 9 (by first | (simp; done) | (simp; rfl)) rfl).elim, fun _ => inXM (.t6 .here) _ hw', trivial⟩)) ?_
              rintro _ _ ⟨nb, p1, c1, rfl, rfl⟩
              refine XQ.fork (i := 17) (j := 21) (by kernel_rfl) ?_ ?_
              · skip
                refine XS.call (i := 17) (l' := #[true, true, true, true, true, true, true, true, true, true, true, true, true, true, true, true, true, true, false, false, false, false, false]) rfl rfl rfl (k_Child b.kb (kp a b c) n hlr) (.cons (.t6 .here) .nil) cl_58 rfl (by rintro _ _ ⟨bc, rfl, rfl⟩; all_goals (intro _ hw'; exact ⟨fun _ => inXM (.there .here) _ hw', fun hs => (hs 9 (by first | (simp; done) | (simp; rfl)) rfl).elim, fun _ => inXM (.there .here) _ hw', trivial⟩)) ?_
                rintro _ _ ⟨bc, rfl, rfl⟩
                refine XQ.pv (i := 18) (l' := #[true, true, true, true, true, true, true, true, true, true, true, true, true, true, true, true, true, true, true, false, false, false, false]) rfl (by kernel_rfl) rfl (V.nilCheckP rfl) rfl rfl ?_
                refine XQ.load (i := 19) (l' := #[true, true, true, true, true, true, true, true, true, true, true, true, true, true, true, true, true, true, true, true, false, false, false]) (.cells _ _ _ _) [22] rfl (by kernel_rfl) rfl .here (V.loadAgg rfl inEnt (Sg.encB_load _) ag_87 sz_87_11) rfl (by kernel_rfl) rfl ?_
                refine XQ.pv (i := 20) (l' := #[true, true, true, true, true, true, true, true, true, true, true, true, true, true, true, true, true, true, true, true, true, false, false]) rfl (by kernel_rfl) rfl (V.build (vs := #[(0, .int .i64 1), (1, .int .i64 n), (2, .int .i64 (a.u n).grp), (4, ptr nb 0 0), (5, .agg (fdA (a.u n).fd)), (6, .agg (bxA (a.u n).bx.child))]) rfl (v := .agg ((kp a b c).kid n nb).arr) (kid_build n _ nb _ _)) rfl rfl ?_
                refine XQ.allocZ (i := 21) (l' := #[true, true, true, true, true, true, true, true, true, true, true, true, true, true, true, true, true, true, true, true, true, true, false]) (z := (.agg PU.nil.arr)) (m := 22) (C := PU.nil.cell) rfl (by kernel_rfl) rfl (by kernel_rfl) rfl (PU.box PU.nil) rfl (fun _ _ hw' => ⟨fun _ => inXM (.there .here) _ hw', fun _ => inXM (.t2 .here) _ hw', fun hs => (hs 9 (by first | (simp; done) | (simp; rfl)) rfl).elim, fun _ => inXM (.t2 .here) _ hw', trivial⟩) ?_
                intro ba
                refine XQ.storeAgg (i := 22) (l' := #[true, true, true, true, true, true, true, true, true, true, true, true, true, true, true, true, true, true, true, true, true, true, true]) rfl (by kernel_rfl) rfl rfl rfl .here (PU.put_ _ _) ⟨rfl, rfl⟩ sz_89_22 (fun _ hw' => ⟨fun hs => (hs 22 (by first | (simp; done) | (simp; rfl)) rfl).elim, fun hs => (hs 22 (by first | (simp; done) | (simp; rfl)) rfl).elim, fun hs => (hs 9 (by first | (simp; done) | (simp; rfl)) rfl).elim, fun hs => (hs 22 (by first | (simp; done) | (simp; rfl)) rfl).elim, trivial⟩) ?_
                refine XQ.done (by kernel_rfl) ?_
                refine gE ?_
                refine mtG ((nb, ba, p1, c1)) ?_ (S5 rfl rfl rfl rfl rfl) (fun _ hw => XM.pick (.cons (.t2 .here) (.cons (.t8 .here) (.cons (.t7 .here) (.cons (.t9 .here) (.cons (.t9 .here) (.cons (.t2 .here) (.cons (.t8 .here) (.cons (.t2 .here) (.cons (.t2 .here) (.cons (.t2 .here) (.cons (.t2 .here) (.cons (.t2 .here) (.cons (.t2 .here) (.cons (.t2 .here) (.cons (.t2 .here) (.cons (.t2 .here) (.cons (.t2 .here) (.cons (.t2 .here) (.cons (.t2 .here) (.cons (.t2 .here) (.cons (.t2 .here) .h1))))))))))))))))))))) hw)
                trivial
              · skip
                refine XS.allocZ (i := 21) (l' := #[true, true, true, true, true, true, true, true, true, true, true, true, true, true, true, true, true, false, false, false, false, true, false]) (z := (.agg PU.nil.arr)) (m := 22) (C := PU.nil.cell) rfl rfl (by kernel_rfl) rfl (PU.box PU.nil) rfl (fun _ _ hw' => ⟨fun _ => inXM (.t7 .here) _ hw', fun hs => (hs 9 (by first | (simp; done) | (simp; rfl)) rfl).elim, fun _ => inXM (.t7 .here) _ hw', trivial⟩) ?_
                intro ba
                refine XQ.call (i := 17) (l' := #[true, true, true, true, true, true, true, true, true, true, true, true, true, true, true, true, true, true, false, false, false, true, false]) rfl (by kernel_rfl) rfl rfl (k_Child b.kb (kp a b c) n hlr) (.cons (.t7 .here) .nil) cl_58 rfl (by rintro _ _ ⟨bc, rfl, rfl⟩; all_goals (intro _ hw'; exact ⟨fun _ => inXM (.there .here) _ hw', fun hs => (hs 9 (by first | (simp; done) | (simp; rfl)) rfl).elim, fun _ => inXM (.there .here) _ hw', trivial⟩)) ?_
                rintro _ _ ⟨bc, rfl, rfl⟩
                refine XQ.pv (i := 18) (l' := #[true, true, true, true, true, true, true, true, true, true, true, true, true, true, true, true, true, true, true, false, false, true, false]) rfl (by kernel_rfl) rfl (V.nilCheckP rfl) rfl rfl ?_
                refine XQ.load (i := 19) (l' := #[true, true, true, true, true, true, true, true, true, true, true, true, true, true, true, true, true, true, true, true, false, true, false]) (.cells _ _ _ _) [22] rfl (by kernel_rfl) rfl .here (V.loadAgg rfl inEnt (Sg.encB_load _) ag_87 sz_87_11) rfl (by kernel_rfl) rfl ?_
                refine XQ.pv (i := 20) (l' := #[true, true, true, true, true, true, true, true, true, true, true, true, true, true, true, true, true, true, true, true, true, true, false]) rfl (by kernel_rfl) rfl (V.build (vs := #[(0, .int .i64 1), (1, .int .i64 n), (2, .int .i64 (a.u n).grp), (4, ptr nb 0 0), (5, .agg (fdA (a.u n).fd)), (6, .agg (bxA (a.u n).bx.child))]) rfl (v := .agg ((kp a b c).kid n nb).arr) (kid_build n _ nb _ _)) rfl rfl ?_
                refine XQ.storeAgg (i := 22) (l' := #[true, true, true, true, true, true, true, true, true, true, true, true, true, true, true, true, true, true, true, true, true, true, true]) rfl (by kernel_rfl) rfl rfl rfl (.t2 .here) (PU.put_ _ _) ⟨rfl, rfl⟩ sz_89_22 (fun _ hw' => ⟨fun hs => (hs 22 (by first | (simp; done) | (simp; rfl)) rfl).elim, fun hs => (hs 22 (by first | (simp; done) | (simp; rfl)) rfl).elim, fun hs => (hs 9 (by first | (simp; done) | (simp; rfl)) rfl).elim, fun hs => (hs 22 (by first | (simp; done) | (simp; rfl)) rfl).elim, trivial⟩) ?_
                refine XQ.done (by kernel_rfl) ?_
                refine gE ?_
                refine mtG ((nb, ba, p1, c1)) ?_ (S5 rfl rfl rfl rfl rfl) (fun _ hw => XM.pick (.cons (.there .here) (.cons (.t8 .here) (.cons (.t7 .here) (.cons (.t9 .here) (.cons (.t9 .here) (.cons (.t2 .here) (.cons (.t8 .here) (.cons (.t2 .here) (.cons (.t2 .here) (.cons (.t2 .here) (.cons (.t2 .here) (.cons (.t2 .here) (.cons (.t2 .here) (.cons (.t2 .here) (.cons (.t2 .here) (.cons (.t2 .here) (.cons (.t2 .here) (.cons (.t2 .here) (.cons (.t2 .here) (.cons (.t2 .here) (.cons (.t2 .here) (.cons (.there .here) .nil)))))))))))))))))))))) hw)
                trivial
            · skip
              refine XS.allocZ (i := 21) (l' := #[true, true, true, true, true, true, true, true, true, false, true, true, true, true, true, true, true, false, false, false, false, true, false]) (z := (.agg PU.nil.arr)) (m := 22) (C := PU.nil.cell) rfl rfl (by kernel_rfl) rfl (PU.box PU.nil) rfl (fun _ _ hw' => ⟨fun _ => inXM (.t2 .here) _ hw', fun _ => inXM (.t2 .here) _ hw', fun _ => inXM (.t2 .here) _ hw', trivial⟩) ?_
              intro ba
              refine XQ.call (i := 9) (l' := #[true, true, true, true, true, true, true, true, true, true, true, true, true, true, true, true, true, false, false, false, false, true, false]) rfl (by kernel_rfl) rfl rfl (Vm.v_Fork b.bb b.vp _ a.v ho.wk.sys.acc.ok _ _ (a.f n.toNat) (ho.wk.sys.mo n.toNat (by omega))) (.cons (.t10 .here) (.cons (.t4 .here) (.cons (.t4 .here) .nil))) cl_57 rfl (by rintro _ _ ⟨nb, p1, c1, rfl, rfl⟩; all_goals (intro _ hw'; exact ⟨fun _ => inXM (.t7 .here) _ hw', fun hs => (hs 9 (by first | (simp; done) | (simp; rfl)) rfl).elim, fun _ => inXM (.t7 .here) _ hw', trivial⟩)) ?_
              rintro _ _ ⟨nb, p1, c1, rfl, rfl⟩
              refine XQ.call (i := 17) (l' := #[true, true, true, true, true, true, true, true, true, true, true, true, true, true, true, true, true, true, false, false, false, true, false]) rfl (by kernel_rfl) rfl rfl (k_Child b.kb (kp a b c) n hlr) (.cons (.t7 .here) .nil) cl_58 rfl (by rintro _ _ ⟨bc, rfl, rfl⟩; all_goals (intro _ hw'; exact ⟨fun _ => inXM (.there .here) _ hw', fun hs => (hs 9 (by first | (simp; done) | (simp; rfl)) rfl).elim, fun _ => inXM (.there .here) _ hw', trivial⟩)) ?_
              rintro _ _ ⟨bc, rfl, rfl⟩
              refine XQ.pv (i := 18) (l' := #[true, true, true, true, true, true, true, true, true, true, true, true, true, true, true, true, true, true, true, false, false, true, false]) rfl (by kernel_rfl) rfl (V.nilCheckP rfl) rfl rfl ?_
              refine XQ.load (i := 19) (l' := #[true, true, true, true, true, true, true, true, true, true, true, true, true, true, true, true, true, true, true, true, false, true, false]) (.cells _ _ _ _) [22] rfl (by kernel_rfl) rfl .here (V.loadAgg rfl inEnt (Sg.encB_load _) ag_87 sz_87_11) rfl (by kernel_rfl) rfl ?_
              refine XQ.pv (i := 20) (l' := #[true, true, true, true, true, true, true, true, true, true, true, true, true, true, true, true, true, true, true, true, true, true, false]) rfl (by kernel_rfl) rfl (V.build (vs := #[(0, .int .i64 1), (1, .int .i64 n), (2, .int .i64 (a.u n).grp), (4, ptr nb 0 0), (5, .agg (fdA (a.u n).fd)), (6, .agg (bxA (a.u n).bx.child))]) rfl (v := .agg ((kp a b c).kid n nb).arr) (kid_build n _ nb _ _)) rfl rfl ?_
              refine XQ.storeAgg (i := 22) (l' := #[true, true, true, true, true, true, true, true, true, true, true, true, true, true, true, true, true, true, true, true, true, true, true]) rfl (by kernel_rfl) rfl rfl rfl (.t7 .here) (PU.put_ _ _) ⟨rfl, rfl⟩ sz_89_22 (fun _ hw' => ⟨fun hs => (hs 22 (by first | (simp; done) | (simp; rfl)) rfl).elim, fun hs => (hs 22 (by first | (simp; done) | (simp; rfl)) rfl).elim, fun hs => (hs 9 (by first | (simp; done) | (simp; rfl)) rfl).elim, fun hs => (hs 22 (by first | (simp; done) | (simp; rfl)) rfl).elim, trivial⟩) ?_
              refine XQ.done (by kernel_rfl) ?_
              refine gE ?_
              refine mtG ((nb, ba, p1, c1)) ?_ (S5 rfl rfl rfl rfl rfl) (fun _ hw => XM.pick (.cons (.there .here) (.cons (.t8 .here) (.cons (.t7 .here) (.cons (.t9 .here) (.cons (.t9 .here) (.cons (.there .here) (.cons (.t8 .here) (.cons (.there .here) (.cons (.there .here) (.cons (.there .here) (.cons (.there .here) (.cons (.t2 .here) (.cons (.t2 .here) (.cons (.t2 .here) (.cons (.t2 .here) (.cons (.t2 .here) (.cons (.t2 .here) (.cons (.t2 .here) (.cons (.t2 .here) (.cons (.t2 .here) (.cons (.t2 .here) (.cons (.there .here) .nil)))))))))))))))))))))) hw)
              trivial
          intro y hy
          refine gC ?_
          refine ldA (.t12 (.t9 .here)) (PU.fds _) ?_
          refine lp (σ := Int) (fun i => (6 - i).toNat) (fun i => 0 ≤ i ∧ i ≤ 6) (fun i => [(133, .int .i64 i), (0, ptr b.kb 0 0), (8, ptr b.kb 0 (0 + 0 + n.toNat * 22)), (10, .int .i64 ch), (12, .int .i64 (a.s.in_ n).1), (14, ptr y.2.1 0 0), (132, .agg (fdA (a.u n).fd))]) (fun i => XM W (foot [.cells b.kb 0 453 (encKn (kp a b c)), .cells b.gb 0 60 (Gr.encGt a.g), .cells b.sb 0 158 (Sp.encT a.s), .cells b.qb 0 2281 (Fa.encS c.q), .fam Fa.fam30 (Fa.SC.rows 254 c.q), .cells b.bb 0 577 (Vm.encK b.vp a.v.by_ a.v.rf), .cells b.vp 0 71 (Vm.encP a.v.bb.pool), .cfam (lvA a) c.mb 34 (cN b.bb a.f c.pp c.cc), .fam (lvA a) (rN 171 a.f c.pp c.cc), .cells b.tb 0 321 (Tr.encF c.F), .fam Tr.fam40 (Tr.FC.rowsN 9 c.F), .fam Tr.fam40 (Tr.FC.rowsK 3 c.F), irow c.rp c.rc 3 c.rl, .cells b.pi 0 24 (Tr.encP a.P), .cells b.ob 0 122 (Tr.encO b.tb b.pi a.O), .cfam (hrA a) (fun z => (c.t z).b) 4 (cT b.tb c.t), .fam (hrA a) (rT 168 c.t)]) [.cells b.kb 0 453 (encKn (kp a b c)), .cells b.gb 0 60 (Gr.encGt (a.gC n)), .cells b.sb 0 158 (Sp.encT (a.s.enter a.dep (a.s.in_ n).1 ch).2.2), .cells b.qb 0 2281 (Fa.encS c.q), .fam Fa.fam30 (Fa.SC.rows 254 c.q), .cells b.bb 0 577 (Vm.encK b.vp (a.v.fork (a.f n.toNat)).by_ (a.v.fork (a.f n.toNat)).rf), .cells b.vp 0 71 (Vm.encP (a.v.fork (a.f n.toNat)).bb.pool), .cells (c.mb n.toNat) 0 34 (Vm.encN b.bb (c.pp n.toNat) (Vm.runs (a.f n.toNat).is_).length (c.cc n.toNat) (a.f n.toNat).fr (fun _ => false)), frow (c.pp n.toNat) (c.cc n.toNat) 171 3 (Vm.runs (a.f n.toNat).is_).length (Vm.rgC (Vm.runs (a.f n.toNat).is_)), .cells y.1 0 34 (Vm.encN b.bb y.2.2.1 (Vm.runs (a.f n.toNat).is_).length y.2.2.2 (a.f n.toNat).fr (fun _ => false)), frow y.2.2.1 y.2.2.2 171 3 (Vm.runs (a.f n.toNat).is_).length (Vm.rgC (Vm.runs (a.f n.toNat).is_)), .cfam (outP (lvA a) n.toNat) c.mb 34 (cN b.bb a.f c.pp c.cc), .fam (outP (lvA a) n.toNat) (rN 171 a.f c.pp c.cc), .cells b.tb 0 321 (Tr.encF c.F), .fam Tr.fam40 (Tr.FC.rowsN 9 c.F), .fam Tr.fam40 (Tr.FC.rowsK 3 c.F), irow c.rp c.rc 3 c.rl, .cells b.pi 0 24 (Tr.encP a.P), .cells b.ob 0 122 (Tr.encO b.tb b.pi (shN (a.u n).fd a.O i.toNat)), .cfam (hrA a) (fun z => (c.t z).b) 4 (cT b.tb c.t), .fam (hrA a) (rT 168 c.t), .cells y.2.1 0 22 (((kp a b c).kid n y.1).cell)]) (0) ?_ (.cons rfl (S6 rfl rfl rfl rfl rfl rfl)) (fun _ hw => XM.pick .h22 hw) ?_
          · skip
            omega
          intro i hi
          have hfdi := ho.wk.fd n i
          refine gC ?_
          refine cd rfl ?_ ?_ <;> intro h4
          · skip
            refine XO.v (V.indexArrV rfl rfl Tryz.underlying83 sz_3_1 sc_3 (by omega)) rfl (gO ?_)
            refine cd rfl ?_ ?_ <;> intro h5
            · skip
              have h26 : (a.u n).fd i > 0 := h5
              refine ld .here (encKn.ld_o _) ?_
              refine sd (by omega) ?_
              refine ca (Tr.f_Share _ _ _ _ _ (T + 6) (by omega) ((shN_inv (f := (a.u n).fd) ho.wk.OI i.toNat).mono (by omega)) _) (.cons (.t12 (.t6 .here)) .nil) ?_
              rintro _ _ ⟨rfl, rfl⟩
              refine gO ?_
              refine sd (by omega) ?_
              refine ag (i + 1) ?_ ?_ (.cons rfl (S6 rfl rfl rfl rfl rfl rfl)) (fun _ hw2 => by rw [shN_hit _ hi.1 h26]; exact XM.pick (.cons (.there .here) (.cons (.there .here) (.cons (.there .here) (.cons (.there .here) (.cons (.there .here) (.cons (.there .here) (.cons (.there .here) (.cons (.there .here) (.cons (.there .here) (.cons (.there .here) (.cons (.there .here) (.cons (.there .here) (.cons (.there .here) (.cons (.there .here) (.cons (.there .here) (.cons (.there .here) (.cons (.there .here) (.cons (.there .here) .h4)))))))))))))))))) hw2)
              · skip
                (first | omega | (simp; done) | (simp; omega))
              · skip
                (first | omega | (simp; done) | (simp; omega))
            · skip
              have h26 : ¬ (a.u n).fd i > 0 := h5
              refine sd (by omega) ?_
              refine ag (i + 1) ?_ ?_ (.cons rfl (S6 rfl rfl rfl rfl rfl rfl)) (fun _ hw2 => by rw [shN_miss _ hi.1 h26]; exact XM.pick .h22 hw2)
              · skip
                (first | omega | (simp; done) | (simp; omega))
              · skip
                (first | omega | (simp; done) | (simp; omega))
          · skip
            refine rq [0, 1, 2, 3, 4, 5, 6] mixed (by kernel_rfl) ?_
            refine ldA (.t12 (.t9 .here)) (PU.agg _) ?_
            refine sd (by omega) ?_
            refine stA .here (encKn.put_ _ (by omega) _) rfl ⟨rfl, rfl⟩ ?_
            refine rq [0, 1, 2, 3, 4, 5, 6, 7, 8, 9] mixed (by kernel_rfl) ?_
            refine ld .here (encKn.ld_q _) ?_
            refine ld .here (encKn.ld_grp _ (by omega)) ?_
            refine ca (Fa.f_AddTask _ _ c.q c.d hc.qO.inv hc.qR ch _ 100) (.cons (.t3 .here) (.cons (.t3 .here) .nil)) ?_
            rintro _ _ ⟨rfl, q1, hq1, hr1, rfl⟩
            obtain ⟨d1, hok1⟩ : ∃ d1, q1.toSF.Ok d1 (N + 1) N := by rw [hq1]; exact hc.qO.addT (by omega) _ _ _
            refine gO ?_
            refine ld (.t2 .here) (encKn.ld_q _) ?_
            refine ca (Fa.f_wake _ _ q1 d1 hok1.inv hr1 ch true) .h2 ?_
            rintro _ _ ⟨rfl, q2, hq2, hr2, rfl⟩
            have hok2 : q2.toSF.Ok d1 (N + 1) N := by rw [hq2]; exact hok1.wake _ _
            refine gO ?_
            refine ld (.t2 .here) (encKn.ld_s _) ?_
            refine ca (Sp.t_Pid _ _ (a.s.enter a.dep (a.s.in_ n).1 ch).2.2 _ _) (.cons (.t4 .here) .nil) ?_
            rintro _ _ ⟨rfl, rfl⟩
            refine gO ?_
            refine XR.mono (fun _ hw3 => XM.backM (f := a.f) (a.f n.toNat).bare (lvA_at hlr (by omega)) (.cons (.t7 .here) (.cons (.t7 .here) (.cons (.t9 .here) (.cons (.t9 .here) .nil)))) hw3) ?_
            refine XR.mono (fun _ hw3 => XM.newM (a.f n.toNat).bare (lvA_no ⟨hch.1.1, by omega⟩ hc0) (.cons (.t9 .here) (.cons (.t9 .here) .h2)) hw3) ?_
            refine XE.ret2 rfl rfl rfl (post_of (.cons (.t5 .here) (.cons (.t5 .here) (.cons (.t2 .here) (.cons (.t2 .here) (.cons (.t2 .here) (.cons (.t2 .here) (.cons (.t2 .here) .h10))))))) rfl ?_)
            try dsimp only [SW.den, SV.den, dens, ofC]
            have hi6 : i = 6 := by omega
            subst hi6
            have hfc : a.free = ch := KA.free_at ⟨hch.1.1, by omega⟩ hc0 hch.2
            subst hfc
            have hI := ho.wk.fkI (n := n) (own := false) (SS.Inv.at0 ho.wk.sI ho.r0.loc) hl (by omega) rfl
            have hg0 : a.gE n = 0 := hge0
            have e1 : a.forkE n false = 0 := by unfold KA.forkE; rw [if_neg (by omega), if_neg (by omega), if_neg (by omega)]; rfl
            have e2 : a.forkV n false = ((a.forkC n false).s.pid a.free (a.sz n)).1 := by unfold KA.forkV; rw [if_pos e1]
            have e3 : a.forkA n false = a.forkC n false := by unfold KA.forkA; rw [if_neg (by omega), if_neg (by exact fun q => q rfl)]
            have e4 : ((a.forkC n false).s.pid a.free (a.sz n)).2 = 0 := hI.pid.1
            have hc2 : Con (a.forkC n false) { c with mb := fupd c.mb a.free.toNat y.1, pp := fupd (fupd c.pp n.toNat (c.pp n.toNat)) a.free.toNat y.2.2.1, cc := fupd (fupd c.cc n.toNat (c.cc n.toNat)) a.free.toNat y.2.2.2, q := q2, d := d1 } (N + 1) (T + 20) := by
              refine ⟨hok2.mono (Nat.le_refl _) (by omega), hr2, FF.Ok.up hc.F (by omega), hc.rp, hc.rc, hc.rl, fun z h0 h1 h2 => hc.tb z h0 h1 (by rwa [hI.here_] at h2)⟩
            rw [e1, e2, e3]
            refine ⟨?_, _, hc2, ?_⟩
            · rw [← e4]; rfl
            · rw [kp_fork (c' := { c with mb := fupd c.mb a.free.toNat y.1, pp := fupd (fupd c.pp n.toNat (c.pp n.toNat)) a.free.toNat y.2.2.1, cc := fupd (fupd c.cc n.toNat (c.cc n.toNat)) a.free.toNat y.2.2.2, q := q2, d := d1 }) ho.wk hI rfl rfl ⟨⟨rfl, rfl, rfl, rfl⟩, rfl, rfl, rfl⟩ (by show _ = (fun z => if (a.forkC n false).s.here z then ptr (c.t z.toNat).b 0 0 else .pointer none); rw [hI.here_]; rfl), lvA_fork hI, hrA_fork hI]
              all_goals rfl
    · skip
      refine cdT rfl (by omega) ?_
      refine XE.ret2 rfl rfl rfl (post_of .h17 rfl ?_)
      try dsimp only [SW.den, SV.den, dens, ofC]
      have hfc : a.free = 20 := KA.free_no (fun j j0 j1 => hch.2 j j0 (by omega))
      have e1 : a.forkE n false = 4 := by unfold KA.forkE; rw [if_neg (by omega), if_pos hfc]
      have e2 : a.forkV n false = 0 := by unfold KA.forkV; rw [if_neg (by omega)]
      have e3 : a.forkA n false = a := by unfold KA.forkA; rw [if_pos (by omega)]
      rw [e1, e2, e3]; exact ⟨rfl, c, hc.up (by omega) (by omega), rfl⟩
  · skip
    try dsimp only [errvL0, errvL1, errvL2, errvL3, errvL4, errvL5, errvL6, errvL7, errvL8, errvL9, errvL10, errvL11, errvL12, errvL13]
    have hl : a.live n ≠ 0 := hl
    have hlk : (kp a b c).live n = a.live n := rfl
    rw [hlk]
    refine gO ?_
    refine XE.ret2 rfl rfl rfl (post_of .h17 rfl ?_)
    try dsimp only [SW.den, SV.den, dens, ofC]
    have e1 : a.forkE n false = a.live n := by unfold KA.forkE; rw [if_pos hl]
    have e2 : a.forkV n false = 0 := by unfold KA.forkV; rw [if_neg (by omega)]
    have e3 : a.forkA n false = a := by unfold KA.forkA; rw [if_pos (by omega)]
    rw [e1, e2, e3, errv_pos _ hl]; exact ⟨rfl, c, hc.up (by omega) (by omega), rfl⟩
end Go.X.Kn
