import Derived.Test.YthdinakloheinaaGreatDoorkJN1
import Derived.Test.YthdinakloheinaaGreatDoorkKW5
import Derived.Test.YthdinakloheinaaGreatDoorkKKI
import Derived.Test.YthdinakloheinaaGreatDoorkSM
import Derived.Test.YthdinakloheinaaGreatDoorkJF0
namespace Go.X.Kn
open Go Go.Proofs Go.X
set_option maxRecDepth 20000
set_option maxHeartbeats 4000000


attribute [local irreducible] KA.exitA KA.settleA
theorem kp_forkMs {a : KA} {b : KZ} {n : Int} (hI : a.FkI n true) (hin : (a.s.add a.dep (a.s.in_ n).1).2.1 = 0) (hh : a.s.here 0 = true) (c c' : KC) {x : TB} (hc : c'.t = fupd c.t (a.s.add a.dep (a.s.in_ n).1).1.toNat x) : fset (kp a b c).ms (a.s.add a.dep (a.s.in_ n).1).1 (ptr x.b 0 0) = (kp (a.forkC n true) b c').ms := by
  have h1 := SS.add_new hin
  show _ = fun z => if (a.forkC n true).s.here z then ptr (c'.t z.toNat).b 0 0 else .pointer none
  rw [hI.here_, hc]
  have h2 : (a.sA n true).here = fset a.s.here (a.s.add a.dep (a.s.in_ n).1).1 true := h1.2.2
  rw [h2]
  funext z
  by_cases e : z = (a.s.add a.dep (a.s.in_ n).1).1
  · subst e; rw [fset_eq, fset_eq, fupd_eq]; rfl
  · rw [fset_ne _ _ e, fset_ne _ _ e]
    show (if a.s.here z then _ else _) = _
    by_cases q : z.toNat = (a.s.add a.dep (a.s.in_ n).1).1.toNat
    · exfalso
      have : (a.s.add a.dep (a.s.in_ n).1).1 ≠ 0 := by intro e0; have h3 := h1.2.1; rw [e0, hh] at h3; cases h3
      omega
    · rw [fupd_ne _ _ q]
set_option maxHeartbeats 16000000 in
theorem k_Fork1 (a : KA) (b : KZ) (c : KC) (N : Nat) (T : Int) (ho : a.Ok T) (hc : Con a c N T) (hT : T ≤ 800000) (n : Int) : Spec Tryz.prog 14 [ptr b.kb 0 0, .int .i64 n, .bool true]
 [.cells b.kb 0 453 (encKn (kp a b c)), .cells b.gb 0 60 (Gr.encGt a.g), .cells b.sb 0 158 (Sp.encT a.s), .cells b.qb 0 2281 (Fa.encS c.q), .fam Fa.fam30 (Fa.SC.rows 254 c.q), .cells b.bb 0 577 (Vm.encK b.vp a.v.by_ a.v.rf), .cells b.vp 0 71 (Vm.encP a.v.bb.pool), .cfam (lvA a) c.mb 34 (cN b.bb a.f c.pp c.cc), .fam (lvA a) (rN 171 a.f c.pp c.cc), .cells b.tb 0 321 (Tr.encF c.F), .fam Tr.fam40 (Tr.FC.rowsN 9 c.F), .fam Tr.fam40 (Tr.FC.rowsK 3 c.F), irow c.rp c.rc 3 c.rl, .cells b.pi 0 24 (Tr.encP a.P), .cells b.ob 0 122 (Tr.encO b.tb b.pi a.O), .cfam (hrA a) (fun z => (c.t z).b) 4 (cT b.tb c.t), .fam (hrA a) (rT 168 c.t)]
 (fun v H1 => v = .tuple #[.int .i64 (a.forkV n true), errv 102 (a.forkE n true)] ∧ ∃ c1 : KC, Con (a.forkA n true) c1 (N + 1) (T + 20) ∧ H1 = [.cells b.kb 0 453 (encKn (kp (a.forkA n true) b c1)), .cells b.gb 0 60 (Gr.encGt (a.forkA n true).g), .cells b.sb 0 158 (Sp.encT (a.forkA n true).s), .cells b.qb 0 2281 (Fa.encS c1.q), .fam Fa.fam30 (Fa.SC.rows 254 c1.q), .cells b.bb 0 577 (Vm.encK b.vp (a.forkA n true).v.by_ (a.forkA n true).v.rf), .cells b.vp 0 71 (Vm.encP (a.forkA n true).v.bb.pool), .cfam (lvA (a.forkA n true)) c1.mb 34 (cN b.bb (a.forkA n true).f c1.pp c1.cc), .fam (lvA (a.forkA n true)) (rN 171 (a.forkA n true).f c1.pp c1.cc), .cells b.tb 0 321 (Tr.encF c1.F), .fam Tr.fam40 (Tr.FC.rowsN 9 c1.F), .fam Tr.fam40 (Tr.FC.rowsK 3 c1.F), irow c1.rp c1.rc 3 c1.rl, .cells b.pi 0 24 (Tr.encP (a.forkA n true).P), .cells b.ob 0 122 (Tr.encO b.tb b.pi (a.forkA n true).O), .cfam (hrA (a.forkA n true)) (fun z => (c1.t z).b) 4 (cT b.tb c1.t), .fam (hrA (a.forkA n true)) (rT 168 c1.t)]) := by
  refine Spec.go 177 [0, 1, 2, 6, 7, 8, 9, 10, 11, 12, 13, 14, 16, 24, 37, 41, 59, 65, 76, 132, 133, 134, 137] [(22, 0)] Tryz.func14 rfl rfl rfl ?_
  intro W
  refine ca (k_live b.kb (kp a b c) n) .h1 ?_
  rintro _ _ ⟨⟨hl, rfl⟩ | ⟨hl, rfl⟩, rfl⟩
  · skip
    try dsimp only [errvL0, errvL1, errvL2, errvL3, errvL4, errvL5, errvL6, errvL7, errvL8, errvL9, errvL10, errvL11, errvL12, errvL13]
    obtain ⟨hlr, hls⟩ := KP.live_rng hl
    have hl : a.live n = 0 := hl
    have hls : (a.u n).st = 1 := hls
    have hmem := kp_mem a b c (n := n) (by omega)
    refine gO ?_
    refine lp (σ := Int) (fun ch => (20 - ch).toNat) (fun ch => (0 ≤ ch ∧ ch ≤ 20) ∧ ∀ j : Int, 0 ≤ j → j < ch → (a.u j).st ≠ 0) (fun ch => [(10, .int .i64 ch), (0, ptr b.kb 0 0), (1, .int .i64 n), (2, .bool true), (8, ptr b.kb 0 (0 + 0 + n.toNat * 22))]) (fun ch => XM W (foot [.cells b.kb 0 453 (encKn (kp a b c)), .cells b.gb 0 60 (Gr.encGt a.g), .cells b.sb 0 158 (Sp.encT a.s), .cells b.qb 0 2281 (Fa.encS c.q), .fam Fa.fam30 (Fa.SC.rows 254 c.q), .cells b.bb 0 577 (Vm.encK b.vp a.v.by_ a.v.rf), .cells b.vp 0 71 (Vm.encP a.v.bb.pool), .cfam (lvA a) c.mb 34 (cN b.bb a.f c.pp c.cc), .fam (lvA a) (rN 171 a.f c.pp c.cc), .cells b.tb 0 321 (Tr.encF c.F), .fam Tr.fam40 (Tr.FC.rowsN 9 c.F), .fam Tr.fam40 (Tr.FC.rowsK 3 c.F), irow c.rp c.rc 3 c.rl, .cells b.pi 0 24 (Tr.encP a.P), .cells b.ob 0 122 (Tr.encO b.tb b.pi a.O), .cfam (hrA a) (fun z => (c.t z).b) 4 (cT b.tb c.t), .fam (hrA a) (rT 168 c.t)]) [.cells b.kb 0 453 (encKn (kp a b c)), .cells b.gb 0 60 (Gr.encGt a.g), .cells b.sb 0 158 (Sp.encT a.s), .cells b.qb 0 2281 (Fa.encS c.q), .fam Fa.fam30 (Fa.SC.rows 254 c.q), .cells b.bb 0 577 (Vm.encK b.vp a.v.by_ a.v.rf), .cells b.vp 0 71 (Vm.encP a.v.bb.pool), .cfam (lvA a) c.mb 34 (cN b.bb a.f c.pp c.cc), .fam (lvA a) (rN 171 a.f c.pp c.cc), .cells b.tb 0 321 (Tr.encF c.F), .fam Tr.fam40 (Tr.FC.rowsN 9 c.F), .fam Tr.fam40 (Tr.FC.rowsK 3 c.F), irow c.rp c.rc 3 c.rl, .cells b.pi 0 24 (Tr.encP a.P), .cells b.ob 0 122 (Tr.encO b.tb b.pi a.O), .cfam (hrA a) (fun z => (c.t z).b) 4 (cT b.tb c.t), .fam (hrA a) (rT 168 c.t)]) (0) ?_ (S5 rfl rfl rfl rfl rfl) (fun _ hw => XM.pick .h17 hw) ?_
    · skip
      exact ⟨by omega, fun j j0 j1 => by omega⟩
    intro ch hch
    have hch1 := hch.1
    refine gC ?_
    refine sp 28 rfl ?_ ?_ <;> intro h1
    · skip
      refine sd (by omega) ?_
      refine ld .here (encKn.ld_st _ (by omega)) ?_
      refine cd rfl ?_ ?_ <;> intro h2
      · skip
        have hst0 : (a.u ch).st ≠ 0 := h2
        refine sd (by omega) ?_
        refine ag (ch + 1) ?_ ?_ (S5 rfl rfl rfl rfl rfl) (fun _ hw => XM.pick .h17 hw)
        · skip
          (first | omega | (simp; done) | (simp; omega))
        · skip
          refine ⟨by omega, fun j j0 j1 => ?_⟩
          by_cases e : j = ch
          · subst e; assumption
          · exact hch.2 j j0 (by omega)
      · skip
        have hc0 : (a.u ch).st = 0 := by
          have h9 := h2
          have e9 : ((kp a b c).u ch).st = (a.u ch).st := rfl
          omega
        refine cdF rfl (by omega) ?_
        refine XR.mono (fun _ hw3 => XM.outM (z := n.toNat) (lvA_at hlr (by omega)) (.cons (.t7 .here) (.cons (.t7 .here) .nil)) hw3) ?_
        refine ld (.t4 .here) (encKn.ld_memP _ (by omega) hmem) ?_
        refine ca (Vm.v_Resident b.bb _ _ _ (a.f n.toNat) (ho.wk.sys.mo n.toNat (by omega))) .h1 ?_
        rintro _ _ ⟨rfl, rfl⟩
        refine gO ?_
        refine rq [0, 1, 2, 3, 4, 5, 6, 7, 8, 9, 10] mixed (by kernel_rfl) ?_
        refine ld (.t4 .here) (encKn.ld_g _) ?_
        refine ld (.t4 .here) (encKn.ld_grp _ (by omega)) ?_
        refine ca (Gr.g_charge _ _ a.g ho.wk.gI.ok _ _ _ (1000 * T) (by have := ho.wk.T0; omega) ho.wk.gS) (.cons (.t5 .here) .nil) ?_
        rintro _ _ ⟨rfl, rfl⟩
        refine gO ?_
        refine cd rfl ?_ ?_ <;> intro h3
        · skip
          have hge := h3
          refine XR.mono (fun _ hw3 => XM.sameM (f := a.f) (z := n.toNat) (ps := c.pp) (cs := c.cc) (mb := c.mb) (lvA_at hlr (by omega)) (.cons (.there .here) (.cons (.there .here) (.cons (.there .here) (.cons (.there .here) .nil)))) hw3) ?_
          refine XE.ret2 rfl rfl rfl (post_of (.cons (.t3 .here) (.cons (.t2 .here) (.cons (.t2 .here) (.cons (.t2 .here) (.cons (.t2 .here) (.cons (.t2 .here) (.cons (.t2 .here) .h10))))))) rfl ?_)
          try dsimp only [SW.den, SV.den, dens, ofC]
          have hfc : a.free = ch := KA.free_at ⟨hch.1.1, by omega⟩ hc0 hch.2
          have hg0 : a.gE n ≠ 0 := hge
          have e1 : a.forkE n true = a.gE n := by unfold KA.forkE; rw [if_neg (by omega), if_neg (by omega), if_pos hg0]
          have e2 : a.forkV n true = 0 := by unfold KA.forkV; rw [if_neg (by omega)]
          have e3 : a.forkA n true = a := by unfold KA.forkA; rw [if_pos (by omega)]
          have hce : a.g.charge ((kp a b c).u n).grp 1 (a.f n.toNat).res = a.g := charge_err hg0
          rw [e1, e2, e3]
          rw [hce]
          exact ⟨rfl, c, hc.up (by omega) (by omega), rfl⟩
        · skip
          have hge0 : a.gE n = 0 := by
            have h9 := h3
            have e9 : a.g.chargeE (a.u n).grp 1 (a.f n.toNat).res = a.gE n := rfl
            have e8 : a.g.chargeE ((kp a b c).u n).grp 1 (a.f n.toNat).res = a.gE n := rfl
            omega
          refine ca (k_space b.kb (kp a b c) a.s n) (.cons (.t5 .here) (.cons (.t5 .here) .nil)) ?_
          rintro _ _ ⟨rfl, rfl⟩
          refine gO ?_
          refine ld .here (encKn.ld_s _) ?_
          refine ca (Sp.t_Add _ _ a.s a.dep ho.wk.sI.D ho.wk.sI.A (a.s.in_ n).1) (.cons (.there .here) .nil) ?_
          rintro _ _ ⟨rfl, rfl⟩
          refine gO ?_
          refine cd rfl ?_ ?_ <;> intro h4
          · skip
            have hin : (a.s.add a.dep (a.s.in_ n).1).2.1 ≠ 0 := h4
            refine rq [0, 1, 2, 3, 4, 5, 6, 7, 8, 9] mixed (by kernel_rfl) ?_
            refine ld (.there .here) (encKn.ld_g _) ?_
            refine ld (.there .here) (encKn.ld_grp _ (by omega)) ?_
            refine ca (Gr.g_uncharge _ _ (a.gC n) (ho.wk.gI.charge _ _ _).ok _ _ _ (1000 * T + 320) (by have := ho.wk.T0; omega) (ho.wk.gS.charge ho.wk.gI.ok _ _ _)) (.cons (.t2 .here) .nil) ?_
            rintro _ _ ⟨rfl, rfl⟩
            refine gO ?_
            refine XR.mono (fun _ hw3 => XM.sameM (f := a.f) (z := n.toNat) (ps := c.pp) (cs := c.cc) (mb := c.mb) (lvA_at hlr (by omega)) (.cons (.t3 .here) (.cons (.t3 .here) (.cons (.t3 .here) (.cons (.t3 .here) .nil)))) hw3) ?_
            refine XE.ret2 rfl rfl rfl (post_of (.cons (.t4 .here) (.cons (.t2 .here) (.cons (.t2 .here) (.cons (.t2 .here) (.cons (.t2 .here) (.cons (.t2 .here) (.cons (.t2 .here) .h10))))))) rfl ?_)
            try dsimp only [SW.den, SV.den, dens, ofC]
            have hg0 : a.gE n = 0 := hge0
            have hfc : a.free = ch := KA.free_at ⟨hch.1.1, by omega⟩ hc0 hch.2
            have e1 : a.forkE n true = (a.s.add a.dep (a.s.in_ n).1).2.1 := by unfold KA.forkE; rw [if_neg (by omega), if_neg (by omega), if_neg (by omega)]; show a.inE n true = _; rw [show a.inE n true = (a.s.add a.dep (a.s.in_ n).1).2.1 from rfl]
            have e2 : a.forkV n true = 0 := by unfold KA.forkV; rw [if_neg (by omega)]
            have e3 : a.forkA n true = { a with g := (a.gC n).unch (a.u n).grp 1 (a.res n) } := by unfold KA.forkA; rw [if_neg (by omega), if_pos (by exact hin)]
            have hse : (a.s.add a.dep (a.s.in_ n).1).2.2 = a.s := by
              rcases a.s.add_cases a.dep (a.s.in_ n).1 with ⟨_, _, q⟩ | ⟨k, _, _, _, _, q5⟩
              · exact q
              · exact absurd (by rw [q5]) hin
            rw [e1, e2, e3, hse]; exact ⟨rfl, c, ⟨hc.qO.mono (by omega) (by omega), hc.qR, FF.Ok.up hc.F (by omega), hc.rp, hc.rc, hc.rl, hc.tb⟩, rfl⟩
          · skip
            have hin : (a.s.add a.dep (a.s.in_ n).1).2.1 = 0 := by
              have h9 := h4
              omega
            have hfc : a.free = ch := KA.free_at ⟨hch.1.1, by omega⟩ hc0 hch.2
            have hI := ho.wk.fkI (n := n) (own := true) (SS.Inv.at0 ho.wk.sI ho.r0.loc) hl (by omega) hin
            have hzr : (0 ≤ (a.s.in_ n).1 ∧ (a.s.in_ n).1 < 6) ∧ a.s.here (a.s.in_ n).1 = true := ⟨⟨hI.z.1, hI.z.2.1⟩, hI.z.2.2⟩
            have htb := hc.tb _ hzr.1.1 hzr.1.2 hzr.2
            have hnz := SS.add_new hin
            refine XR.mono (fun _ hw3 => XM.outT (z := (a.s.in_ n).1.toNat) (hrA_at hzr.1 hzr.2) (.cons (.t12 (.t5 .here)) (.cons (.t12 (.t5 .here)) .nil)) hw3) ?_
            refine rq [0, 1, 2, 3, 4, 5, 6, 7, 9, 10, 8, 11, 12] mixed (by kernel_rfl) ?_
            refine sd (by omega) ?_
            refine ld (.t5 .here) (encKn.ld_msP _ hzr.1 (kp_ms a b c hzr.2)) ?_
            refine ca (Tr.m_Copy _ _ _ _ _ _ _ _ _ htb.rv htb.mc htb.len c.F c.dF T hc.F (by omega)) (.cons .here (.cons .here (.cons (.t12 (.there .here)) (.cons (.t12 (.there .here)) (.cons (.t12 (.there .here)) .nil))))) ?_
            rintro _ _ ⟨bt2, p2, cap2, k2, c2, C2, F1, rfl, hv2, hC2, hF1, hO1, hp1, hr1, rfl⟩
            refine gO ?_
            refine sd (by omega) ?_
            refine st (.t10 .here) (encKn.st_ms _ hnz.1 _) rfl ?_
            refine XR.mono (fun _ hw3 => XM.sameT (z := (a.s.in_ n).1.toNat) (hrA_at hzr.1 hzr.2) (.cons (.t2 .here) (.cons (.t2 .here) (.cons (.t5 .here) (.cons (.t5 .here) .nil)))) hw3) ?_
            refine XR.mono (fun _ hw3 => XM.newT (z := (a.s.add a.dep (a.s.in_ n).1).1.toNat) ⟨bt2, (c.t (a.s.in_ n).1.toNat).r, (c.t (a.s.in_ n).1.toNat).l, p2, cap2, k2, c2, C2⟩ (hrA_no hnz.1 hnz.2.1) (.cons (.t2 .here) (.cons (.t2 .here) .h2)) hw3) ?_
            refine ld (.t6 .here) (encKn.ld_s _) ?_
            refine ca (Sp.t_Enter _ _ (a.s.add a.dep (a.s.in_ n).1).2.2 (a.dA n true) hI.inv.D (a.s.add a.dep (a.s.in_ n).1).1 ch) (.cons (.t5 .here) .nil) ?_
            rintro _ _ ⟨rfl, rfl⟩
            refine gO ?_
            refine ctG (σ := Nat × Nat × Option Addr × Nat × Nat × TB × Tr.FC) (fun y => y.2.2.2.2.2.2.toFF.Ok c.dF (T + 13) ∧ y.2.2.2.2.2.2.rP = c.F.rP ∧ y.2.2.2.2.2.2.rC = c.F.rC ∧ y.2.2.2.2.2.2.roots = c.F.roots ∧ y.2.2.2.2.2.1.Ok) (fun y => [(0, ptr b.kb 0 0), (8, ptr b.kb 0 (0 + 0 + n.toNat * 22)), (10, .int .i64 ch), (12, .int .i64 (a.s.in_ n).1), (14, ptr y.2.1 0 0)]) (fun y => XM W (foot [.cells b.kb 0 453 (encKn (kp a b c)), .cells b.gb 0 60 (Gr.encGt a.g), .cells b.sb 0 158 (Sp.encT a.s), .cells b.qb 0 2281 (Fa.encS c.q), .fam Fa.fam30 (Fa.SC.rows 254 c.q), .cells b.bb 0 577 (Vm.encK b.vp a.v.by_ a.v.rf), .cells b.vp 0 71 (Vm.encP a.v.bb.pool), .cfam (lvA a) c.mb 34 (cN b.bb a.f c.pp c.cc), .fam (lvA a) (rN 171 a.f c.pp c.cc), .cells b.tb 0 321 (Tr.encF c.F), .fam Tr.fam40 (Tr.FC.rowsN 9 c.F), .fam Tr.fam40 (Tr.FC.rowsK 3 c.F), irow c.rp c.rc 3 c.rl, .cells b.pi 0 24 (Tr.encP a.P), .cells b.ob 0 122 (Tr.encO b.tb b.pi a.O), .cfam (hrA a) (fun z => (c.t z).b) 4 (cT b.tb c.t), .fam (hrA a) (rT 168 c.t)]) [.cells b.kb 0 453 (encKn ({ kp a b c with ms := fset (kp a b c).ms (a.s.add a.dep (a.s.in_ n).1).1 (ptr y.2.2.2.2.2.1.b 0 0) } : KP)), .cells b.gb 0 60 (Gr.encGt (a.gC n)), .cells b.sb 0 158 (Sp.encT ((a.s.add a.dep (a.s.in_ n).1).2.2.enter (a.dA n true) (a.s.add a.dep (a.s.in_ n).1).1 ch).2.2), .cells b.qb 0 2281 (Fa.encS c.q), .fam Fa.fam30 (Fa.SC.rows 254 c.q), .cells b.bb 0 577 (Vm.encK b.vp (a.v.fork (a.f n.toNat)).by_ (a.v.fork (a.f n.toNat)).rf), .cells b.vp 0 71 (Vm.encP (a.v.fork (a.f n.toNat)).bb.pool), .cells (c.mb n.toNat) 0 34 (Vm.encN b.bb (c.pp n.toNat) (Vm.runs (a.f n.toNat).is_).length (c.cc n.toNat) (a.f n.toNat).fr (fun _ => false)), frow (c.pp n.toNat) (c.cc n.toNat) 171 3 (Vm.runs (a.f n.toNat).is_).length (Vm.rgC (Vm.runs (a.f n.toNat).is_)), .cells y.1 0 34 (Vm.encN b.bb y.2.2.1 (Vm.runs (a.f n.toNat).is_).length y.2.2.2.1 (a.f n.toNat).fr (fun _ => false)), frow y.2.2.1 y.2.2.2.1 171 3 (Vm.runs (a.f n.toNat).is_).length (Vm.rgC (Vm.runs (a.f n.toNat).is_)), .cfam (outP (lvA a) n.toNat) c.mb 34 (cN b.bb a.f c.pp c.cc), .fam (outP (lvA a) n.toNat) (rN 171 a.f c.pp c.cc), .cells b.tb 0 321 (Tr.encF y.2.2.2.2.2.2), .fam Tr.fam40 (Tr.FC.rowsN 9 y.2.2.2.2.2.2), .fam Tr.fam40 (Tr.FC.rowsK 3 y.2.2.2.2.2.2), irow c.rp c.rc 3 c.rl, .cells b.pi 0 24 (Tr.encP a.P), .cells b.ob 0 122 (Tr.encO b.tb b.pi (shN (a.u n).fd a.O (0 : Int).toNat)), .cfam (inP (hrA a) (a.s.add a.dep (a.s.in_ n).1).1.toNat) (fun z => ((fupd c.t (a.s.add a.dep (a.s.in_ n).1).1.toNat y.2.2.2.2.2.1) z).b) 4 (cT b.tb (fupd c.t (a.s.add a.dep (a.s.in_ n).1).1.toNat y.2.2.2.2.2.1)), .fam (inP (hrA a) (a.s.add a.dep (a.s.in_ n).1).1.toNat) (rT 168 (fupd c.t (a.s.add a.dep (a.s.in_ n).1).1.toNat y.2.2.2.2.2.1)), .cells y.2.1 0 22 (((kp a b c).kid n y.1).cell)]) ?_ ?_
            · skip
              refine XC.regionQ mixed (f := 23) (l := #[false, false, false, false, false, false, false, false, false, false, false, false, false, false, false, false, false, false, false, false, false, false, false]) rfl rfl XM.drawn' ?_
              refine XQ.pv (i := 0) (l' := #[true, false, false, false, false, false, false, false, false, false, false, false, false, false, false, false, false, false, false, false, false, false, false]) rfl (by kernel_rfl) rfl (V.move rfl) rfl rfl ?_
              refine XQ.pv (i := 1) (l' := #[true, true, false, false, false, false, false, false, false, false, false, false, false, false, false, false, false, false, false, false, false, false, false]) rfl (by kernel_rfl) rfl (V.move rfl) rfl rfl ?_
              refine XQ.pv (i := 2) (l' := #[true, true, true, false, false, false, false, false, false, false, false, false, false, false, false, false, false, false, false, false, false, false, false]) rfl (by kernel_rfl) rfl (V.nilCheckP rfl) rfl rfl ?_
              refine XQ.pv (i := 3) (l' := #[true, true, true, true, false, false, false, false, false, false, false, false, false, false, false, false, false, false, false, false, false, false, false]) rfl (by kernel_rfl) rfl (V.fieldAddr rfl fo_89_2) rfl rfl ?_
              refine XQ.load (i := 4) (l' := #[true, true, true, true, true, false, false, false, false, false, false, false, false, false, false, false, false, false, false, false, false, false, false]) (.cells _ _ _ _) [22] rfl (by kernel_rfl) rfl (.t6 .here) (V.load rfl inEnt (encKn.ld_grp _ (by omega)) sc_3) rfl (by kernel_rfl) rfl ?_
              refine XQ.pv (i := 5) (l' := #[true, true, true, true, true, true, false, false, false, false, false, false, false, false, false, false, false, false, false, false, false, false, false]) rfl (by kernel_rfl) rfl (V.move rfl) rfl rfl ?_
              refine XQ.pv (i := 6) (l' := #[true, true, true, true, true, true, true, false, false, false, false, false, false, false, false, false, false, false, false, false, false, false, false]) rfl (by kernel_rfl) rfl (V.nilCheckP rfl) rfl rfl ?_
              refine XQ.pv (i := 7) (l' := #[true, true, true, true, true, true, true, true, false, false, false, false, false, false, false, false, false, false, false, false, false, false, false]) rfl (by kernel_rfl) rfl (V.fieldAddr rfl fo_89_4) rfl rfl ?_
              refine XQ.load (i := 8) (l' := #[true, true, true, true, true, true, true, true, true, false, false, false, false, false, false, false, false, false, false, false, false, false, false]) (.cells _ _ _ _) [9, 17, 22] rfl (by kernel_rfl) rfl (.t6 .here) (V.load rfl inEnt (encKn.ld_memP _ (by omega) hmem) sc_82) rfl (by kernel_rfl) rfl ?_
              refine XQ.pv (i := 10) (l' := #[true, true, true, true, true, true, true, true, true, false, true, false, false, false, false, false, false, false, false, false, false, false, false]) rfl (by kernel_rfl) rfl (V.move rfl) rfl rfl ?_
              refine XQ.pv (i := 11) (l' := #[true, true, true, true, true, true, true, true, true, false, true, true, false, false, false, false, false, false, false, false, false, false, false]) rfl (by kernel_rfl) rfl (V.nilCheckP rfl) rfl rfl ?_
              refine XQ.pv (i := 12) (l' := #[true, true, true, true, true, true, true, true, true, false, true, true, true, false, false, false, false, false, false, false, false, false, false]) rfl (by kernel_rfl) rfl (V.fieldAddr rfl fo_89_5) rfl rfl ?_
              refine XQ.load (i := 13) (l' := #[true, true, true, true, true, true, true, true, true, false, true, true, true, true, false, false, false, false, false, false, false, false, false]) (.cells _ _ _ _) [22] rfl (by kernel_rfl) rfl (.t6 .here) (V.loadAgg rfl inEnt (encKn.ld_fds _ (by omega)) ag_83 sz_83_6) rfl (by kernel_rfl) rfl ?_
              refine XQ.pv (i := 14) (l' := #[true, true, true, true, true, true, true, true, true, false, true, true, true, true, true, false, false, false, false, false, false, false, false]) rfl (by kernel_rfl) rfl (V.move rfl) rfl rfl ?_
              refine XQ.pv (i := 15) (l' := #[true, true, true, true, true, true, true, true, true, false, true, true, true, true, true, true, false, false, false, false, false, false, false]) rfl (by kernel_rfl) rfl (V.nilCheckP rfl) rfl rfl ?_
              refine XQ.pv (i := 16) (l' := #[true, true, true, true, true, true, true, true, true, false, true, true, true, true, true, true, true, false, false, false, false, false, false]) rfl (by kernel_rfl) rfl (V.fieldAddr rfl fo_89_6) rfl rfl ?_
              refine XQ.fork (i := 9) (j := 21) (by kernel_rfl) ?_ ?_
              · skip
                refine XS.call (i := 9) (l' := #[true, true, true, true, true, true, true, true, true, true, true, true, true, true, true, true, true, false, false, false, false, false, false]) rfl rfl rfl (Vm.v_Fork b.bb b.vp _ a.v ho.wk.sys.acc.ok _ _ (a.f n.toNat) (ho.wk.sys.mo n.toNat (by omega))) (.cons (.t12 (.t2 .here)) (.cons (.t8 .here) (.cons (.t8 .here) .nil))) cl_57 rfl (by rintro _ _ ⟨nb, p1, c1, rfl, rfl⟩; all_goals (intro _ hw'; exact ⟨fun _ => inXM (.t11 .here) _ hw', fun hs => (hs 9 (by first | (simp; done) | (simp; rfl)) rfl).elim, fun _ => inXM (.t11 .here) _ hw', trivial⟩)) ?_
                rintro _ _ ⟨nb, p1, c1, rfl, rfl⟩
                refine XQ.fork (i := 17) (j := 21) (by kernel_rfl) ?_ ?_
                · skip
                  refine XS.call (i := 17) (l' := #[true, true, true, true, true, true, true, true, true, true, true, true, true, true, true, true, true, true, false, false, false, false, false]) rfl rfl rfl (k_Child b.kb ({ kp a b c with ms := fset (kp a b c).ms (a.s.add a.dep (a.s.in_ n).1).1 (ptr bt2 0 0) } : KP) n hlr) (.cons (.t11 .here) .nil) cl_58 rfl (by rintro _ _ ⟨bc, rfl, rfl⟩; all_goals (intro _ hw'; exact ⟨fun _ => inXM (.there .here) _ hw', fun hs => (hs 9 (by first | (simp; done) | (simp; rfl)) rfl).elim, fun _ => inXM (.there .here) _ hw', trivial⟩)) ?_
                  rintro _ _ ⟨bc, rfl, rfl⟩
                  refine XQ.pv (i := 18) (l' := #[true, true, true, true, true, true, true, true, true, true, true, true, true, true, true, true, true, true, true, false, false, false, false]) rfl (by kernel_rfl) rfl (V.nilCheckP rfl) rfl rfl ?_
                  refine XQ.load (i := 19) (l' := #[true, true, true, true, true, true, true, true, true, true, true, true, true, true, true, true, true, true, true, true, false, false, false]) (.cells _ _ _ _) [22] rfl (by kernel_rfl) rfl .here (V.loadAgg rfl inEnt (Sg.encB_load _) ag_87 sz_87_11) rfl (by kernel_rfl) rfl ?_
                  refine XQ.pv (i := 20) (l' := #[true, true, true, true, true, true, true, true, true, true, true, true, true, true, true, true, true, true, true, true, true, false, false]) rfl (by kernel_rfl) rfl (V.build (vs := #[(0, .int .i64 1), (1, .int .i64 n), (2, .int .i64 (a.u n).grp), (4, ptr nb 0 0), (5, .agg (fdA (a.u n).fd)), (6, .agg (bxA (a.u n).bx.child))]) rfl (v := .agg ((kp a b c).kid n nb).arr) (kid_build n _ nb _ _)) rfl rfl ?_
                  refine XQ.allocZ (i := 21) (l' := #[true, true, true, true, true, true, true, true, true, true, true, true, true, true, true, true, true, true, true, true, true, true, false]) (z := (.agg PU.nil.arr)) (m := 22) (C := PU.nil.cell) rfl (by kernel_rfl) rfl (by kernel_rfl) rfl (PU.box PU.nil) rfl (fun _ _ hw' => ⟨fun _ => inXM (.there .here) _ hw', fun _ => inXM (.t2 .here) _ hw', fun hs => (hs 9 (by first | (simp; done) | (simp; rfl)) rfl).elim, fun _ => inXM (.t2 .here) _ hw', trivial⟩) ?_
                  intro ba
                  refine XQ.storeAgg (i := 22) (l' := #[true, true, true, true, true, true, true, true, true, true, true, true, true, true, true, true, true, true, true, true, true, true, true]) rfl (by kernel_rfl) rfl rfl rfl .here (PU.put_ _ _) ⟨rfl, rfl⟩ sz_89_22 (fun _ hw' => ⟨fun hs => (hs 22 (by first | (simp; done) | (simp; rfl)) rfl).elim, fun hs => (hs 22 (by first | (simp; done) | (simp; rfl)) rfl).elim, fun hs => (hs 9 (by first | (simp; done) | (simp; rfl)) rfl).elim, fun hs => (hs 22 (by first | (simp; done) | (simp; rfl)) rfl).elim, trivial⟩) ?_
                  refine XQ.done (by kernel_rfl) ?_
                  refine gE ?_
                  refine mtG ((nb, ba, p1, c1, 0, ⟨bt2, (c.t (a.s.in_ n).1.toNat).r, (c.t (a.s.in_ n).1.toNat).l, p2, cap2, k2, c2, C2⟩, F1)) ?_ (S5 rfl rfl rfl rfl rfl) (fun _ hw => XM.pick (.cons (.t2 .here) (.cons (.t12 (.there .here)) (.cons (.t7 .here) (.cons (.t12 (.t2 .here)) (.cons (.t12 (.t2 .here)) (.cons (.t2 .here) (.cons (.t12 (.there .here)) (.cons (.t2 .here) (.cons (.t2 .here) (.cons (.t2 .here) (.cons (.t2 .here) (.cons (.t7 .here) (.cons (.t7 .here) (.cons (.t4 .here) (.cons (.t4 .here) (.cons (.t4 .here) (.cons (.t4 .here) (.cons (.t4 .here) (.cons (.t4 .here) (.cons (.t2 .here) (.cons (.t2 .here) .h1))))))))))))))))))))) hw)
                  exact ⟨hO1, hp1, hr1, (by show F1.toFF.roots = _; rw [hF1, copyF_roots2]), ⟨hv2, hC2, htb.len⟩⟩
                · skip
                  refine XS.allocZ (i := 21) (l' := #[true, true, true, true, true, true, true, true, true, true, true, true, true, true, true, true, true, false, false, false, false, true, false]) (z := (.agg PU.nil.arr)) (m := 22) (C := PU.nil.cell) rfl rfl (by kernel_rfl) rfl (PU.box PU.nil) rfl (fun _ _ hw' => ⟨fun _ => inXM (.t12 .here) _ hw', fun hs => (hs 9 (by first | (simp; done) | (simp; rfl)) rfl).elim, fun _ => inXM (.t12 .here) _ hw', trivial⟩) ?_
                  intro ba
                  refine XQ.call (i := 17) (l' := #[true, true, true, true, true, true, true, true, true, true, true, true, true, true, true, true, true, true, false, false, false, true, false]) rfl (by kernel_rfl) rfl rfl (k_Child b.kb ({ kp a b c with ms := fset (kp a b c).ms (a.s.add a.dep (a.s.in_ n).1).1 (ptr bt2 0 0) } : KP) n hlr) (.cons (.t12 .here) .nil) cl_58 rfl (by rintro _ _ ⟨bc, rfl, rfl⟩; all_goals (intro _ hw'; exact ⟨fun _ => inXM (.there .here) _ hw', fun hs => (hs 9 (by first | (simp; done) | (simp; rfl)) rfl).elim, fun _ => inXM (.there .here) _ hw', trivial⟩)) ?_
                  rintro _ _ ⟨bc, rfl, rfl⟩
                  refine XQ.pv (i := 18) (l' := #[true, true, true, true, true, true, true, true, true, true, true, true, true, true, true, true, true, true, true, false, false, true, false]) rfl (by kernel_rfl) rfl (V.nilCheckP rfl) rfl rfl ?_
                  refine XQ.load (i := 19) (l' := #[true, true, true, true, true, true, true, true, true, true, true, true, true, true, true, true, true, true, true, true, false, true, false]) (.cells _ _ _ _) [22] rfl (by kernel_rfl) rfl .here (V.loadAgg rfl inEnt (Sg.encB_load _) ag_87 sz_87_11) rfl (by kernel_rfl) rfl ?_
                  refine XQ.pv (i := 20) (l' := #[true, true, true, true, true, true, true, true, true, true, true, true, true, true, true, true, true, true, true, true, true, true, false]) rfl (by kernel_rfl) rfl (V.build (vs := #[(0, .int .i64 1), (1, .int .i64 n), (2, .int .i64 (a.u n).grp), (4, ptr nb 0 0), (5, .agg (fdA (a.u n).fd)), (6, .agg (bxA (a.u n).bx.child))]) rfl (v := .agg ((kp a b c).kid n nb).arr) (kid_build n _ nb _ _)) rfl rfl ?_
                  refine XQ.storeAgg (i := 22) (l' := #[true, true, true, true, true, true, true, true, true, true, true, true, true, true, true, true, true, true, true, true, true, true, true]) rfl (by kernel_rfl) rfl rfl rfl (.t2 .here) (PU.put_ _ _) ⟨rfl, rfl⟩ sz_89_22 (fun _ hw' => ⟨fun hs => (hs 22 (by first | (simp; done) | (simp; rfl)) rfl).elim, fun hs => (hs 22 (by first | (simp; done) | (simp; rfl)) rfl).elim, fun hs => (hs 9 (by first | (simp; done) | (simp; rfl)) rfl).elim, fun hs => (hs 22 (by first | (simp; done) | (simp; rfl)) rfl).elim, trivial⟩) ?_
                  refine XQ.done (by kernel_rfl) ?_
                  refine gE ?_
                  refine mtG ((nb, ba, p1, c1, 0, ⟨bt2, (c.t (a.s.in_ n).1.toNat).r, (c.t (a.s.in_ n).1.toNat).l, p2, cap2, k2, c2, C2⟩, F1)) ?_ (S5 rfl rfl rfl rfl rfl) (fun _ hw => XM.pick (.cons (.there .here) (.cons (.t12 (.there .here)) (.cons (.t7 .here) (.cons (.t12 (.t2 .here)) (.cons (.t12 (.t2 .here)) (.cons (.t2 .here) (.cons (.t12 (.there .here)) (.cons (.t2 .here) (.cons (.t2 .here) (.cons (.t2 .here) (.cons (.t2 .here) (.cons (.t7 .here) (.cons (.t7 .here) (.cons (.t4 .here) (.cons (.t4 .here) (.cons (.t4 .here) (.cons (.t4 .here) (.cons (.t4 .here) (.cons (.t4 .here) (.cons (.t2 .here) (.cons (.t2 .here) (.cons (.there .here) .nil)))))))))))))))))))))) hw)
                  exact ⟨hO1, hp1, hr1, (by show F1.toFF.roots = _; rw [hF1, copyF_roots2]), ⟨hv2, hC2, htb.len⟩⟩
              · skip
                refine XS.allocZ (i := 21) (l' := #[true, true, true, true, true, true, true, true, true, false, true, true, true, true, true, true, true, false, false, false, false, true, false]) (z := (.agg PU.nil.arr)) (m := 22) (C := PU.nil.cell) rfl rfl (by kernel_rfl) rfl (PU.box PU.nil) rfl (fun _ _ hw' => ⟨fun _ => inXM (.t7 .here) _ hw', fun _ => inXM (.t7 .here) _ hw', fun _ => inXM (.t7 .here) _ hw', trivial⟩) ?_
                intro ba
                refine XQ.call (i := 9) (l' := #[true, true, true, true, true, true, true, true, true, true, true, true, true, true, true, true, true, false, false, false, false, true, false]) rfl (by kernel_rfl) rfl rfl (Vm.v_Fork b.bb b.vp _ a.v ho.wk.sys.acc.ok _ _ (a.f n.toNat) (ho.wk.sys.mo n.toNat (by omega))) (.cons (.t12 (.t3 .here)) (.cons (.t9 .here) (.cons (.t9 .here) .nil))) cl_57 rfl (by rintro _ _ ⟨nb, p1, c1, rfl, rfl⟩; all_goals (intro _ hw'; exact ⟨fun _ => inXM (.t12 .here) _ hw', fun hs => (hs 9 (by first | (simp; done) | (simp; rfl)) rfl).elim, fun _ => inXM (.t12 .here) _ hw', trivial⟩)) ?_
                rintro _ _ ⟨nb, p1, c1, rfl, rfl⟩
                refine XQ.call (i := 17) (l' := #[true, true, true, true, true, true, true, true, true, true, true, true, true, true, true, true, true, true, false, false, false, true, false]) rfl (by kernel_rfl) rfl rfl (k_Child b.kb ({ kp a b c with ms := fset (kp a b c).ms (a.s.add a.dep (a.s.in_ n).1).1 (ptr bt2 0 0) } : KP) n hlr) (.cons (.t12 .here) .nil) cl_58 rfl (by rintro _ _ ⟨bc, rfl, rfl⟩; all_goals (intro _ hw'; exact ⟨fun _ => inXM (.there .here) _ hw', fun hs => (hs 9 (by first | (simp; done) | (simp; rfl)) rfl).elim, fun _ => inXM (.there .here) _ hw', trivial⟩)) ?_
                rintro _ _ ⟨bc, rfl, rfl⟩
                refine XQ.pv (i := 18) (l' := #[true, true, true, true, true, true, true, true, true, true, true, true, true, true, true, true, true, true, true, false, false, true, false]) rfl (by kernel_rfl) rfl (V.nilCheckP rfl) rfl rfl ?_
                refine XQ.load (i := 19) (l' := #[true, true, true, true, true, true, true, true, true, true, true, true, true, true, true, true, true, true, true, true, false, true, false]) (.cells _ _ _ _) [22] rfl (by kernel_rfl) rfl .here (V.loadAgg rfl inEnt (Sg.encB_load _) ag_87 sz_87_11) rfl (by kernel_rfl) rfl ?_
                refine XQ.pv (i := 20) (l' := #[true, true, true, true, true, true, true, true, true, true, true, true, true, true, true, true, true, true, true, true, true, true, false]) rfl (by kernel_rfl) rfl (V.build (vs := #[(0, .int .i64 1), (1, .int .i64 n), (2, .int .i64 (a.u n).grp), (4, ptr nb 0 0), (5, .agg (fdA (a.u n).fd)), (6, .agg (bxA (a.u n).bx.child))]) rfl (v := .agg ((kp a b c).kid n nb).arr) (kid_build n _ nb _ _)) rfl rfl ?_
                refine XQ.storeAgg (i := 22) (l' := #[true, true, true, true, true, true, true, true, true, true, true, true, true, true, true, true, true, true, true, true, true, true, true]) rfl (by kernel_rfl) rfl rfl rfl (.t7 .here) (PU.put_ _ _) ⟨rfl, rfl⟩ sz_89_22 (fun _ hw' => ⟨fun hs => (hs 22 (by first | (simp; done) | (simp; rfl)) rfl).elim, fun hs => (hs 22 (by first | (simp; done) | (simp; rfl)) rfl).elim, fun hs => (hs 9 (by first | (simp; done) | (simp; rfl)) rfl).elim, fun hs => (hs 22 (by first | (simp; done) | (simp; rfl)) rfl).elim, trivial⟩) ?_
                refine XQ.done (by kernel_rfl) ?_
                refine gE ?_
                refine mtG ((nb, ba, p1, c1, 0, ⟨bt2, (c.t (a.s.in_ n).1.toNat).r, (c.t (a.s.in_ n).1.toNat).l, p2, cap2, k2, c2, C2⟩, F1)) ?_ (S5 rfl rfl rfl rfl rfl) (fun _ hw => XM.pick (.cons (.there .here) (.cons (.t12 (.there .here)) (.cons (.t7 .here) (.cons (.t12 (.t2 .here)) (.cons (.t12 (.t2 .here)) (.cons (.there .here) (.cons (.t12 (.there .here)) (.cons (.there .here) (.cons (.there .here) (.cons (.there .here) (.cons (.there .here) (.cons (.t7 .here) (.cons (.t7 .here) (.cons (.t4 .here) (.cons (.t4 .here) (.cons (.t4 .here) (.cons (.t4 .here) (.cons (.t4 .here) (.cons (.t4 .here) (.cons (.t2 .here) (.cons (.t2 .here) (.cons (.there .here) .nil)))))))))))))))))))))) hw)
                exact ⟨hO1, hp1, hr1, (by show F1.toFF.roots = _; rw [hF1, copyF_roots2]), ⟨hv2, hC2, htb.len⟩⟩
            intro y hy
            refine gC ?_
            refine ldA (.t12 (.t9 .here)) (PU.fds _) ?_
            refine lp (σ := Int) (fun i => (6 - i).toNat) (fun i => 0 ≤ i ∧ i ≤ 6) (fun i => [(133, .int .i64 i), (0, ptr b.kb 0 0), (8, ptr b.kb 0 (0 + 0 + n.toNat * 22)), (10, .int .i64 ch), (12, .int .i64 (a.s.in_ n).1), (14, ptr y.2.1 0 0), (132, .agg (fdA (a.u n).fd))]) (fun i => XM W (foot [.cells b.kb 0 453 (encKn (kp a b c)), .cells b.gb 0 60 (Gr.encGt a.g), .cells b.sb 0 158 (Sp.encT a.s), .cells b.qb 0 2281 (Fa.encS c.q), .fam Fa.fam30 (Fa.SC.rows 254 c.q), .cells b.bb 0 577 (Vm.encK b.vp a.v.by_ a.v.rf), .cells b.vp 0 71 (Vm.encP a.v.bb.pool), .cfam (lvA a) c.mb 34 (cN b.bb a.f c.pp c.cc), .fam (lvA a) (rN 171 a.f c.pp c.cc), .cells b.tb 0 321 (Tr.encF c.F), .fam Tr.fam40 (Tr.FC.rowsN 9 c.F), .fam Tr.fam40 (Tr.FC.rowsK 3 c.F), irow c.rp c.rc 3 c.rl, .cells b.pi 0 24 (Tr.encP a.P), .cells b.ob 0 122 (Tr.encO b.tb b.pi a.O), .cfam (hrA a) (fun z => (c.t z).b) 4 (cT b.tb c.t), .fam (hrA a) (rT 168 c.t)]) [.cells b.kb 0 453 (encKn ({ kp a b c with ms := fset (kp a b c).ms (a.s.add a.dep (a.s.in_ n).1).1 (ptr y.2.2.2.2.2.1.b 0 0) } : KP)), .cells b.gb 0 60 (Gr.encGt (a.gC n)), .cells b.sb 0 158 (Sp.encT ((a.s.add a.dep (a.s.in_ n).1).2.2.enter (a.dA n true) (a.s.add a.dep (a.s.in_ n).1).1 ch).2.2), .cells b.qb 0 2281 (Fa.encS c.q), .fam Fa.fam30 (Fa.SC.rows 254 c.q), .cells b.bb 0 577 (Vm.encK b.vp (a.v.fork (a.f n.toNat)).by_ (a.v.fork (a.f n.toNat)).rf), .cells b.vp 0 71 (Vm.encP (a.v.fork (a.f n.toNat)).bb.pool), .cells (c.mb n.toNat) 0 34 (Vm.encN b.bb (c.pp n.toNat) (Vm.runs (a.f n.toNat).is_).length (c.cc n.toNat) (a.f n.toNat).fr (fun _ => false)), frow (c.pp n.toNat) (c.cc n.toNat) 171 3 (Vm.runs (a.f n.toNat).is_).length (Vm.rgC (Vm.runs (a.f n.toNat).is_)), .cells y.1 0 34 (Vm.encN b.bb y.2.2.1 (Vm.runs (a.f n.toNat).is_).length y.2.2.2.1 (a.f n.toNat).fr (fun _ => false)), frow y.2.2.1 y.2.2.2.1 171 3 (Vm.runs (a.f n.toNat).is_).length (Vm.rgC (Vm.runs (a.f n.toNat).is_)), .cfam (outP (lvA a) n.toNat) c.mb 34 (cN b.bb a.f c.pp c.cc), .fam (outP (lvA a) n.toNat) (rN 171 a.f c.pp c.cc), .cells b.tb 0 321 (Tr.encF y.2.2.2.2.2.2), .fam Tr.fam40 (Tr.FC.rowsN 9 y.2.2.2.2.2.2), .fam Tr.fam40 (Tr.FC.rowsK 3 y.2.2.2.2.2.2), irow c.rp c.rc 3 c.rl, .cells b.pi 0 24 (Tr.encP a.P), .cells b.ob 0 122 (Tr.encO b.tb b.pi (shN (a.u n).fd a.O i.toNat)), .cfam (inP (hrA a) (a.s.add a.dep (a.s.in_ n).1).1.toNat) (fun z => ((fupd c.t (a.s.add a.dep (a.s.in_ n).1).1.toNat y.2.2.2.2.2.1) z).b) 4 (cT b.tb (fupd c.t (a.s.add a.dep (a.s.in_ n).1).1.toNat y.2.2.2.2.2.1)), .fam (inP (hrA a) (a.s.add a.dep (a.s.in_ n).1).1.toNat) (rT 168 (fupd c.t (a.s.add a.dep (a.s.in_ n).1).1.toNat y.2.2.2.2.2.1)), .cells y.2.1 0 22 (((kp a b c).kid n y.1).cell)]) (0) ?_ (.cons rfl (S6 rfl rfl rfl rfl rfl rfl)) (fun _ hw => XM.pick .h22 hw) ?_
            · skip
              omega
            intro i hi
            have hfdi := ho.wk.fd n i
            refine gC ?_
            refine cd rfl ?_ ?_ <;> intro h5
            · skip
              refine XO.v (V.indexArrV rfl rfl Tryz.underlying83 sz_3_1 sc_3 (by omega)) rfl (gO ?_)
              refine cd rfl ?_ ?_ <;> intro h6
              · skip
                have h26 : (a.u n).fd i > 0 := h6
                refine ld .here (encKn.ld_o _) ?_
                refine sd (by omega) ?_
                refine ca (Tr.f_Share _ _ _ _ _ (T + 6) (by omega) ((shN_inv (f := (a.u n).fd) ho.wk.OI i.toNat).mono (by omega)) _) (.cons (.t12 (.t6 .here)) .nil) ?_
                rintro _ _ ⟨rfl, rfl⟩
                refine gO ?_
                refine sd (by omega) ?_
                refine ag (i + 1) ?_ ?_ (.cons rfl (S6 rfl rfl rfl rfl rfl rfl)) (fun _ hw2 => by rw [shN_hit _ hi.1 h26]; exact XM.pick (.cons (.there .here) (.cons (.there .here) (.cons (.there .here) (.cons (.there .here) (.cons (.there .here) (.cons (.there .here) (.cons (.there .here) (.cons (.there .here) (.cons (.there .here) (.cons (.there .here) (.cons (.there .here) (.cons (.there .here) (.cons (.there .here) (.cons (.there .here) (.cons (.there .here) (.cons (.there .here) (.cons (.there .here) (.cons (.there .here) .h4)))))))))))))))))) hw2)
                · skip
                  (first | omega | (simp; done) | (simp; omega))
                · skip
                  (first | omega | (simp; done) | (simp; omega))
              · skip
                have h26 : ¬ (a.u n).fd i > 0 := h6
                refine sd (by omega) ?_
                refine ag (i + 1) ?_ ?_ (.cons rfl (S6 rfl rfl rfl rfl rfl rfl)) (fun _ hw2 => by rw [shN_miss _ hi.1 h26]; exact XM.pick .h22 hw2)
                · skip
                  (first | omega | (simp; done) | (simp; omega))
                · skip
                  (first | omega | (simp; done) | (simp; omega))
            · skip
              refine rq [0, 1, 2, 3, 4, 5, 6] mixed (by kernel_rfl) ?_
              refine ldA (.t12 (.t9 .here)) (PU.agg _) ?_
              refine sd (by omega) ?_
              refine stA .here (encKn.put_ _ (by omega) _) rfl ⟨rfl, rfl⟩ ?_
              refine rq [0, 1, 2, 3, 4, 5, 6, 7, 8, 9] mixed (by kernel_rfl) ?_
              refine ld .here (encKn.ld_q _) ?_
              refine ld .here (encKn.ld_grp _ (by omega)) ?_
              refine ca (Fa.f_AddTask _ _ c.q c.d hc.qO.inv hc.qR ch _ 100) (.cons (.t3 .here) (.cons (.t3 .here) .nil)) ?_
              rintro _ _ ⟨rfl, q1, hq1, hr1, rfl⟩
              obtain ⟨d1, hok1⟩ : ∃ d1, q1.toSF.Ok d1 (N + 1) N := by rw [hq1]; exact hc.qO.addT (by omega) _ _ _
              refine gO ?_
              refine ld (.t2 .here) (encKn.ld_q _) ?_
              refine ca (Fa.f_wake _ _ q1 d1 hok1.inv hr1 ch true) .h2 ?_
              rintro _ _ ⟨rfl, q2, hq2, hr2, rfl⟩
              have hok2 : q2.toSF.Ok d1 (N + 1) N := by rw [hq2]; exact hok1.wake _ _
              refine gO ?_
              refine ld (.t2 .here) (encKn.ld_s _) ?_
              refine ca (Sp.t_Pid _ _ ((a.s.add a.dep (a.s.in_ n).1).2.2.enter (a.dA n true) (a.s.add a.dep (a.s.in_ n).1).1 ch).2.2 _ _) (.cons (.t4 .here) .nil) ?_
              rintro _ _ ⟨rfl, rfl⟩
              refine gO ?_
              refine XR.mono (fun _ hw3 => XM.backM (f := a.f) (a.f n.toNat).bare (lvA_at hlr (by omega)) (.cons (.t7 .here) (.cons (.t7 .here) (.cons (.t9 .here) (.cons (.t9 .here) .nil)))) hw3) ?_
              refine XR.mono (fun _ hw3 => XM.newM (a.f n.toNat).bare (lvA_no ⟨hch.1.1, by omega⟩ hc0) (.cons (.t9 .here) (.cons (.t9 .here) .h2)) hw3) ?_
              refine XE.ret2 rfl rfl rfl (post_of (.cons (.t5 .here) (.cons (.t5 .here) (.cons (.t2 .here) (.cons (.t2 .here) (.cons (.t2 .here) (.cons (.t2 .here) (.cons (.t2 .here) .h10))))))) rfl ?_)
              try dsimp only [SW.den, SV.den, dens, ofC]
              have hi6 : i = 6 := by omega
              subst hi6
              have hfc : a.free = ch := KA.free_at ⟨hch.1.1, by omega⟩ hc0 hch.2
              subst hfc
              have hg0 : a.gE n = 0 := hge0
              have e1 : a.forkE n true = 0 := by unfold KA.forkE; rw [if_neg (by omega), if_neg (by omega), if_neg (by omega)]; exact hin
              have e2 : a.forkV n true = ((a.forkC n true).s.pid a.free (a.sz n)).1 := by unfold KA.forkV; rw [if_pos e1]
              have e3 : a.forkA n true = a.forkC n true := by unfold KA.forkA; rw [if_neg (by omega), if_neg (by exact fun q => q hin)]
              have e4 : ((a.forkC n true).s.pid a.free (a.sz n)).2 = 0 := hI.pid.1
              have hc2 : Con (a.forkC n true) { c with mb := fupd c.mb a.free.toNat y.1, pp := fupd (fupd c.pp n.toNat (c.pp n.toNat)) a.free.toNat y.2.2.1, cc := fupd (fupd c.cc n.toNat (c.cc n.toNat)) a.free.toNat y.2.2.2.1, q := q2, d := d1, F := y.2.2.2.2.2.2, t := fupd c.t (a.s.add a.dep (a.s.in_ n).1).1.toNat y.2.2.2.2.2.1 } (N + 1) (T + 20) := by
                refine ⟨hok2.mono (Nat.le_refl _) (by omega), hr2, FF.Ok.up hy.1 (by omega), hy.2.1.trans hc.rp, hy.2.2.1.trans hc.rc, hy.2.2.2.1.trans hc.rl, fun z h0 h1 h2 => ?_⟩
                by_cases ez : z.toNat = (a.s.add a.dep (a.s.in_ n).1).1.toNat
                · show (fupd c.t _ y.2.2.2.2.2.1 z.toNat).Ok
                  rw [ez, fupd_eq]; exact hy.2.2.2.2
                · show (fupd c.t _ y.2.2.2.2.2.1 z.toNat).Ok
                  rw [fupd_ne _ _ ez]
                  refine hc.tb z h0 h1 ?_
                  rw [hI.here_] at h2
                  have h2 : (a.s.add a.dep (a.s.in_ n).1).2.2.here z = true := h2
                  rw [(SS.add_new hin).2.2, fset_ne _ _ (by omega)] at h2
                  exact h2
              rw [e1, e2, e3]
              refine ⟨?_, _, hc2, ?_⟩
              · rw [← e4]; rfl
              · rw [kp_fork (c' := { c with mb := fupd c.mb a.free.toNat y.1, pp := fupd (fupd c.pp n.toNat (c.pp n.toNat)) a.free.toNat y.2.2.1, cc := fupd (fupd c.cc n.toNat (c.cc n.toNat)) a.free.toNat y.2.2.2.1, q := q2, d := d1, F := y.2.2.2.2.2.2, t := fupd c.t (a.s.add a.dep (a.s.in_ n).1).1.toNat y.2.2.2.2.2.1 }) (K := ({ kp a b c with ms := fset (kp a b c).ms (a.s.add a.dep (a.s.in_ n).1).1 (ptr y.2.2.2.2.2.1.b 0 0) } : KP)) ho.wk hI rfl rfl ⟨⟨rfl, rfl, rfl, rfl⟩, rfl, rfl, rfl⟩ (kp_forkMs hI hin (SS.Inv.at0 ho.wk.sI ho.r0.loc) c _ rfl), lvA_fork hI, hrA_forkT hI hin]
                all_goals rfl
    · skip
      refine cdT rfl (by omega) ?_
      refine XE.ret2 rfl rfl rfl (post_of .h17 rfl ?_)
      try dsimp only [SW.den, SV.den, dens, ofC]
      have hfc : a.free = 20 := KA.free_no (fun j j0 j1 => hch.2 j j0 (by omega))
      have e1 : a.forkE n true = 4 := by unfold KA.forkE; rw [if_neg (by omega), if_pos hfc]
      have e2 : a.forkV n true = 0 := by unfold KA.forkV; rw [if_neg (by omega)]
      have e3 : a.forkA n true = a := by unfold KA.forkA; rw [if_pos (by omega)]
      rw [e1, e2, e3]; exact ⟨rfl, c, hc.up (by omega) (by omega), rfl⟩
  · skip
    try dsimp only [errvL0, errvL1, errvL2, errvL3, errvL4, errvL5, errvL6, errvL7, errvL8, errvL9, errvL10, errvL11, errvL12, errvL13]
    have hl : a.live n ≠ 0 := hl
    have hlk : (kp a b c).live n = a.live n := rfl
    rw [hlk]
    refine gO ?_
    refine XE.ret2 rfl rfl rfl (post_of .h17 rfl ?_)
    try dsimp only [SW.den, SV.den, dens, ofC]
    have e1 : a.forkE n true = a.live n := by unfold KA.forkE; rw [if_pos hl]
    have e2 : a.forkV n true = 0 := by unfold KA.forkV; rw [if_neg (by omega)]
    have e3 : a.forkA n true = a := by unfold KA.forkA; rw [if_pos (by omega)]
    rw [e1, e2, e3, errv_pos _ hl]; exact ⟨rfl, c, hc.up (by omega) (by omega), rfl⟩
end Go.X.Kn

namespace Go.X.Kn
open Go Go.Proofs Go.X
set_option maxRecDepth 20000
set_option maxHeartbeats 4000000
theorem bs1_55 (z : Int) : ∀ w, (Instr.buildSlice 55 1 #[(0, .int .i64 z)]).run Tryz.prog w = .ok (.slice (some ⟨w.heap.size, 0, none⟩) 1 1) (w.alloc (.cells #[.int .i64 z] 3)) := fun w => by kernel_rfl
theorem rt_3_1 : rowT Tryz.prog 3 1 = true := by kernel_rfl
theorem light_any (p : Option Addr) (l c : Nat) (m : Int) : Spec Tryz.prog 47 [.slice p l c, .int .i64 m]
 []
 (fun v H1 => v = .bool (decide ((l : Int) ≤ m)) ∧ H1 = []) := by
  refine Spec.go 9 [0, 1, 4] [] Tryz.func47 rfl rfl rfl ?_
  intro W
  refine XE.ret1 rfl rfl (post_of .nil rfl ?_)
  try dsimp only [SW.den, SV.den, dens, ofC]
  exact ⟨rfl, rfl⟩
theorem texts_any (bl ol len cap : Nat) (hlen : len ≤ cap) (A : Int → ActV) (hA : ∀ z : Int, 0 ≤ z → z < len → (A z).ok) (hL : len ≤ 1000000) (m : Int) : Spec Tryz.prog 48 [.slice (some ⟨bl, ol, none⟩) len cap, .int .i64 m]
 [.ro bl ol (8 * len) (encActs A)]
 (fun v H1 => (∃ b, v = .bool b ∧ (b = true → ∀ z : Int, 0 ≤ z → z < len → ((A z).s.size : Int) ≤ m ∧ ((A z).t.size : Int) ≤ m)) ∧ H1 = []) := by
  refine Spec.go 30 [0, 1, 4, 5, 9, 29] [] Tryz.func48 rfl rfl rfl ?_
  intro W
  refine lp (σ := Int) (fun k => (len - k).toNat) (fun k => 0 ≤ k ∧ k ≤ len ∧ ∀ z : Int, 0 ≤ z → z < k → ((A z).s.size : Int) ≤ m ∧ ((A z).t.size : Int) ≤ m) (fun k => [(5, .int .i64 k), (0, .slice (some ⟨bl, ol, none⟩) len cap), (1, .int .i64 m)]) (fun k => XM W (foot [.ro bl ol (8 * len) (encActs A)]) [.ro bl ol (8 * len) (encActs A)]) (0) ?_ (S3 rfl rfl rfl) (fun _ hw => XM.pick .h1 hw) ?_
  · skip
    exact ⟨by omega, by omega, fun z h1 h2 => by omega⟩
  intro k hk
  obtain ⟨hk0, hk1, hkk⟩ := hk
  refine gC ?_
  refine cd rfl ?_ ?_ <;> intro h1
  · skip
    refine sd (by omega) ?_
    refine ldRo .here (acts_ld_S A len _ (by omega)) ?_
    refine sp 20 rfl ?_ ?_ <;> intro h2
    · skip
      refine XE.ret1 rfl rfl (post_of .nil rfl ?_)
      try dsimp only [SW.den, SV.den, dens, ofC]
      first
      | exact ⟨⟨false, rfl, fun q => by cases q⟩, rfl⟩
      | exact ⟨⟨true, rfl, fun _ z h1 h2 => hkk z h1 (by omega)⟩, rfl⟩
    · skip
      refine sd (by omega) ?_
      refine ldRo .here (acts_ld_T A len _ (by omega)) ?_
      refine cd rfl ?_ ?_ <;> intro h3
      · skip
        refine XE.ret1 rfl rfl (post_of .nil rfl ?_)
        try dsimp only [SW.den, SV.den, dens, ofC]
        first
        | exact ⟨⟨false, rfl, fun q => by cases q⟩, rfl⟩
        | exact ⟨⟨true, rfl, fun _ z h1 h2 => hkk z h1 (by omega)⟩, rfl⟩
      · skip
        refine sd (by omega) ?_
        refine ag (k + 1) ?_ ?_ (S3 rfl rfl rfl) (fun _ hw => XM.pick .h1 hw)
        · skip
          (first | omega | (simp; done) | (simp; omega))
        · skip
          refine ⟨by omega, by omega, fun z h1 h2 => ?_⟩
          by_cases hz : z = k
          · subst hz; exact ⟨by omega, by omega⟩
          · exact hkk z h1 (by omega)
  · skip
    refine XE.ret1 rfl rfl (post_of .nil rfl ?_)
    try dsimp only [SW.den, SV.den, dens, ofC]
    first
    | exact ⟨⟨false, rfl, fun q => by cases q⟩, rfl⟩
    | exact ⟨⟨true, rfl, fun _ z h1 h2 => hkk z h1 (by omega)⟩, rfl⟩
theorem texts_nil (p : Option Addr) (cap : Nat) (m : Int) : Spec Tryz.prog 48 [.slice p 0 cap, .int .i64 m]
 []
 (fun v H1 => v = .bool true ∧ H1 = []) := by
  refine Spec.go 30 [0, 1, 4, 5, 9] [] Tryz.func48 rfl rfl rfl ?_
  intro W
  refine lp (σ := Int) (fun k => 0) (fun k => 0 ≤ k) (fun k => [(5, .int .i64 k), (0, .slice p 0 cap), (1, .int .i64 m)]) (fun k => XM W (foot []) []) (0) ?_ (S3 rfl rfl rfl) (fun _ hw => XM.pick .nil hw) ?_
  · skip
    omega
  intro k hk
  refine gC ?_
  refine cdF rfl (by simp; omega) ?_
  refine XE.ret1 rfl rfl (post_of .nil rfl ?_)
  try dsimp only [SW.den, SV.den, dens, ofC]
  exact ⟨rfl, rfl⟩
theorem few_nil (p : Option Addr) (cap : Nat) (m : Int) : Spec Tryz.prog 13 [.slice p 0 cap, .int .i64 m]
 []
 (fun v H1 => (∃ b, v = .bool b ∧ (b = true → ((0 : Nat) : Int) ≤ m)) ∧ H1 = []) := by
  refine Spec.go 12 [0, 1, 4] [] Tryz.func13 rfl rfl rfl ?_
  intro W
  refine ca (light_any _ _ _ _) .nil ?_
  rintro _ _ ⟨rfl, rfl⟩
  refine gO ?_
  refine sp 8 rfl ?_ ?_ <;> intro h1
  · skip
    refine ca (texts_nil _ _ _) .nil ?_
    rintro _ _ ⟨rfl, rfl⟩
    refine gO ?_
    refine XE.ret1 rfl rfl (post_of .nil rfl ?_)
    try dsimp only [SW.den, SV.den, dens, ofC]
    exact ⟨⟨true, rfl, fun _ => by omega⟩, rfl⟩
  · skip
    refine XE.ret1 rfl rfl (post_of .nil rfl ?_)
    try dsimp only [SW.den, SV.den, dens, ofC]
    exact ⟨⟨false, rfl, fun q => by cases q⟩, rfl⟩
theorem k_Tick0 (kb : Nat) (k : KP) (q : Fa.SC) (hq : q.toSF = Q2) (hR : q.Rep) : Spec Tryz.prog 46 [ptr kb 0 0]
 [.cells kb 0 453 (encKn k), .cells k.qb 0 2281 (Fa.encS q), .fam Fa.fam30 (Fa.SC.rows 254 q)]
 (fun v H1 => v = .int .i64 0 ∧ ∃ t : Fa.SC, t.toSF = (Q2.tick dK).2 ∧ t.Rep ∧ H1 = [.cells kb 0 453 (encKn k), .cells k.qb 0 2281 (Fa.encS t), .fam Fa.fam30 (Fa.SC.rows 254 t)]) := by
  refine Spec.go 8 [0, 2] [] Tryz.func46 rfl rfl rfl ?_
  intro W
  refine ld .here (encKn.ld_q _) ?_
  refine ca (Fa.f_Tick _ _ q dK (by rw [hq]; exact Q2_ok.inv) hR (fun n a b => Nat.le_trans (Q2_ok.dep n a b) (by omega)) (2000000000 * 0) (by omega) (by rw [hq]; exact Q2_ok.small) (by show 0 ≤ q.toSF.now ∧ q.toSF.now ≤ 2000000000 * 0; rw [hq]; exact Q2_ok.now) (by rw [hq]; exact (Q2_ok.tick0 (by omega)).set)) (.cons (.there .here) (.cons (.there .here) .nil)) ?_
  rintro _ _ ⟨rfl, t, ht, hr, rfl⟩
  rw [hq, Q2_tick]
  rw [hq] at ht
  refine gO ?_
  refine XE.ret1 rfl rfl (post_of (.cons (.t2 .here) .h2) rfl ?_)
  try dsimp only [SW.den, SV.den, dens, ofC]
  exact ⟨rfl, t, ht, hr, rfl⟩
theorem k_Procs (kb : Nat) (k : KP) : Spec Tryz.prog 27 [ptr kb 0 0]
 [.cells kb 0 453 (encKn k)]
 (fun v H1 => ∃ p cap, v = .slice p (Vm.allL (fun n => decide ((k.u n).st = 1)) 20).length cap ∧ H1 = [irow p cap 3 (Vm.allL (fun n => decide ((k.u n).st = 1)) 20), .cells kb 0 453 (encKn k)]) := by
  refine Spec.go 22 [0, 2, 3, 4, 5, 6, 15] [] Tryz.func27 rfl rfl rfl ?_
  intro W
  refine XR.nilRow 3 1 ?_
  refine lp (σ := Int × List Int × Option Addr × Nat) (fun x => (20 - x.1).toNat) (fun x => (0 ≤ x.1 ∧ x.1 ≤ 20) ∧ x.2.1 = Vm.allL (fun n => decide ((k.u n).st = 1)) x.1.toNat) (fun x => [(3, .slice x.2.2.1 x.2.1.length x.2.2.2), (5, .int .i64 x.1), (0, ptr kb 0 0)]) (fun x => XM W (foot [.cells kb 0 453 (encKn k)]) [irow x.2.2.1 x.2.2.2 3 x.2.1, .cells kb 0 453 (encKn k)]) ((0, [], none, 0)) ?_ (S3 rfl rfl rfl) (fun _ hw => XM.pick .h2 hw) ?_
  · skip
    exact ⟨by simp, rfl⟩
  intro x hx
  obtain ⟨hx, hL⟩ := hx
  have hlen := Vm.allL_length (fun n => decide ((k.u n).st = 1)) x.1.toNat
  rw [← hL] at hlen
  have hnx := Vm.allI_next (fun n => decide ((k.u n).st = 1)) hx.1
  refine gC ?_
  refine cd rfl ?_ ?_ <;> intro h1
  · skip
    refine sd (by omega) ?_
    refine ld (.there .here) (encKn.ld_st _ (by omega)) ?_
    refine cd rfl ?_ ?_ <;> intro h2
    · skip
      have h52 := h2
      refine XO.buildSlice (A := #[.int .i64 _]) (vs := #[(0, .int .i64 _)]) rfl (bs1_55 _) rfl rfl ?_
      intro h3
      refine gO ?_
      refine XO.appendI (e := 3) rfl rfl Tryz.underlying55 rt_3_1 (.there .here) .here (by omega) rfl ?_
      intro h4 h5
      refine gO ?_
      refine sd (by omega) ?_
      refine ag ((x.1 + 1, x.2.1 ++ [x.1], _, _)) ?_ ?_ (S3 rfl rfl rfl) (fun _ hw => XM.pick (.cons .here (.cons (.there .here) .nil)) hw)
      · skip
        (show (20 - (x.1 + 1)).toNat < (20 - x.1).toNat; omega)
      · skip
        exact ⟨(by show 0 ≤ x.1 + 1 ∧ x.1 + 1 ≤ 20; omega), (by show x.2.1 ++ [x.1] = _; rw [hL]; exact (hnx.1 (by simpa using h52)).symm)⟩
    · skip
      have h52 := h2
      refine sd (by omega) ?_
      refine ag ((x.1 + 1, x.2.1, _, _)) ?_ ?_ (S3 rfl rfl rfl) (fun _ hw => XM.pick .h2 hw)
      · skip
        (show (20 - (x.1 + 1)).toNat < (20 - x.1).toNat; omega)
      · skip
        exact ⟨(by show 0 ≤ x.1 + 1 ∧ x.1 + 1 ≤ 20; omega), (by show x.2.1 = _; rw [hL]; exact (hnx.2 (by simpa using h52)).symm)⟩
  · skip
    refine XE.ret1 rfl rfl (post_of .h2 rfl ?_)
    try dsimp only [SW.den, SV.den, dens, ofC]
    have hx21 : x.1 = 20 := by omega
    rw [hx21] at hL
    exact ⟨_, _, by rw [hL]; rfl, by rw [hL]; rfl⟩
theorem procs_begun {k : KP} {mb : Nat} (h : Begun k mb) : Vm.allL (fun n => decide ((k.u n).st = 1)) 20 = [0] := by
  have e : (fun n => decide ((k.u n).st = 1)) = fun n => decide (n = 0) := by
    funext n
    rw [h.u]
    by_cases c : n = 0
    · subst c; rw [fset_eq]; rfl
    · rw [fset_ne _ _ c, decide_eq_false c]; rfl
  rw [e]; decide
end Go.X.Kn

namespace Go.X.Kn
open Go Go.Proofs Go.X
set_option maxRecDepth 20000
set_option maxHeartbeats 4000000

theorem k_begunG  : Spec Tryz.prog 12 []
 []
 (fun x H1 => ∃ (b : KZ) (c : KC), x = .tuple #[ptr b.kb 0 0, .bool true] ∧ c.q.toSF = (Q2.tick dK).2 ∧ c.d = dK ∧ Con A0 c 1 2 ∧ H1 = [.cells b.kb 0 453 (encKn (kp A0 b c)), .cells b.gb 0 60 (Gr.encGt A0.g), .cells b.sb 0 158 (Sp.encT A0.s), .cells b.qb 0 2281 (Fa.encS c.q), .fam Fa.fam30 (Fa.SC.rows 254 c.q), .cells b.bb 0 577 (Vm.encK b.vp A0.v.by_ A0.v.rf), .cells b.vp 0 71 (Vm.encP A0.v.bb.pool), .cfam (lvA A0) c.mb 34 (cN b.bb A0.f c.pp c.cc), .fam (lvA A0) (rN 171 A0.f c.pp c.cc), .cells b.tb 0 321 (Tr.encF c.F), .fam Tr.fam40 (Tr.FC.rowsN 9 c.F), .fam Tr.fam40 (Tr.FC.rowsK 3 c.F), irow c.rp c.rc 3 c.rl, .cells b.pi 0 24 (Tr.encP A0.P), .cells b.ob 0 122 (Tr.encO b.tb b.pi A0.O), .cfam (hrA A0) (fun z => (c.t z).b) 4 (cT b.tb c.t), .fam (hrA A0) (rT 168 c.t)]) := by
  refine Spec.go 18 [0, 1, 2, 16] [] Tryz.func12 rfl rfl rfl ?_
  intro W
  refine ca (k_NewG) .nil ?_
  rintro _ _ ⟨b, c, rfl, hq, hd, hc, rfl⟩
  refine gO ?_
  refine ca (k_Tick0 b.kb (kp A0 b c) c.q hq hc.qR) (.cons .here (.cons (.t2 .here) (.cons (.t2 .here) .nil))) ?_
  rintro _ _ ⟨rfl, q2, hq2, hr2, rfl⟩
  refine gO ?_
  refine spF 11 rfl (by simp) ?_
  refine ca (k_Procs b.kb (kp A0 b c)) .h1 ?_
  rintro _ _ ⟨pl, cl, rfl, rfl⟩
  rw [procs_begun (begun_A0 b c)]
  refine gO ?_
  refine cdF rfl (by simp) ?_
  refine XE.ret2 rfl rfl rfl (post_of (.cons (.there .here) (.cons (.t3 .here) (.cons (.t3 .here) (.cons (.there .here) (.cons (.there .here) (.cons (.there .here) (.cons (.there .here) (.cons (.there .here) (.cons (.there .here) (.cons (.there .here) (.cons (.there .here) (.cons (.there .here) (.cons (.there .here) (.cons (.there .here) (.cons (.there .here) (.cons (.there .here) (.cons (.there .here) .nil))))))))))))))))) rfl ?_)
  try dsimp only [SW.den, SV.den, dens, ofC]
  exact ⟨b, { c with q := q2 }, rfl, hq2, hd, ⟨(by show q2.toSF.Ok c.d 1 1; rw [hq2, hd]; exact Q2_ok'), hr2, hc.F, hc.rp, hc.rc, hc.rl, hc.tb⟩, rfl⟩
theorem k_ForkG (a : KA) (b : KZ) (c : KC) (N : Nat) (T : Int) (ho : a.Ok T) (hc : Con a c N T) (hT : T ≤ 800000) (n : Int) (o : Bool) : Spec Tryz.prog 14 [ptr b.kb 0 0, .int .i64 n, .bool o] [.cells b.kb 0 453 (encKn (kp a b c)), .cells b.gb 0 60 (Gr.encGt a.g), .cells b.sb 0 158 (Sp.encT a.s), .cells b.qb 0 2281 (Fa.encS c.q), .fam Fa.fam30 (Fa.SC.rows 254 c.q), .cells b.bb 0 577 (Vm.encK b.vp a.v.by_ a.v.rf), .cells b.vp 0 71 (Vm.encP a.v.bb.pool), .cfam (lvA a) c.mb 34 (cN b.bb a.f c.pp c.cc), .fam (lvA a) (rN 171 a.f c.pp c.cc), .cells b.tb 0 321 (Tr.encF c.F), .fam Tr.fam40 (Tr.FC.rowsN 9 c.F), .fam Tr.fam40 (Tr.FC.rowsK 3 c.F), irow c.rp c.rc 3 c.rl, .cells b.pi 0 24 (Tr.encP a.P), .cells b.ob 0 122 (Tr.encO b.tb b.pi a.O), .cfam (hrA a) (fun z => (c.t z).b) 4 (cT b.tb c.t), .fam (hrA a) (rT 168 c.t)] (fun v H1 => v = .tuple #[.int .i64 (a.forkV n o), errv 102 (a.forkE n o)] ∧ ∃ c1 : KC, Con (a.forkA n o) c1 (N + 1) (T + 20) ∧ H1 = [.cells b.kb 0 453 (encKn (kp (a.forkA n o) b c1)), .cells b.gb 0 60 (Gr.encGt (a.forkA n o).g), .cells b.sb 0 158 (Sp.encT (a.forkA n o).s), .cells b.qb 0 2281 (Fa.encS c1.q), .fam Fa.fam30 (Fa.SC.rows 254 c1.q), .cells b.bb 0 577 (Vm.encK b.vp (a.forkA n o).v.by_ (a.forkA n o).v.rf), .cells b.vp 0 71 (Vm.encP (a.forkA n o).v.bb.pool), .cfam (lvA (a.forkA n o)) c1.mb 34 (cN b.bb (a.forkA n o).f c1.pp c1.cc), .fam (lvA (a.forkA n o)) (rN 171 (a.forkA n o).f c1.pp c1.cc), .cells b.tb 0 321 (Tr.encF c1.F), .fam Tr.fam40 (Tr.FC.rowsN 9 c1.F), .fam Tr.fam40 (Tr.FC.rowsK 3 c1.F), irow c1.rp c1.rc 3 c1.rl, .cells b.pi 0 24 (Tr.encP (a.forkA n o).P), .cells b.ob 0 122 (Tr.encO b.tb b.pi (a.forkA n o).O), .cfam (hrA (a.forkA n o)) (fun z => (c1.t z).b) 4 (cT b.tb c1.t), .fam (hrA (a.forkA n o)) (rT 168 c1.t)]) := by
  cases o
  · exact k_Fork0 a b c N T ho hc hT n
  · exact k_Fork1 a b c N T ho hc hT n
end Go.X.Kn

namespace Go.X.Kn
open Go Go.Proofs Go.X
set_option maxRecDepth 20000
set_option maxHeartbeats 4000000

theorem few_all (bl ol len cap : Nat) (hlen : len ≤ cap) (A : Int → ActV) (hA : ∀ z : Int, 0 ≤ z → z < len → (A z).ok) (m : Int) (hm : m ≤ 1000000) : Spec Tryz.prog 13 [.slice (some ⟨bl, ol, none⟩) len cap, .int .i64 m]
 [.ro bl ol (8 * len) (encActs A)]
 (fun v H1 => (∃ b, v = .bool b ∧ (b = true → (len : Int) ≤ m ∧ ∀ z : Int, 0 ≤ z → z < len → ((A z).s.size : Int) ≤ 80 ∧ ((A z).t.size : Int) ≤ 80)) ∧ H1 = []) := by
  refine Spec.go 12 [0, 1, 4] [] Tryz.func13 rfl rfl rfl ?_
  intro W
  refine ca (light_any _ _ _ _) .nil ?_
  rintro _ _ ⟨rfl, rfl⟩
  refine gO ?_
  refine sp 8 rfl ?_ ?_ <;> intro h1
  · skip
    refine caR 0 (texts_any _ _ len cap hlen A hA (by omega) 80) .h1 rfl ?_
    rintro _ _ ⟨⟨bt, rfl, tx⟩, rfl⟩
    refine gO ?_
    refine XE.ret1 rfl rfl (post_of .nil rfl ?_)
    try dsimp only [SW.den, SV.den, dens, ofC]
    exact ⟨⟨bt, rfl, fun q => ⟨by omega, tx q⟩⟩, rfl⟩
  · skip
    refine XE.ret1 rfl rfl (post_of .nil rfl ?_)
    try dsimp only [SW.den, SV.den, dens, ofC]
    exact ⟨⟨false, rfl, fun q => by cases q⟩, rfl⟩
end Go.X.Kn
