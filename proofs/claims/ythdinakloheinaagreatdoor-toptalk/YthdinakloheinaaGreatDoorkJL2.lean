import Derived.Test.YthdinakloheinaaGreatDoorkJN3
import Derived.Test.YthdinakloheinaaGreatDoorkJF2
namespace Go.X.Kn
open Go Go.Proofs Go.X
set_option maxRecDepth 20000
set_option maxHeartbeats 4000000


attribute [local irreducible] KA.exitA KA.settleA
set_option maxHeartbeats 16000000 in
theorem talk_some (bl ol len cap : Nat) (hlen : len ≤ cap) (A : Int → ActV) (hA : ∀ z : Int, 0 ≤ z → z < len → (A z).ok) : Spec Tryz.prog 4 [.slice (some ⟨bl, ol, none⟩) len cap]
 [.ro 0 0 32 Sg.tab32, .ro bl ol (8 * len) (encActs A)]
 (fun v H1 => v = .bool true ∧ H1 = []) := by
  refine Spec.go 148 [0, 2, 3, 4, 5, 6, 7, 8, 9, 10, 11, 12, 13, 14, 15, 21, 37, 40, 44, 52, 53, 64, 72, 81, 94, 103, 110, 123, 147] [(15, 1)] Tryz.func4 rfl rfl rfl ?_
  intro W
  refine ca (k_begunG) .nil ?_
  rintro _ _ ⟨b, c0, rfl, _, _, hc0, rfl⟩
  refine gO ?_
  refine ca (k_PipeG A0 b c0 1 2 A0_ok hc0 (by omega) 0) .h17 ?_
  rintro _ _ ⟨rfl, c1, hc1, rfl⟩
  rw [P0_V, P0_U, P0_E, errvL0]
  refine gO ?_
  refine spF 34 rfl (by omega) ?_
  refine cdF rfl (by omega) ?_
  refine caR 0 (few_all _ _ len cap hlen A hA 150 (by omega)) (.cons (.t12 (.t6 .here)) .nil) rfl ?_
  rintro _ _ ⟨⟨bf, rfl, hfew⟩, rfl⟩
  refine gO ?_
  refine cdB rfl ?_ ?_ <;> intro h2
  · try simp only [sb] at h2
    refine XE.ret1 rfl rfl (post_of .nil rfl ?_)
    try dsimp only [SW.den, SV.den, dens, ofC]
    exact ⟨rfl, rfl⟩
  · try simp only [sb] at h2
    have hle : (len : Int) ≤ 150 := (hfew (by simpa using h2)).1
    have hTx := (hfew (by simpa using h2)).2
    refine lp (σ := Int × TL) (fun x => (len - x.1).toNat) (fun x => (0 ≤ x.1 ∧ x.1 ≤ len) ∧ x.2.Ok x.1) (fun x => [(8, .string x.2.inn), (9, .string x.2.out), (10, .int .i64 x.1), (0, .slice (some ⟨bl, ol, none⟩) len cap), (3, ptr b.kb 0 0), (5, .int .i64 0), (6, .int .i64 1)]) (fun x => XM W (foot [.ro 0 0 32 Sg.tab32, .ro bl ol (8 * len) (encActs A)]) [.cells b.kb 0 453 (encKn (kp x.2.a b x.2.c)), .cells b.gb 0 60 (Gr.encGt x.2.a.g), .cells b.sb 0 158 (Sp.encT x.2.a.s), .cells b.qb 0 2281 (Fa.encS x.2.c.q), .fam Fa.fam30 (Fa.SC.rows 254 x.2.c.q), .cells b.bb 0 577 (Vm.encK b.vp x.2.a.v.by_ x.2.a.v.rf), .cells b.vp 0 71 (Vm.encP x.2.a.v.bb.pool), .cfam (lvA x.2.a) x.2.c.mb 34 (cN b.bb x.2.a.f x.2.c.pp x.2.c.cc), .fam (lvA x.2.a) (rN 171 x.2.a.f x.2.c.pp x.2.c.cc), .cells b.tb 0 321 (Tr.encF x.2.c.F), .fam Tr.fam40 (Tr.FC.rowsN 9 x.2.c.F), .fam Tr.fam40 (Tr.FC.rowsK 3 x.2.c.F), irow x.2.c.rp x.2.c.rc 3 x.2.c.rl, .cells b.pi 0 24 (Tr.encP x.2.a.P), .cells b.ob 0 122 (Tr.encO b.tb b.pi x.2.a.O), .cfam (hrA x.2.a) (fun z => (x.2.c.t z).b) 4 (cT b.tb x.2.c.t), .fam (hrA x.2.a) (rT 168 x.2.c.t), .ro 0 0 32 Sg.tab32, .ro bl ol (8 * len) (encActs A)]) ((0, ⟨A1, c1, ⟨#[]⟩, ⟨#[]⟩⟩)) ?_ (.cons rfl (S6 rfl rfl rfl rfl rfl rfl)) (fun _ hw => XM.pick (.cons (.there .here) (.cons (.there .here) (.cons (.there .here) (.cons (.there .here) (.cons (.there .here) (.cons (.there .here) (.cons (.there .here) (.cons (.there .here) (.cons (.there .here) (.cons (.there .here) (.cons (.there .here) (.cons (.there .here) (.cons (.there .here) (.cons (.there .here) (.cons (.there .here) (.cons (.there .here) (.cons (.there .here) (.cons (.there .here) .h1)))))))))))))))))) hw) ?_
    · skip
      exact ⟨by simp, TL.begun hc1⟩
    intro x hx0
    obtain ⟨hi, hx⟩ := hx0
    obtain ⟨hf1, hf2, hf3⟩ := hx.facts
    have hsz := hx.sz
    refine gC ?_
    refine cd rfl ?_ ?_ <;> intro h3
    · skip
      have htx := hTx x.1 (by omega) (by omega)
      refine sd (by omega) ?_
      refine ldARo (.t12 (.t6 .here)) (acts_load A len _ (by omega)) ?_
      refine XO.allocZ (z := .agg actZero) (m := 8) (C := cellsOf actZero) (by kernel_rfl) rfl (fun _ _ => rfl) rfl ?_
      intro ba
      refine gO ?_
      refine stA .here (acts_store _) rfl ⟨rfl, rfl⟩ ?_
      refine ctG (σ := TL) (fun y => y.Ok (x.1 + 1)) (fun y => [(0, .slice (some ⟨bl, ol, none⟩) len cap), (3, ptr b.kb 0 0), (5, .int .i64 0), (6, .int .i64 1), (8, .string y.inn), (9, .string y.out), (10, .int .i64 x.1)]) (fun y => XM W (foot [.ro 0 0 32 Sg.tab32, .ro bl ol (8 * len) (encActs A)]) [.cells b.kb 0 453 (encKn (kp y.a b y.c)), .cells b.gb 0 60 (Gr.encGt y.a.g), .cells b.sb 0 158 (Sp.encT y.a.s), .cells b.qb 0 2281 (Fa.encS y.c.q), .fam Fa.fam30 (Fa.SC.rows 254 y.c.q), .cells b.bb 0 577 (Vm.encK b.vp y.a.v.by_ y.a.v.rf), .cells b.vp 0 71 (Vm.encP y.a.v.bb.pool), .cfam (lvA y.a) y.c.mb 34 (cN b.bb y.a.f y.c.pp y.c.cc), .fam (lvA y.a) (rN 171 y.a.f y.c.pp y.c.cc), .cells b.tb 0 321 (Tr.encF y.c.F), .fam Tr.fam40 (Tr.FC.rowsN 9 y.c.F), .fam Tr.fam40 (Tr.FC.rowsK 3 y.c.F), irow y.c.rp y.c.rc 3 y.c.rl, .cells b.pi 0 24 (Tr.encP y.a.P), .cells b.ob 0 122 (Tr.encO b.tb b.pi y.a.O), .cfam (hrA y.a) (fun z => (y.c.t z).b) 4 (cT b.tb y.c.t), .fam (hrA y.a) (rT 168 y.c.t), .ro 0 0 32 Sg.tab32, .ro bl ol (8 * len) (encActs A)]) ?_ ?_
      · skip
        refine ld .here (encAct.ld_Kind _) ?_
        refine cd rfl ?_ ?_ <;> intro h4
        · skip
          refine ld .here (encAct.ld_A _) ?_
          refine ld .here (encAct.ld_On _) ?_
          refine ca (k_ForkG x.2.a b x.2.c (1 + x.1.toNat) (10 + 30 * x.1) hx.ok hx.con (by omega) (A x.1).a _) (.cons (.there .here) (.cons (.there .here) (.cons (.there .here) (.cons (.there .here) (.cons (.there .here) (.cons (.there .here) (.cons (.there .here) (.cons (.there .here) (.cons (.there .here) (.cons (.there .here) (.cons (.there .here) (.cons (.there .here) (.cons (.there .here) (.cons (.there .here) (.cons (.there .here) (.cons (.there .here) (.cons (.there .here) .nil))))))))))))))))) ?_
          rintro _ _ ⟨rfl, c1, hc1, rfl⟩
          obtain ⟨ht2, hp2⟩ := hx.tk.fork hx.ok (A x.1).a (A x.1).on
          refine gO ?_
          refine mtG (⟨x.2.a.forkA (A x.1).a (A x.1).on, c1, x.2.inn, x.2.out⟩) ?_ (.cons rfl (S6 rfl rfl rfl rfl rfl rfl)) (fun _ hw => XM.pick (.cons .here (.cons .here (.cons .here (.cons .here (.cons .here (.cons .here (.cons .here (.cons .here (.cons .here (.cons .here (.cons .here (.cons .here (.cons .here (.cons .here (.cons .here (.cons .here (.cons .here (.cons (.there .here) (.cons (.there .here) .nil))))))))))))))))))) hw)
          exact hx.step (T := 10 + 30 * x.1 + 20) (by omega) ((hx.ok.fork (by omega) _ _).up (by omega) (by omega)) ht2 (by omega) hc1 (by omega) (by rw [hp2])
        · skip
          refine cd rfl ?_ ?_ <;> intro h5
          · skip
            refine ld .here (encAct.ld_A _) ?_
            refine ld .here (encAct.ld_B _) ?_
            refine caR 17 (k_ExitG x.2.a b x.2.c (1 + x.1.toNat) (10 + 30 * x.1) hx.ok hx.con (by omega) (A x.1).a (A x.1).b) (.cons (.there .here) (.cons (.there .here) (.cons (.there .here) (.cons (.there .here) (.cons (.there .here) (.cons (.there .here) (.cons (.there .here) (.cons (.there .here) (.cons (.there .here) (.cons (.there .here) (.cons (.there .here) (.cons (.there .here) (.cons (.there .here) (.cons (.there .here) (.cons (.there .here) (.cons (.there .here) (.cons (.there .here) (.cons (.there .here) .nil)))))))))))))))))) rfl ?_
            rintro _ _ ⟨rfl, c1, hc1, rfl⟩
            obtain ⟨ht2, hp2⟩ := hx.tk.exit hx.ok (A x.1).a (A x.1).b
            refine gO ?_
            refine mtG (⟨x.2.a.exitK (A x.1).a (A x.1).b, c1, x.2.inn, x.2.out⟩) ?_ (.cons rfl (S6 rfl rfl rfl rfl rfl rfl)) (fun _ hw => XM.pick (.cons .here (.cons .here (.cons .here (.cons .here (.cons .here (.cons .here (.cons .here (.cons .here (.cons .here (.cons .here (.cons .here (.cons .here (.cons .here (.cons .here (.cons .here (.cons .here (.cons .here (.cons .here (.cons (.there .here) .nil))))))))))))))))))) hw)
            exact hx.step (by omega) (hx.ok.exitK _ _) ht2 (by omega) hc1 (by omega) (by rw [hp2])
          · skip
            refine cd rfl ?_ ?_ <;> intro h6
            · skip
              refine ld .here (encAct.ld_A _) ?_
              refine ca (k_WaitG x.2.a b x.2.c (1 + x.1.toNat) (10 + 30 * x.1) hx.ok hx.con (by omega) (A x.1).a) (.cons (.there .here) (.cons (.there .here) (.cons (.there .here) (.cons (.there .here) (.cons (.there .here) (.cons (.there .here) (.cons (.there .here) (.cons (.there .here) (.cons (.there .here) (.cons (.there .here) (.cons (.there .here) (.cons (.there .here) (.cons (.there .here) (.cons (.there .here) (.cons (.there .here) (.cons (.there .here) (.cons (.there .here) .nil))))))))))))))))) ?_
              rintro _ _ ⟨rfl, c1, hc1, rfl⟩
              obtain ⟨ht2, hp2⟩ := hx.tk.wait (A x.1).a
              refine gO ?_
              refine mtG (⟨x.2.a.waitA (A x.1).a, c1, x.2.inn, x.2.out⟩) ?_ (.cons rfl (S6 rfl rfl rfl rfl rfl rfl)) (fun _ hw => XM.pick (.cons .here (.cons .here (.cons .here (.cons .here (.cons .here (.cons .here (.cons .here (.cons .here (.cons .here (.cons .here (.cons .here (.cons .here (.cons .here (.cons .here (.cons .here (.cons .here (.cons .here (.cons (.there .here) (.cons (.there .here) .nil))))))))))))))))))) hw)
              exact hx.step (by omega) (hx.ok.wait _) ht2 (by omega) hc1 (by omega) (by rw [hp2])
            · skip
              refine cd rfl ?_ ?_ <;> intro h7
              · skip
                refine ld .here (encAct.ld_A _) ?_
                refine ld .here (encAct.ld_S _) ?_
                refine caR 17 (k_WriteG x.2.a b x.2.c (1 + x.1.toNat) (10 + 30 * x.1) hx.ok hx.con (by omega) (A x.1).a 1 (A x.1).s (by omega)) (.cons (.there .here) (.cons (.there .here) (.cons (.there .here) (.cons (.there .here) (.cons (.there .here) (.cons (.there .here) (.cons (.there .here) (.cons (.there .here) (.cons (.there .here) (.cons (.there .here) (.cons (.there .here) (.cons (.there .here) (.cons (.there .here) (.cons (.there .here) (.cons (.there .here) (.cons (.there .here) (.cons (.there .here) (.cons (.there .here) .nil)))))))))))))))))) rfl ?_
                rintro _ _ ⟨rfl, c1, hc1, rfl⟩
                obtain ⟨ht2, hwr⟩ := hx.tk.write (hx.ok.wk.PI.len 0) x.2.c.F.toFF (A x.1).a (A x.1).s
                refine gO ?_
                refine cd rfl ?_ ?_ <;> intro h8
                · skip
                  have hw0 : x.2.a.writeE x.2.c.F.toFF (A x.1).a 1 (A x.1).s = 0 := h8
                  obtain ⟨_, v0, v1, v2, hb2⟩ := hwr.resolve_right (fun q => q.1 hw0)
                  have hes : ((A x.1).s.extract 0 (x.2.a.writeV x.2.c.F.toFF (A x.1).a 1 (A x.1).s).toNat).size ≤ 80 := by rw [ByteArray.size_extract]; omega
                  refine spF 97 rfl (by omega) ?_
                  refine ld (.t12 (.t6 .here)) (encAct.ld_S _) ?_
                  refine cdF rfl (by omega) ?_
                  refine ld (.t12 (.t6 .here)) (encAct.ld_S _) ?_
                  refine sd (by omega) ?_
                  refine sd (by omega) ?_
                  refine mtG (⟨x.2.a.writeA x.2.c.F.toFF (A x.1).a 1 (A x.1).s, c1, x.2.inn ++ (A x.1).s.extract 0 (x.2.a.writeV x.2.c.F.toFF (A x.1).a 1 (A x.1).s).toNat, x.2.out⟩) ?_ (.cons rfl (S6 rfl rfl rfl rfl rfl rfl)) (fun _ hw => XM.pick (.cons .here (.cons .here (.cons .here (.cons .here (.cons .here (.cons .here (.cons .here (.cons .here (.cons .here (.cons .here (.cons .here (.cons .here (.cons .here (.cons .here (.cons .here (.cons .here (.cons .here (.cons .here (.cons (.there .here) .nil))))))))))))))))))) hw)
                  exact hx.wrote (by omega) (hx.ok.write (by omega) _ _ _ _) ht2 (by omega) hc1 (by omega) ⟨v0, v1, v2⟩ hb2
                · skip
                  have hw0 : x.2.a.writeE x.2.c.F.toFF (A x.1).a 1 (A x.1).s ≠ 0 := h8
                  have hb2 := (hwr.resolve_left (fun q => hw0 q.1)).2
                  refine mtG (⟨x.2.a.writeA x.2.c.F.toFF (A x.1).a 1 (A x.1).s, c1, x.2.inn, x.2.out⟩) ?_ (.cons rfl (S6 rfl rfl rfl rfl rfl rfl)) (fun _ hw => XM.pick (.cons .here (.cons .here (.cons .here (.cons .here (.cons .here (.cons .here (.cons .here (.cons .here (.cons .here (.cons .here (.cons .here (.cons .here (.cons .here (.cons .here (.cons .here (.cons .here (.cons .here (.cons .here (.cons (.there .here) .nil))))))))))))))))))) hw)
                  exact hx.step (by omega) (hx.ok.write (by omega) _ _ _ _) ht2 (by omega) hc1 (by omega) hb2
              · skip
                refine cd rfl ?_ ?_ <;> intro h10
                · skip
                  refine ld .here (encAct.ld_A _) ?_
                  refine ld .here (encAct.ld_C _) ?_
                  refine ca (k_ReadG x.2.a b x.2.c (1 + x.1.toNat) (10 + 30 * x.1) hx.ok hx.con (by omega) (A x.1).a 0 (A x.1).c) (.cons (.there .here) (.cons (.there .here) (.cons (.there .here) (.cons (.there .here) (.cons (.there .here) (.cons (.there .here) (.cons (.there .here) (.cons (.there .here) (.cons (.there .here) (.cons (.there .here) (.cons (.there .here) (.cons (.there .here) (.cons (.there .here) (.cons (.there .here) (.cons (.there .here) (.cons (.there .here) (.cons (.there .here) .nil))))))))))))))))) ?_
                  rintro _ _ ⟨rfl, c1, hc1, rfl⟩
                  obtain ⟨ht2, hrd⟩ := hx.tk.read x.2.c.F.toFF (A x.1).a (A x.1).c
                  refine gO ?_
                  refine cd rfl ?_ ?_ <;> intro h11
                  · skip
                    have hr0 : x.2.a.readE x.2.c.F.toFF (A x.1).a 0 (A x.1).c = 0 := h11
                    have hb2 := (hrd.resolve_right (fun q => q.1 hr0)).2
                    have hv2 : (x.2.a.readV x.2.c.F.toFF (A x.1).a 0 (A x.1).c).size ≤ 12 := by
                      have := hx.ok.wk.PI.len 0
                      rw [← hb2, ByteArray.size_append] at this
                      omega
                    refine sd (by omega) ?_
                    refine mtG (⟨x.2.a.readA x.2.c.F.toFF (A x.1).a 0 (A x.1).c, c1, x.2.inn, x.2.out ++ (x.2.a.readV x.2.c.F.toFF (A x.1).a 0 (A x.1).c)⟩) ?_ (.cons rfl (S6 rfl rfl rfl rfl rfl rfl)) (fun _ hw => XM.pick (.cons .here (.cons .here (.cons .here (.cons .here (.cons .here (.cons .here (.cons .here (.cons .here (.cons .here (.cons .here (.cons .here (.cons .here (.cons .here (.cons .here (.cons .here (.cons .here (.cons .here (.cons (.there .here) (.cons (.there .here) .nil))))))))))))))))))) hw)
                    exact hx.got (by omega) (hx.ok.read (by omega) (hx.con.F.sh (by omega)) _ _ _) ht2 (by omega) hc1 (by omega) hb2
                  · skip
                    have hr0 : x.2.a.readE x.2.c.F.toFF (A x.1).a 0 (A x.1).c ≠ 0 := h11
                    have hb2 := (hrd.resolve_left (fun q => hr0 q.1)).2
                    refine mtG (⟨x.2.a.readA x.2.c.F.toFF (A x.1).a 0 (A x.1).c, c1, x.2.inn, x.2.out⟩) ?_ (.cons rfl (S6 rfl rfl rfl rfl rfl rfl)) (fun _ hw => XM.pick (.cons .here (.cons .here (.cons .here (.cons .here (.cons .here (.cons .here (.cons .here (.cons .here (.cons .here (.cons .here (.cons .here (.cons .here (.cons .here (.cons .here (.cons .here (.cons .here (.cons .here (.cons (.there .here) (.cons (.there .here) .nil))))))))))))))))))) hw)
                    exact hx.step (by omega) (hx.ok.read (by omega) (hx.con.F.sh (by omega)) _ _ _) ht2 (by omega) hc1 (by omega) hb2
                · skip
                  refine mtG (x.2) ?_ (.cons rfl (S6 rfl rfl rfl rfl rfl rfl)) (fun _ hw => XM.pick (.cons (.there .here) (.cons (.there .here) (.cons (.there .here) (.cons (.there .here) (.cons (.there .here) (.cons (.there .here) (.cons (.there .here) (.cons (.there .here) (.cons (.there .here) (.cons (.there .here) (.cons (.there .here) (.cons (.there .here) (.cons (.there .here) (.cons (.there .here) (.cons (.there .here) (.cons (.there .here) (.cons (.there .here) (.cons (.there .here) (.cons (.there .here) .nil))))))))))))))))))) hw)
                  exact hx.next (by omega)
      intro y hy
      obtain ⟨gf1, gf2, gf3⟩ := hy.facts
      have gsz := hy.sz
      refine gC ?_
      refine spF 132 rfl (by omega) ?_
      refine sd (by omega) ?_
      refine spF 140 rfl (by intro q; exact q gf2.symm) ?_
      refine sd (by omega) ?_
      refine cdF rfl (by omega) ?_
      refine sd (by omega) ?_
      refine ag ((x.1 + 1, y)) ?_ ?_ (.cons rfl (S6 rfl rfl rfl rfl rfl rfl)) (fun _ hw => XM.pick .h19 hw)
      · skip
        (show (_ - (x.1 + 1)).toNat < (_ - x.1).toNat; omega)
      · skip
        exact ⟨(by show 0 ≤ x.1 + 1 ∧ x.1 + 1 ≤ _; omega), hy⟩
    · skip
      refine XE.ret1 rfl rfl (post_of .nil rfl ?_)
      try dsimp only [SW.den, SV.den, dens, ofC]
      exact ⟨rfl, rfl⟩
end Go.X.Kn

namespace Go.X.Kn
open Go Go.Proofs Go.X
set_option maxRecDepth 20000
set_option maxHeartbeats 4000000


attribute [local irreducible] KA.exitA KA.settleA
set_option maxHeartbeats 16000000 in
theorem talk_nil' (p : Option Addr) (cap : Nat) : Spec Tryz.prog 4 [.slice p 0 cap]
 [.ro 0 0 32 Sg.tab32]
 (fun v H1 => v = .bool true ∧ H1 = []) := by
  refine Spec.go 148 [0, 2, 3, 4, 5, 6, 7, 8, 9, 10, 21, 37, 40, 44] [] Tryz.func4 rfl rfl rfl ?_
  intro W
  refine ca (k_begunG) .nil ?_
  rintro _ _ ⟨b, c0, rfl, _, _, hc0, rfl⟩
  refine gO ?_
  refine ca (k_PipeG A0 b c0 1 2 A0_ok hc0 (by omega) 0) .h17 ?_
  rintro _ _ ⟨rfl, c1, hc1, rfl⟩
  rw [P0_V, P0_U, P0_E, errvL0]
  refine gO ?_
  refine spF 34 rfl (by omega) ?_
  refine cdF rfl (by omega) ?_
  refine ca (few_nil _ _ 150) .nil ?_
  rintro _ _ ⟨⟨bf, rfl, hfew⟩, rfl⟩
  refine gO ?_
  refine cdB rfl ?_ ?_ <;> intro h2
  · try simp only [sb] at h2
    refine XE.ret1 rfl rfl (post_of .nil rfl ?_)
    try dsimp only [SW.den, SV.den, dens, ofC]
    exact ⟨rfl, rfl⟩
  · try simp only [sb] at h2
    refine lp (σ := Int × TL) (fun x => 0) (fun x => (0 ≤ x.1 ∧ x.1 ≤ (0 : Nat)) ∧ x.2.Ok x.1) (fun x => [(8, .string x.2.inn), (9, .string x.2.out), (10, .int .i64 x.1), (0, .slice p 0 cap), (3, ptr b.kb 0 0), (5, .int .i64 0), (6, .int .i64 1)]) (fun x => XM W (foot [.ro 0 0 32 Sg.tab32]) [.cells b.kb 0 453 (encKn (kp x.2.a b x.2.c)), .cells b.gb 0 60 (Gr.encGt x.2.a.g), .cells b.sb 0 158 (Sp.encT x.2.a.s), .cells b.qb 0 2281 (Fa.encS x.2.c.q), .fam Fa.fam30 (Fa.SC.rows 254 x.2.c.q), .cells b.bb 0 577 (Vm.encK b.vp x.2.a.v.by_ x.2.a.v.rf), .cells b.vp 0 71 (Vm.encP x.2.a.v.bb.pool), .cfam (lvA x.2.a) x.2.c.mb 34 (cN b.bb x.2.a.f x.2.c.pp x.2.c.cc), .fam (lvA x.2.a) (rN 171 x.2.a.f x.2.c.pp x.2.c.cc), .cells b.tb 0 321 (Tr.encF x.2.c.F), .fam Tr.fam40 (Tr.FC.rowsN 9 x.2.c.F), .fam Tr.fam40 (Tr.FC.rowsK 3 x.2.c.F), irow x.2.c.rp x.2.c.rc 3 x.2.c.rl, .cells b.pi 0 24 (Tr.encP x.2.a.P), .cells b.ob 0 122 (Tr.encO b.tb b.pi x.2.a.O), .cfam (hrA x.2.a) (fun z => (x.2.c.t z).b) 4 (cT b.tb x.2.c.t), .fam (hrA x.2.a) (rT 168 x.2.c.t), .ro 0 0 32 Sg.tab32]) ((0, ⟨A1, c1, ⟨#[]⟩, ⟨#[]⟩⟩)) ?_ (.cons rfl (S6 rfl rfl rfl rfl rfl rfl)) (fun _ hw => XM.pick .h18 hw) ?_
    · skip
      exact ⟨by simp, TL.begun hc1⟩
    intro x hx0
    obtain ⟨hi, hx⟩ := hx0
    obtain ⟨hf1, hf2, hf3⟩ := hx.facts
    have hsz := hx.sz
    refine gC ?_
    refine cdF rfl (by simp; omega) ?_
    refine XE.ret1 rfl rfl (post_of .nil rfl ?_)
    try dsimp only [SW.den, SV.den, dens, ofC]
    exact ⟨rfl, rfl⟩
theorem talk_nil : Spec Tryz.prog 4 [.slice none 0 0] [.ro 0 0 32 Sg.tab32] (fun v H1 => v = .bool true ∧ H1 = []) := talk_nil' none 0

end Go.X.Kn
